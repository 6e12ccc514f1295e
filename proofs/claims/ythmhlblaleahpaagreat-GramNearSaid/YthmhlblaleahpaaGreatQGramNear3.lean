/- Rules and contracts, part 3 of 6. -/
import Derived.Test.YthmhlblaleahpaaGreatQGramNear2
import Derived.ProofKit
import Derived.OpenShut
import Derived.ChangeOld
import Derived.Carry
import Derived.ChangeSlices
import Derived.Test.YthmhlblaleahpaaGreatProg
import Derived.KernelRfl
namespace Go.En
open Go.RowKit
section
variable {E : Env} {P : Program} {Γ : Ctx} {M : Mem} {ty : TypeId} {pos : String} {after : Array Edge} {gd : Option (Nat × Bool)} {d : Option Tmp}
 {ops : Array Oper} {Q : Exit → Act → World → Prop} {rest : List Oper} {T T' : TypeId} {x y : Operand} {α : Type} {f : α → VP} {fk : α → List VP} {xs : List α} {k : Nat}
def vk (g : Gr α) (o : Nat) : VP := .pure fun v => ∃ b, g.ob = some b ∧ v = .pointer (some ⟨b, o, none⟩)
instance {g : Gr α} {o : Nat} : One (vk g o) := ⟨fun w F v h => by obtain ⟨b, _, rfl⟩ := h; rfl⟩
instance {g : Gr α} {o : Nat} : Shape (vk g o) [vk g o] := .of_one inferInstance
theorem Has.ptrG {g : Gr α} {o b : Nat} (hob : g.ob = some b) (h : Has E Γ M x (vk g o)) : Has E Γ M x (qM b o) := fun a w F s => by
 obtain ⟨b', hb, e⟩ := h a w F s
 obtain rfl : b = b' := by rw [hob] at hb; exact Option.some.inj hb
 exact e
theorem Has.winG {g : Gr α} {n b : Nat} (hob : g.ob = some b) (h : Has E Γ M x (isGr g n)) : Has E Γ M x (zu b 0 n g.c) := fun a w F s => by
 rcases h a w F s with ⟨h0, _⟩ | ⟨b', hb, e, h1, h2⟩
 ·rw [hob] at h0; cases h0
 ·obtain rfl : b = b' := by rw [hob] at hb; exact Option.some.inj hb
  exact ⟨e, by omega, h2⟩
theorem noneG {g : Gr α} {n : Nat} (hob : g.ob = none) (h : Has E Γ M x (isGr g n)) : ∀ a w F, Sat E Γ M a w F → n = 0 := fun a w F s => by
 rcases h a w F s with ⟨_, h0, _⟩ | ⟨b', hb, _⟩
 ·exact h0
 ·rw [hob] at hb; cases hb
theorem OK1.ixGr {e : TypeId} {n m : Nat} {g : Gr α} {g0 : Bool} {z : Int} (hT : slB P T = some e) (ht : tyB P e = some (m, g0)) (hx : Has E Γ M x (isGr g n)) (hy : Has E Γ M y (isI z)) (h : 0 ≤ z ∧ z < n) :
    OK1 E P Γ M ⟨d, .indexAddr T x y, ty, pos, after, gd⟩ (vk g (z.toNat * m)) := by
  cases hob : g.ob with
  | none =>
    intro a w F s
    have := noneG hob hx a w F s
    omega
  | some b =>
    intro a w F s K Q' hK
    refine OK1.ixWin hT ht (hx.winG hob) hy h a w F s K Q' fun v w' F' ad hv => hK v w' F' ad ?_
    refine ⟨b, hob, ?_⟩
    rw [show z.toNat * m = 0 + z.toNat * m by omega]
    exact hv
theorem OK1.absurdG {o : Oper} {S : VP} {g : Gr α} {j : Nat} (hob : g.ob = none) (hx : Has E Γ M x (vk g j)) : OK1 E P Γ M o S := fun a w F s => by
 obtain ⟨b, hb, _⟩ := hx a w F s
 rw [hob] at hb; cases hb
theorem Ops.absurdG {g : Gr α} {j : Nat} (hob : g.ob = none) (hx : Has E Γ M x (vk g j)) {l : List Oper} : Ops E P ops Q l Γ M := fun a w F s => by
 obtain ⟨b, hb, _⟩ := hx a w F s
 rw [hob] at hb; cases hb
theorem OK1.loadGK {i j : Nat} {g : Gr α} {ys : List α} {y' : α} (hk : ∀ y, (fk y).length = k) (hx : Has E Γ M x (vk g (j * k))) (hM : M[i]? = some (grMK fk g ys)) (hT : tyB P T = some (k, true)) (hS : ys[j]? = some y') :
    OK1 E P Γ M ⟨d, .load T x, ty, pos, after, gd⟩ (Flat (fk y')) := by
  cases hob : g.ob with
  | none => exact OK1.absurdG hob hx
  | some b =>
    refine OK1.loadK (xs := ys ++ g.sp) (i := i) hk (hx.ptrG hob) (by rw [hM]; unfold grMK; rw [hob]) hT ?_
    have hj : j < ys.length := by
      rcases Nat.lt_or_ge j ys.length with h | h
      · exact h
      · rw [List.getElem?_eq_none h] at hS; cases hS
    rw [List.getElem?_append_left hj]; exact hS
theorem OK1.loadGM {i j : Nat} {g : Gr α} {ys : List α} {y' : α} (hx : Has E Γ M x (vk g (j * 1))) (hM : M[i]? = some (grM f g ys)) (hT : tyB P T = some (1, false)) (hS : ys[j]? = some y') :
    OK1 E P Γ M ⟨d, .load T x, ty, pos, after, gd⟩ (f y') := by
  cases hob : g.ob with
  | none => exact OK1.absurdG hob hx
  | some b =>
    rw [Nat.mul_one] at hx
    refine OK1.load1 (i := i) (hx.ptrG hob) (Ss := (ys ++ g.sp).map f) (by rw [hM]; unfold grM; rw [hob]) hT ?_
    have hj : j < ys.length := by
      rcases Nat.lt_or_ge j ys.length with h | h
      · exact h
      · rw [List.getElem?_eq_none h] at hS; cases hS
    rw [List.getElem?_map, List.getElem?_append_left hj, hS]; rfl
theorem Ops.storeGK {i j : Nat} {g0 : Bool} {T : TypeId} {S : VP} {g : Gr α} {ys : List α} {z : α} [sh : Shape S (fk z)] [o1 : Ones (fk z)] (hk : ∀ y, (fk y).length = k) (hx : Has E Γ M x (vk g (j * k))) (hy : Has E Γ M y S)
    (hM : M[i]? = some (grMK fk g ys)) (hT : tyB P T = some (k, g0)) (hl : j < ys.length) {M' : Mem} (hM' : M.set i (grMK fk g (ys.set j z)) = M') (kk : Ops E P ops Q rest Γ M') : Ops E P ops Q (⟨none, .store T x y, ty, pos, after, none⟩ :: rest) Γ M := by
  cases hob : g.ob with
  | none => exact Ops.absurdG hob hx
  | some b =>
    refine .storeK (z := z) (xs := ys ++ g.sp) (i := i) (b := b) (j := j) hk (hx.ptrG hob) hy (by rw [hM]; unfold grMK; rw [hob]) hT (by rw [List.length_append]; omega) (M' := M') ?_ kk
    rw [← hM']
    congr 1
    unfold grMK
    rw [hob, List.set_append_left _ _ hl]
theorem Ops.storeGM {i j : Nat} {T : TypeId} {g : Gr α} {ys : List α} {z : α} [sh : Shape (f z) [f z]] [o1 : One (f z)] (hx : Has E Γ M x (vk g (j * 1))) (hy : Has E Γ M y (f z))
    (hM : M[i]? = some (grM f g ys)) (hT : tyB P T = some (1, false)) (hl : j < ys.length) {M' : Mem} (hM' : M.set i (grM f g (ys.set j z)) = M') (kk : Ops E P ops Q rest Γ M') : Ops E P ops Q (⟨none, .store T x y, ty, pos, after, none⟩ :: rest) Γ M := by
  cases hob : g.ob with
  | none => exact Ops.absurdG hob hx
  | some b =>
    rw [Nat.mul_one] at hx
    refine .storeM (z := z) (xs := ys ++ g.sp) (i := i) (b := b) (off := j) (hx.ptrG hob) hy (by rw [hM]; unfold grM; rw [hob]) hT (by rw [List.length_append]; omega) (M' := M') ?_ kk
    rw [← hM']
    congr 1
    unfold grM
    rw [hob, List.set_append_left _ _ hl]
def nilP : VP := .pure fun v => v = .pointer none
instance : One nilP := ⟨fun w F v h => by rw [show v = .pointer none from h]; rfl⟩
instance : Shape nilP [nilP] := .of_one inferInstance
theorem Has.cP : Has E Γ M (.const (.pointer none)) nilP := fun _ _ _ _ => rfl
theorem Cv.perm {M' : Mem} (h : M.Perm M') : Cv E Γ M Γ M' := fun a w F s =>
 ⟨F, { s with mem := ⟨(h.pairwise_iff (fun {x y} hxy => by
  rcases hxy with h1 | h1
  ·by_cases h2 : y.1 = none
   ·exact .inl h2
   ·exact .inr (fun e => h2 (e.trans h1))
  ·exact .inr (fun e => h1 e.symm))).1 s.mem.apart, fun b C hb => s.mem.each b C (h.mem_iff.2 hb)⟩ }⟩
/-! ### functions over memory of their caller's -/
structure MemIn (M : Mem) (w : World) (F : Blk) : Prop where
 apart : M.Pairwise (fun x y => x.1 = none ∨ x.1 ≠ y.1)
 each : ∀ (b : Nat) (C : MP), (some b, C) ∈ M → b < w.heap.size ∧ ¬ F b ∧ ∃ o, w.heap[b]? = some o ∧ C.h w F o
def blks (M : Mem) : List Nat := M.filterMap (·.1)
theorem mem_blks {M : Mem} {b : Nat} : b ∈ blks M ↔ ∃ C, (some b, C) ∈ M := by
 unfold blks
 rw [List.mem_filterMap]
 constructor
 ·rintro ⟨⟨k, C⟩, h1, h2⟩
  obtain rfl : k = some b := h2
  exact ⟨C, h1⟩
 ·rintro ⟨C, h⟩; exact ⟨_, h, rfl⟩
def RetX (w : World) (F : Blk) (W : List Nat) (R : VP → Mem → Prop) : Ending → World → Prop := fun e w' => ∃ v S M' F', e = .returned v ∧ R S M' ∧ Keep W w w' ∧ (∀ k, F k → F' k) ∧ (∀ k, F' k → vx F w w' k) ∧ S.h w' F' v ∧
 M'.Pairwise (fun x y => x.1 = none ∨ x.1 ≠ y.1) ∧ ∀ (b : Nat) (C : MP), (some b, C) ∈ M' → (w.heap.size ≤ b ∨ b ∈ W) ∧ b < w'.heap.size ∧ ¬ F' b ∧ ∃ o, w'.heap[b]? = some o ∧ C.h w' F' o
def CtrX (P : Program) (f : FuncId) (args : List VP) (M : Mem) (R : VP → Mem → Prop) : Prop :=
 dQ P f ∧ ∀ (w : World) (F : Blk) (vs : List Value), (∀ k, F k → k < w.heap.size) → MemIn M w F → All2 args w F vs → Calls P f vs.toArray w (RetX w F (blks M) R)
theorem CtrX.intro {f : FuncId} {fn : Func} {c : Code} {args : List VP} {M : Mem} {R : VP → Mem → Prop} (hf : P.funcs[f]? = some fn) (hb : fn.body = some c) (hn : (fn.name == "runtime.NumGoroutine") = false) {nt : Nat} (hnt : fn.ntmps = nt)
  (hsz : Nat.ble args.length nt = true) (h : ∀ w F, Tri ⟨w, F, blks M, nt⟩ P c (jC 0 args) M (bodyPost P fn (RetX w F (blks M) R))) : CtrX P f args M R := by
 subst hnt
 refine ⟨⟨fn, hf, by simp [hb], hn⟩, fun w F vs hF hm hargs => ?_⟩
 have hlen := hargs.len
 have hsz' : args.length ≤ fn.ntmps := by simpa using Nat.le_of_ble_eq_true hsz
 refine calls_of_wp hf hb (h w F _ w F ?_)
 refine { defers := rfl, size := ?_, keep := Keep.refl _ _, f0 := fun _ h => h, fnew := fun _ h => .inl h, flt := hF, slots := ?_, mem := ⟨hm.apart, fun k C hk => ?_⟩ }
 ·simp; omega
 ·intro t S ht
  obtain ⟨_, h2⟩ := jU args 0 t S ht
  obtain ⟨v, hv, hS⟩ := hargs.get t S (by simpa using h2)
  have : (vs.toArray ++ Array.replicate (fn.ntmps - vs.toArray.size) undef).getD t undef = v := by
   have hlt : t < vs.length := by
    rcases Nat.lt_or_ge t vs.length with h | h
    ·exact h
    ·simp [List.getElem?_eq_none h] at hv
   have e : vs[t] = v := by rw [List.getElem?_eq_getElem hlt] at hv; exact Option.some.inj hv
   simp [Array.getElem?_append, hlt, e]
  rw [this]; exact hS
 ·obtain ⟨h1, h2, h3⟩ := hm.each k C hk
  exact ⟨.inr (mem_blks.2 ⟨C, hk⟩), h1, h2, h3⟩
theorem Ops.callX {g : FuncId} {xs : List Operand} {ts : Array TypeId} {args : List VP} {Mp Mr : Mem} {R : VP → Mem → Prop} {d : Nat} (hf : CtrX P g args Mp R) (hp : M.Perm (Mp ++ Mr)) (hx : HasL E Γ M xs args) (hd : Nat.blt d E.n = true)
    (kk : ∀ S M', R S M' → Ops E P ops Q rest ((d, S) :: Γ) (M' ++ Mr)) : Ops E P ops Q (⟨some d, .call ⟨.value (.func g), xs.toArray, ts⟩, ty, pos, after, none⟩ :: rest) Γ M := by
  intro a w F s0
  refine wpList_plain rfl fun K hK => ?_
  unfold Oper.wp
  have hr : (execOp a.eval (⟨some d, .call ⟨.value (.func g), xs.toArray, ts⟩, ty, pos, after, none⟩ : Oper)).run P w = .ok (.enter g (xs.map a.eval).toArray) w := by
    have := vZ hf.1 (xs.map a.eval).toArray w
    simpa [go_sem] using this
  rw [hr]
  have hargs := hx.all s0
  have s : Sat E Γ (Mp ++ Mr) a w F := by
    obtain ⟨F', h⟩ := (Cv.perm (E := E) (Γ := Γ) hp) a w F s0
    exact { s0 with mem := ⟨h.mem.apart, fun b C hb => s0.mem.each b C (hp.mem_iff.2 hb)⟩ }
  have hapart := List.pairwise_append.1 s.mem.apart
  have hmp : MemIn Mp w F := ⟨hapart.1, fun b C hb => by
    obtain ⟨_, h2, h3, h4⟩ := s.mem.each b C (List.mem_append_left _ hb)
    exact ⟨h2, h3, h4⟩⟩
  refine (hf.2 w F _ s.flt hmp hargs).mono ?_
  rintro e w' ⟨v, S, M', F', rfl, hR, hk, hsub, hnew, hv, hap, heach⟩
  have hd' : d < E.n := by simpa [Nat.blt_eq] using hd
  have hW : ∀ b, b ∈ blks Mp → ¬ F b := fun b hb hF => by
    obtain ⟨C, hC⟩ := mem_blks.1 hb
    exact (hmp.each b C hC).2.1 hF
  have hsame : ∀ b, F b → w'.heap[b]? = w.heap[b]? := fun b hb => hk.block b (s.flt b hb) (fun h => hW b h hb)
  have hown : ∀ b, b ∈ blks Mp → E.w0.heap.size ≤ b ∨ b ∈ E.W := fun b hb => by
    obtain ⟨C, hC⟩ := mem_blks.1 hb
    exact (s.mem.each b C (List.mem_append_left _ hC)).1
  have hrest : ∀ (b : Nat) (C : MP), (some b, C) ∈ Mr → b ∉ blks Mp ∧ b < w.heap.size := fun b C hb => by
    refine ⟨fun h => ?_, (s.mem.each b C (List.mem_append_right _ hb)).2.1⟩
    obtain ⟨C', hC'⟩ := mem_blks.1 h
    have := hapart.2.2 _ hC' _ hb
    rcases this with h | h
    · cases h
    · exact h rfl
  have s' : Sat E Γ (M' ++ Mr) a w' F' := {
    defers := s.defers, size := s.size
    keep := by
      refine ⟨hk.os.trans s.keep.os, hk.tape.trans s.keep.tape, hk.output.trans s.keep.output, Nat.le_trans s.keep.size hk.size, fun k hk0 hkW => ?_⟩
      rw [hk.block k (Nat.lt_of_lt_of_le hk0 s.keep.size) (fun h => by rcases hown k h with h' | h'; omega; exact hkW h')]
      exact s.keep.block k hk0 hkW
    f0 := fun b h => hsub b (s.f0 b h)
    fnew := fun b h => by
      rcases hnew b h with h1 | h1
      · rcases s.fnew b h1 with h2 | h2
        · exact .inl h2
        · exact .inr ⟨h2.1, Nat.lt_of_lt_of_le h2.2 hk.size⟩
      · exact .inr ⟨Nat.le_trans s.keep.size h1.1, h1.2⟩
    flt := fun b h => by
      rcases hnew b h with h1 | h1
      · exact Nat.lt_of_lt_of_le (s.flt b h1) hk.size
      · exact h1.2
    slots := fun t S h => S.mono _ _ _ _ _ (s.slots t S h) hsame hsub
    mem := by
      refine ⟨List.pairwise_append.2 ⟨hap, hapart.2.1, ?_⟩, ?_⟩
      · rintro ⟨k, C⟩ h1 ⟨k', C'⟩ h2
        cases k with
        | none => exact .inl rfl
        | some b =>
          refine .inr fun e => ?_
          subst e
          obtain ⟨g1, _⟩ := heach b C h1
          obtain ⟨g2, g3⟩ := hrest b C' h2
          rcases g1 with g1 | g1
          · omega
          · exact g2 g1
      · intro b C hb
        rcases List.mem_append.1 hb with h | h
        · obtain ⟨g1, g2, g3, g4⟩ := heach b C h
          refine ⟨?_, g2, g3, g4⟩
          rcases g1 with g1 | g1
          · exact .inl (Nat.le_trans s.keep.size g1)
          · exact hown b g1
        · obtain ⟨g1, g2, g3, o, g4, g5⟩ := s.mem.each b C (List.mem_append_right _ h)
          obtain ⟨r1, r2⟩ := hrest b C h
          refine ⟨g1, Nat.lt_of_lt_of_le g2 hk.size, fun hF => ?_, o, (hk.block b g2 r1).trans g4, C.mono _ _ _ _ _ g5 hsame hsub⟩
          rcases hnew b hF with h1 | h1
          · exact g3 h1
          · omega }
  exact hK _ _ (kk S M' hR _ _ _ (s'.put hd' hv))
theorem dB {fn : Func} {R : VP → Mem → Prop} {S : VP} {W : List Nat} {e : Exit} {a : Act} {w : World} {F : Blk} (he : e = .ret ∨ e = .normal) (s : Sat E Γ M a w F) (hw : E.W = W) {v : Value} (hv : (results fn a.tmps).run P w = .ok v w) (hS : S.h w F v) (hR : R S M) :
  bodyPost P fn (RetX E.w0 E.F0 W R) e a w := by
 have hk := s.keep
 rw [hw] at hk
 have hb : a.defers = [] ∧ ∃ v, (results fn a.tmps).run P w = .ok v w ∧ RetX E.w0 E.F0 W R (.returned v) w :=
  ⟨s.defers, _, hv, v, S, M, F, rfl, hR, hk, s.f0, fun k h => (s.fnew k h).imp id id, hS, s.mem.apart, fun b C hb => by
   obtain ⟨g1, g2, g3, g4⟩ := s.mem.each b C hb
   rw [hw] at g1
   exact ⟨g1, g2, g3, g4⟩⟩
 rcases he with rfl | rfl <;> exact hb
theorem rtX1 {fn : Func} {r : ResultVar} {R : VP → Mem → Prop} {S : VP} {W : List Nat} {e : Exit} (he : e = .ret ∨ e = .normal) (hr : fn.results = #[r]) (hw : E.W = W) (h : ResL E P Γ M [r] [S]) (hR : R S M) : At E Γ M (bodyPost P fn (RetX E.w0 E.F0 W R)) e := by
 intro a w F s
 obtain ⟨vs, h1, h2⟩ := qP hr h s
 match vs, h2 with
 | [v], h2 => exact dB he s hw (by simpa using h1) h2.1 hR
 | [], h2 => exact h2.elim
 | _ :: _ :: _, h2 => exact h2.2.elim
theorem rtX0 {fn : Func} {R : VP → Mem → Prop} {W : List Nat} {e : Exit} (he : e = .ret ∨ e = .normal) (hr : fn.results = #[]) (hw : E.W = W) (hR : R (zQ []) M) : At E Γ M (bodyPost P fn (RetX E.w0 E.F0 W R)) e := by
 intro a w F s
 obtain ⟨vs, h1, h2⟩ := qP (rs := []) hr .nil s
 cases vs with
 | nil => exact dB he s hw (by simpa using h1) (S := zQ []) ⟨[], rfl, trivial⟩ hR
 | cons => exact h2.elim
theorem CtrX.toCtr {f : FuncId} {args : List VP} {R : VP → Mem → Prop} {S : VP} (h : CtrX P f args [] R) (hR : ∀ S' M', R S' M' → S' = S) : Ctr P f args S :=
 ⟨h.1, fun w F vs hF hargs => (h.2 w F vs hF ⟨List.Pairwise.nil, by simp⟩ hargs).mono (by
  rintro e w' ⟨v, S', M', F', rfl, hr, hk, hsub, hnew, hv, _⟩
  obtain rfl := hR S' M' hr
  exact ⟨v, rfl, hk, S'.mono _ _ _ _ _ hv (fun _ _ => rfl) hnew⟩)⟩
end
end Go.En
namespace Go.En
open Go.RowKit Go.Nt Go.Pz Go.Mz
section
variable {E : Env} {P : Program} {Γ : Ctx} {M M' : Mem}
theorem aq {fn : Func} {R : VP → Mem → Prop} {S : VP} {W : List Nat} {e : Exit} {a : Act} {w : World} {F : Blk} (hs : M'.Sublist M) (he : e = .ret ∨ e = .normal) (s : Sat E Γ M a w F) (hw : E.W = W) {v : Value} (hv : (results fn a.tmps).run P w = .ok v w) (hS : S.h w F v) (hR : R S M') :
  bodyPost P fn (RetX E.w0 E.F0 W R) e a w := dB he (s.sub hs) hw hv hS hR
theorem jO {fn : Func} {r : ResultVar} {R : VP → Mem → Prop} {S : VP} {W : List Nat} {e : Exit} (hs : M'.Sublist M) (he : e = .ret ∨ e = .normal) (hr : fn.results = #[r]) (hw : E.W = W) (h : ResL E P Γ M [r] [S]) (hR : R S M') : At E Γ M (bodyPost P fn (RetX E.w0 E.F0 W R)) e := by
 intro a w F s
 obtain ⟨vs, h1, h2⟩ := qP hr h s
 match vs, h2 with
 | [v], h2 => exact aq hs he s hw (by simpa using h1) h2.1 hR
 | [], h2 => exact h2.elim
 | _ :: _ :: _, h2 => exact h2.2.elim
theorem rtX0D {fn : Func} {R : VP → Mem → Prop} {W : List Nat} {e : Exit} (hs : M'.Sublist M) (he : e = .ret ∨ e = .normal) (hr : fn.results = #[]) (hw : E.W = W) (hR : R (zQ []) M') : At E Γ M (bodyPost P fn (RetX E.w0 E.F0 W R)) e := by
 intro a w F s
 obtain ⟨vs, h1, h2⟩ := qP (rs := []) hr .nil s
 cases vs with
 | nil => exact aq hs he s hw (by simpa using h1) (S := zQ []) ⟨[], rfl, trivial⟩ hR
 | cons => exact h2.elim
theorem OK1.slLHK {ty : TypeId} {pos : String} {after : Array Edge} {gd : Option (Nat × Bool)} {d : Option Tmp} {T : TypeId} {x y y2 : Operand} {α : Type} {fk : α → List VP} {xs : List α} {k : Nat} {e : TypeId} {g : Bool} {z z2 : Int} (hT : slB P T = some e) (ht : tyB P e = some (k, g)) (hk : ∀ y, (fk y).length = k) (hx : Has E Γ M x (SlK k fk xs)) (hy : Has E Γ M y (isI z)) (hy2 : Has E Γ M y2 (isI z2)) (h : 0 ≤ z ∧ z ≤ z2 ∧ z2 ≤ xs.length) :
  OK1 E P Γ M ⟨d, .slice T x (some y) (some y2) none, ty, pos, after, gd⟩ (SlK k fk ((xs.take z2.toNat).drop z.toNat)) :=
 OK1.slG (l := z.toNat) (h := z2.toNat) hT ht hx (fun a w F s cap hc => by
  simp only [Instr.sliceBounds, Option.map_some, evI hy a w F s, evI hy2 a w F s, Sem.run_bind, Sem.run_pure, Result.andThen_ok, xa (show 0 ≤ z2 by omega) (show z2 ≤ (cap : Int) by omega),
   xa h.1 (show z ≤ (z2.toNat : Int) by omega)]) (by omega) (by omega)
  (SlK_of (by rw [List.length_drop, List.length_take, Nat.min_eq_left (by omega)]) (by rw [flat_part hk]))
end
section
variable {E : Env} {P : Program} {Γ : Ctx} {M : Mem} {ty : TypeId} {pos : String} {after : Array Edge} {gd : Option (Nat × Bool)} {d : Option Tmp}
 {ops : Array Oper} {Q : Exit → Act → World → Prop} {rest : List Oper} {T T' : TypeId} {x y : Operand} {α : Type} {fk : α → List VP} {xs : List α} {k : Nat}
theorem Ops.eqNilK {d : Nat} {e : TypeId} (hT : slB P T = some e) (hx : Has E Γ M x (SlK k fk xs)) (hd : Nat.blt d E.n = true)
  (kk : ∀ b, (b = true → xs = []) → Ops E P ops Q rest ((d, isB b) :: Γ) M) : Ops E P ops Q (⟨some d, .binOp .eql T x (.const (.slice none 0 0)) T', ty, pos, after, none⟩ :: rest) Γ M := by
 intro a w F s
 refine wpList_plain rfl fun K hK => ?_
 unfold Oper.wp
 obtain ⟨a0, cap, e1, g1, g2, g3, g4⟩ := hx a w F s
 have hu := qF hT
 have key : ∀ n, (Op.equalIn (n + 1) T (.slice a0 xs.length cap) (.slice none 0 0)).run P w = .ok a0.isNone w := by
  intro n
  cases a0 <;> simp [Op.equalIn, Sem.run_bind, zy hu]
 have hq : (Op.equal T (.slice a0 xs.length cap) (.slice none 0 0)).run P w = .ok a0.isNone w := key 9999
 have hr : (execOp a.eval (⟨some d, .binOp .eql T x (.const (.slice none 0 0)) T', ty, pos, after, none⟩ : Oper)).run P w = .ok (.value (.bool a0.isNone)) w := by
  have ec : a.eval (.const (.slice none 0 0)) = .slice none 0 0 := rfl
  simp only [execOp, e1, ec, eqGuard, binOp, Sem.run_bind]
  simp [hq, Sem.run_bind]
 rw [hr]
 have hd' : d < E.n := by simpa [Nat.blt_eq] using hd
 refine hK _ _ (kk a0.isNone (fun h => ?_) _ _ F (s.put hd' rfl))
 rcases g4 with g4 | ⟨b, off, rfl, _⟩
 ·exact List.eq_nil_of_length_eq_zero g4
 ·simp at h
theorem DrB.cv {Γ' : Ctx} {l : List Oper} {bs : List Nat} (c : Cv E Γ M Γ' M) (h : DrB E P l Γ' M Q bs) : DrB E P l Γ M Q bs := fun a w F s => by
 obtain ⟨F', s'⟩ := c a w F s
 exact h a w F' s'
end
abbrev hw0 (bw : Nat) (gt : Gr (List Int)) (n C top : Nat) : Option Nat × MP := (some bw, zB [isGr gt n, isI (C : Int), isI (top : Int)])
abbrev hwM (bw : Nat) (gt : Gr (List Int)) (rs : List (List Int)) (C top : Nat) : Mem := [hw0 bw gt rs.length C top, grM isP gt rs]
theorem co {bw C n top : Nat} {gt : Gr (List Int)} {rs rs' : List (List Int)} (h : rs = rs') (hn : n = rs'.length) : ([hw0 bw gt n C top, grM isP gt rs] : Mem) = hwM bw gt rs' C top := by subst h; subst hn; rfl
theorem hwM_top {bw C top' : Nat} {gt : Gr (List Int)} {rs : List (List Int)} {z : Int} (h : z = (top' : Int)) : ([(some bw, zB [isGr gt rs.length, isI (C : Int), isI z]), grM isP gt rs] : Mem) = hwM bw gt rs C top' := by subst h; rfl
theorem wa {L L' : List Int} (h : L = L') : isP L = isP L' := h ▸ rfl
end Go.En
namespace Go.En
open Go.RowKit Go.Nt Go.Pz
abbrev rc (p : (Bool × List Nat) × Bool × List Nat) : List VP := [isB p.1.1, zD p.1.2, isB p.2.1, zD p.2.2]
theorem qg : ∀ p, (rc p).length = 4 := fun _ => rfl
abbrev nq (q : Rat) : (Bool × List Nat) × Bool × List Nat := (nz q.num, nz (q.den : Int))
abbrev isQs (L : List Rat) : VP := SlK 4 rc (L.map nq)
theorem wZ {L L' : List Rat} (h : L = L') : isQs L = isQs L' := h ▸ rfl
def qf (L : List Rat) (i : Nat) : Rat := L.getD i 0
theorem qf_at {L : List Rat} {i : Nat} (h : i < L.length) : L[i]? = some (qf L i) := by unfold qf; rw [List.getD, List.getElem?_eq_getElem h]; rfl
theorem qf_out {L : List Rat} {i : Nat} (h : L.length ≤ i) : qf L i = 0 := by unfold qf; rw [List.getD, List.getElem?_eq_none h]; rfl
theorem getQ {L : List Rat} {i : Nat} (h : i < L.length) : (L.map nq)[i]? = some (nq (qf L i)) := by rw [List.getElem?_map, qf_at h]; rfl
theorem qf_map {f : Nat → Rat} {n i : Nat} (h : i < n) : qf ((List.range n).map f) i = f i := by unfold qf; rw [List.getD, List.getElem?_map, List.getElem?_range h]; rfl
def QB (L : List Rat) (K : Nat) : Prop := ∀ i, qs (qf L i) ≤ K
theorem qs_zero : qs 0 ≤ 1 := qs_le (by rw [Rat.zero_num]; exact zz (by decide)) (by rw [Rat.zero_den]; exact zz (by decide))
theorem QB.of {L : List Rat} {K : Nat} (hK : 1 ≤ K) (h : ∀ i, i < L.length → qs (qf L i) ≤ K) : QB L K := fun i => by
 rcases Nat.lt_or_ge i L.length with h1 | h1
 ·exact h i h1
 ·rw [qf_out h1]; exact Nat.le_trans qs_zero hK
theorem QB.mono {L : List Rat} {K K' : Nat} (h : QB L K) (hk : K ≤ K') : QB L K' := fun i => Nat.le_trans (h i) hk
theorem QB.raw {L : List Rat} {K : Nat} (h : QB L K) (i : Nat) : (List.length (zA (val ((L.map nq).getD i ((false, []), (false, []))).1.2))) ≤ max K 1 := by
 rcases Nat.lt_or_ge i L.length with h1 | h1
 ·rw [List.getD_eq_getElem?_getD, getQ h1]
  show (List.length (zA (val (zA (qf L i).num.natAbs)))) ≤ _
  rw [zC]; exact Nat.le_trans (qo (h i)) (Nat.le_max_left _ _)
 ·rw [List.getD_eq_getElem?_getD, List.getElem?_eq_none (by rw [List.length_map]; exact h1)]
  show (List.length (zA (val []))) ≤ _
  rw [show val [] = 0 from rfl, zF]; exact Nat.zero_le _
def dotQ (f g : Nat → Rat) : Nat → Rat
 | 0 => 0
 | n + 1 => dotQ f g n + f n * g n
theorem bm {f g : Nat → Rat} {A B : Nat} (hf : ∀ i, qs (f i) ≤ A) (hg : ∀ i, qs (g i) ≤ B) : ∀ n, qs (dotQ f g n) ≤ n * (A + B + 1) + 1
  | 0 => Nat.le_trans qs_zero (Nat.le_add_left _ _)
  | n + 1 => by
    have h1 := ew (bm hf hg n) (ah (hf n) (hg n))
    have h2 : (n + 1) * (A + B + 1) = n * (A + B + 1) + (A + B + 1) := Nat.succ_mul _ _
    show qs (dotQ f g n + f n * g n) ≤ _
    omega
def frs (l : List Int) : List Rat := l.map fun (x : Int) => (x : Rat)
theorem vX (l : List Int) : (frs l).length = l.length := List.length_map _
theorem cx {l : List Int} (i : Nat) : qf (frs l) i = ((cf l i : Int) : Rat) := by
 unfold qf frs cf
 rw [List.getD_eq_getElem?_getD, List.getD_eq_getElem?_getD, List.getElem?_map]
 cases l[i]? with
 | none => rfl
 | some x => rfl
theorem cw {l : List Int} {K : Nat} (h : Bd l K) (hK : 1 ≤ K) : QB (frs l) K := fun i => by rw [cx]; exact qs_int _ hK (h i)
theorem jV {l : List Int} {n : Nat} (h : n < l.length) : (frs l).take (n + 1) = (frs l).take n ++ [((cf l n : Int) : Rat)] := by
 rw [List.take_add_one, qf_at (by rw [vX]; exact h), cx]; rfl
def lsQ (X Y : List Rat) (c : Rat) : List Rat := (List.range X.length).map fun i => qf X i - c * qf Y i
theorem ji (X Y : List Rat) (c : Rat) : (lsQ X Y c).length = X.length := by unfold lsQ; rw [List.length_map, List.length_range]
theorem lsQ_at {X Y : List Rat} {c : Rat} {i : Nat} (h : i < X.length) : qf (lsQ X Y c) i = qf X i - c * qf Y i := qf_map h
theorem lsQ_qb {X Y : List Rat} {c : Rat} {A B D : Nat} (hx : QB X A) (hy : QB Y B) (hc : qs c ≤ D) : QB (lsQ X Y c) (A + D + B + 1) := QB.of (by omega) fun i hi => by
 rw [ji] at hi
 rw [lsQ_at hi]
 have := qs_sub (hx i) (ah hc (hy i))
 omega
def lsN (X Y : List Rat) (c : Rat) (n : Nat) : List Rat := (lsQ X Y c).take n ++ X.drop n
theorem lsN_all (X Y : List Rat) (c : Rat) : lsN X Y c X.length = lsQ X Y c := by
 unfold lsN
 rw [List.take_of_length_le (by rw [ji]; exact Nat.le_refl _), List.drop_eq_nil_of_le (Nat.le_refl _), List.append_nil]
theorem bb {X Y : List Rat} {c : Rat} {n : Nat} (h : n ≤ X.length) : (lsN X Y c n).length = X.length := by
 unfold lsN; rw [List.length_append, List.length_take, List.length_drop, ji]; omega
theorem lsN_at {X Y : List Rat} {c : Rat} {n : Nat} (h : n < X.length) : qf (lsN X Y c n) n = qf X n := by
 unfold lsN qf
 have hl : ((lsQ X Y c).take n).length = n := by rw [List.length_take, ji]; omega
 rw [List.getD_eq_getElem?_getD, List.getD_eq_getElem?_getD, List.getElem?_append_right (by omega), hl, List.getElem?_drop, Nat.sub_self, Nat.add_zero]
theorem lsN_set {X Y : List Rat} {c : Rat} {n : Nat} (h : n < X.length) : (lsN X Y c n).set n (qf X n - c * qf Y n) = lsN X Y c (n + 1) := by
 unfold lsN
 have hl : ((lsQ X Y c).take n).length = n := by rw [List.length_take, ji]; omega
 rw [List.set_append_right _ _ (by omega), hl, Nat.sub_self, List.drop_eq_getElem_cons h, List.set_cons_zero, List.take_add_one, qf_at (L := lsQ X Y c) (i := n) (by rw [ji]; exact h), lsQ_at h]
 simp
theorem lsN_get {X Y : List Rat} {c : Rat} {n : Nat} (h : n < X.length) : ((lsN X Y c n).map nq)[n]? = some (nq (qf X n)) := by rw [getQ (by rw [bb (by omega)]; exact h), lsN_at h]
theorem set_nq {L : List Rat} {n : Nat} {q : Rat} : (L.map nq).set n (nq q) = (L.set n q).map nq := by rw [List.map_set]
section
variable {E : Env} {P : Program} {Γ : Ctx} {M : Mem} {ty : TypeId} {pos : String} {after : Array Edge} {gd : Option (Nat × Bool)} {d : Option Tmp}
 {ops : Array Oper} {Q : Exit → Act → World → Prop} {rest : List Oper} {T T' : TypeId} {x y : Operand} {α : Type} {fk : α → List VP} {xs : List α} {k : Nat}
theorem OK1.appendZK4 {e : TypeId} {g : Bool} {z : Value} (hT : slB P T = some e) (ht : tyB P e = some (4, g)) (hz : qI P e = some z) (hby : byLe P e 1024 = true) (hx : Has E Γ M x zcap) (hy : Has E Γ M y (SlK 4 fk xs)) (hn : xs.length ≤ 4294967296) :
  OK1 E P Γ M ⟨d, .call ⟨.builtin .append, #[x, y], #[T, T]⟩, ty, pos, after, gd⟩ (SlK 4 fk xs) := OK1.appendZ (m := 3) hT ht hz hby hx hy hn
theorem Ops.appendZG {d : Nat} {e : TypeId} {g0 : Bool} {z : Value} {u : α} {zs : List α} (hk : ∀ y, (fk y).length = k) (hk0 : 0 < k) (hT : slB P T = some e) (ht : tyB P e = some (k, g0)) (hz : qI P e = some z) (hZ : ∀ w F, All2 (fk u) w F z.cells.toList) (hby : byLe P e 1024 = true)
  (hx : Has E Γ M x zcap) (hy : Has E Γ M y (SlK k fk zs)) (hn' : zs.length ≤ 4294967296) (h0 : 0 < zs.length) (hd : Nat.blt d E.n = true)
  (kk : ∀ g' : Gr α, Ops E P ops Q rest ((d, isGr g' zs.length) :: Γ) (grMK fk g' zs :: M)) :
  Ops E P ops Q (⟨some d, .call ⟨.builtin .append, #[x, y], #[T, T]⟩, ty, pos, after, none⟩ :: rest) Γ M := by
 intro a w F s
 refine wpList_plain rfl fun K hK => ?_
 have hd' : d < E.n := by simpa [Nat.blt_eq] using hd
 obtain ⟨a0, e1, ha0⟩ := hx a w F s
 obtain ⟨a1, cap, e2, g1, g2, g3, g4⟩ := hy a w F s
 have hu := qF hT
 obtain ⟨inf, hi, hb⟩ : ∃ i, P.info? e = some i ∧ i.bytes ≤ 1024 := by
  unfold byLe at hby
  cases hi : P.info? e with
  | none => simp [hi] at hby
  | some i => rw [hi] at hby; exact ⟨i, rfl, Nat.le_of_ble_eq_true hby⟩
 have hsz : inf.size = k := by
  have := zl (P := P) (w := w) ht
  simp [sizeOf, typeInfo, go_sem, hi] at this; exact this
 have hzz : inf.zero = some z := by unfold qI at hz; rw [hi] at hz; simpa using hz
 have hzs : ∀ k, (Builtin.zeroCells z.cells k).toList = (List.replicate k z.cells.toList).flatten := fun k => by
  unfold Builtin.zeroCells
  rw [xc rfl]
 have hall : ∀ c, All2 ((List.replicate c u).flatMap fk) w F ((List.replicate c z.cells.toList).flatten) := fun c => by rw [wC]; exact (hZ w F).rep c
 rcases g4 with g4 | ⟨b1, off, rfl, hF, vs, hv, hc⟩
 ·omega
 have hlen := hv.ofFlat hk
 have hnews : ∀ j u, vs[j]? = some u → w.cell? ((⟨b1, off, none⟩ : Addr).add j) = some u := fun j u hj => by rw [qS]; exact hc j u hj
 have hnl : vs.length = zs.length * inf.size := by rw [hsz]; exact hlen
 have hml : zs.length ≤ maxLen := by rw [zf]; omega
 have hbytes : zs.length * inf.bytes ≤ 281474976710656 := by have := Nat.mul_le_mul hn' hb; omega
 have hf : K (a.put (some d) (.slice (some ⟨w.heap.size, 0, none⟩) zs.length (grownCap w zs.length 0 e))) { w with heap := w.heap.push (.cells (vs ++ (Builtin.zeroCells z.cells (grownCap w zs.length 0 e - zs.length)).toList).toArray e), drawn := w.drawn + 1 } := by
  obtain ⟨cp, hcp⟩ : ∃ cp, cp = grownCap w zs.length 0 e := ⟨_, rfl⟩
  have h1 : zs.length ≤ cp := by rw [hcp]; exact grownCap_ge _ _ _ _
  have h2 : cp ≤ maxLen := by rw [hcp]; exact grownCap_le_maxLen _ _ _ _ hml
  rw [← hcp]
  have hcs : All2 ((zs ++ List.replicate (cp - zs.length) u).flatMap fk) w F (vs ++ (Builtin.zeroCells z.cells (cp - zs.length)).toList) := by
   rw [List.flatMap_append, hzs]; exact All2.append hv (hall _)
  have s1 := (s.adv (Adv.drew w F)).alloc (T := e) (All2.mono (w := w) (w' := { w with drawn := w.drawn + 1 }) (fun _ _ => rfl) (fun _ h => h) _ _ hcs)
  refine hK _ _ (kk ⟨some w.heap.size, cp, List.replicate (cp - zs.length) u⟩ _ _ F (s1.put hd' (.inr ⟨_, rfl, rfl, ?_, h2⟩)))
  simp; omega
 have earr : vs.toArray ++ Builtin.zeroCells z.cells (grownCap w zs.length 0 e - zs.length) = (vs ++ (Builtin.zeroCells z.cells (grownCap w zs.length 0 e - zs.length)).toList).toArray := by apply Array.ext'; simp
 unfold Oper.wp
 rcases ha0 with rfl | ⟨g0, o0, rfl⟩
 ·have hr := run_append_nil (P := P) w T ty e inf z hu hi hzz ⟨b1, off, none⟩ zs.length cap vs hnl hnews (by omega) (by omega) hbytes
  have hr2 : (execOp a.eval (⟨some d, .call ⟨.builtin .append, #[x, y], #[T, T]⟩, ty, pos, after, none⟩ : Oper)).run P w = .ok (.value (.slice (some ⟨w.heap.size, 0, none⟩) zs.length (grownCap w zs.length 0 e))) { w with heap := w.heap.push (.cells (vs ++ (Builtin.zeroCells z.cells (grownCap w zs.length 0 e - zs.length)).toList).toArray e), drawn := w.drawn + 1 } := by
   simp only [execOp, resolve, invoke, builtin, Sem.run_bind]
   rw [← earr]
   simp [e1, e2, Sem.run_bind, hr]
   first | rfl | exact ⟨rfl, rfl⟩ | done
  rw [hr2]
  exact hf
 ·have hr := run_append_grow (P := P) w T ty e inf z hu hi hzz ⟨g0, o0, none⟩ 0 0 [] (by simp) (by simp) ⟨b1, off, none⟩ zs.length cap vs hnl hnews (by omega) (by omega) (by simp; unfold Builtin.nextslicecap; split <;> omega)
  have hr2 : (execOp a.eval (⟨some d, .call ⟨.builtin .append, #[x, y], #[T, T]⟩, ty, pos, after, none⟩ : Oper)).run P w = .ok (.value (.slice (some ⟨w.heap.size, 0, none⟩) zs.length (grownCap w zs.length 0 e))) { w with heap := w.heap.push (.cells (vs ++ (Builtin.zeroCells z.cells (grownCap w zs.length 0 e - zs.length)).toList).toArray e), drawn := w.drawn + 1 } := by
   simp only [execOp, resolve, invoke, builtin, Sem.run_bind]
   rw [← earr]
   simp [e1, e2, Sem.run_bind, hr]
   first | rfl | exact ⟨rfl, rfl⟩ | done
  rw [hr2]
  exact hf
end
end Go.En
namespace Go.En
open Go.RowKit Go.ChangeShapes Go.WideShapes Go.ChangeAt
section
variable {H : Type} {enc : TypeId × Value → H} {P : Program}
theorem wi (hl : laidOutB P = true) {W W' : World} (hb : Below W.heap.size W W') : ∀ {ts : List TypeId} {vs : List Value} {ds : List (DataW H)} {ps : List MemPlace},
    (ts.all fun t => P.readableRec t && decide (t < P.types.size)) = true → DataW.TrodAll enc P W 0 (fun _ => true) true ts vs ds ps → (∀ x ∈ ps, x.block < W.heap.size) →
    DataW.TrodAll enc P W' 0 (fun b => decide (b < W.heap.size)) true ts vs ds ps
  | [], vs, ds, ps, _, h, _ => by
    obtain ⟨rfl, rfl, rfl⟩ := trodAll_nil h; exact trodAll_mk0
  | t :: ts, vs, ds, ps, hr, h, hp => by
    obtain ⟨v, vs', d, ds', p, q, rfl, rfl, rfl, h1, h2⟩ := trodAll_cons h
    simp only [List.all_cons, Bool.and_eq_true] at hr
    exact trodAll_cons_mk (Below.trod hl hr.1.1 (of_decide_eq_true hr.1.2) h1 hb (fun x hx => hp x (by simp [hx]))) (wi hl hb hr.2 h2 (fun x hx => hp x (by simp [hx])))
theorem bB : ∀ {ts : List TypeId} {vs : List Value} {ds : List (DataW H)} {ps : List MemPlace} {W : World} {base : Nat} {sp : Nat → Bool} {hd : Bool}, DataW.TrodAll enc P W base sp hd ts vs ds ps → vs.length = ts.length ∧ ds.length = ts.length
  | [], vs, ds, ps, _, _, _, _, h => by obtain ⟨rfl, rfl, rfl⟩ := trodAll_nil h; exact ⟨rfl, rfl⟩
  | t :: ts, vs, ds, ps, _, _, _, _, h => by
    obtain ⟨v, vs', d, ds', p, q, rfl, rfl, rfl, h1, h2⟩ := trodAll_cons h
    have := bB h2
    exact ⟨by simp [this.1], by simp [this.2]⟩
def Opens (P : Program) (fn : Func) (f : FuncId) : Prop := ∀ (H : Type) (enc : TypeId × Value → H) (W : World) (base : Nat) (args : Array Value) (ds : List (DataW H)) (ps : List MemPlace),
 (∀ (j : Nat) t v, fn.params[j]? = some t → args[j]? = some v → Value.okWide P W .any base t v) → DataW.TrodAll enc P W 0 (fun _ => true) true fn.params.toList args.toList ds ps →
 (∀ x ∈ ps, x.block < W.heap.size) → ∃ Ss, All2 Ss W (fun b => b < W.heap.size) args.toList ∧ Ctr P f Ss (isB true)
theorem lift_law {C : Checked} {os : Os} {f : FuncId} {fn : Func} {s : ChangeSpec} {conds : List PathCond} {tb : TypeId}
  (own : ownKnob C.prog.godebug = none) (started : os.Started) (noInit : C.prog.inits.idxOf? f = none) (hfn : C.prog.funcs[f]? = some fn)
  (witness : ∃ (w : World) (tape : Tape) (i : Input), w.os = os ∧ (w.forCall tape i).Shaped C.prog ∧ i.vars = [] ∧ Input.okWide C.prog (w.forCall tape i) .any w.heap.size f i ∧
   s.pre6 enc C.prog fn conds false (w.forCall tape i).memory i.args ∧ ({} : Assume).holds C.prog (lone (Frame.enter C.prog f i.args .normal) [] (w.forCall tape i)))
  (hl : laidOutB C.prog = true) (hpar : (fn.params.toList.all fun t => C.prog.readableRec t && decide (t < C.prog.types.size)) = true) (hvars : s.vars = [])
  (hres : fn.resultTypes = #[tb]) (htb : C.prog.underlying tb = some .bool)
  (hs : ∀ ds : List (DataW H), ds.length = fn.params.toList.length → s.fn H ds = { results := [.lit (.bool true)], args := ds }) (hopen : Opens C.prog fn f) :
  ReturnsInHanded {} C os f .any (s.pre6 enc C.prog fn conds false) (s.post enc C.prog fn false true false false) := by
 refine returnsInHanded_of_change (C := C) own started noInit hfn witness ?_
 intro W base args ds gs before hval hW hcnd _
 have hW' := hW
 obtain ⟨p, q, hA0, hV, rfl, hfz, hnd⟩ := hW
 have hA : DataW.TrodAll enc C.prog W 0 (fun _ => true) true fn.params.toList args.toList ds p := hA0
 rw [hvars] at hV
 obtain ⟨rfl, rfl⟩ := trodVars_none hV
 have hlt : ∀ x ∈ p, x.block < W.heap.size := fun x hx => hW'.lt x (by simp [hx])
 obtain ⟨Ss, h1, h2⟩ := hopen H enc W base args ds p hval hA hlt
 have hlen := bB hA
 refine (h2.2 W _ args.toList (fun _ h => h) h1).mono fun e W' => ?_
 rintro ⟨v, rfl, hk, hv⟩
 obtain rfl : v = .bool true := hv
 have bel := hk.below
 refine ⟨_, rfl, _, _, _, [], p, [], hW', ?_, ?_, ?_, ?_, fun h => by cases h⟩
 ·rw [List.append_nil, hs ds hlen.2, hres]
  exact trodAll_mk1 (shut_bool htb _)
 ·rw [List.append_nil, hs ds hlen.2]
  exact wi hl bel hpar hA hlt
 ·rw [List.append_nil, hs ds hlen.2, hvars]; exact hV
 ·exact bel.frame _
theorem rd_K {w : World} {sp : Nat → Bool} {fuel : Nat} {T : TypeId} {k : IntKind} {cs : List Value} {x : DataW H × List MemPlace} (hu : P.underlying T = some (.int k)) (h : DataW.trod enc P w 0 sp true fuel T cs = some x) :
  ∃ z, cs = [.int k z] ∧ rng k z := by
 obtain ⟨n, hc, _, hw⟩ := DataW.trod_int hu h
 exact ⟨n, hc, by simpa [Lit.wf, rng] using hw⟩
theorem rd_I {w : World} {sp : Nat → Bool} {fuel : Nat} {T : TypeId} {cs : List Value} {x : DataW H × List MemPlace} (hu : P.underlying T = some (.int .i64)) (h : DataW.trod enc P w 0 sp true fuel T cs = some x) :
  ∃ z : Int, cs = [.int .i64 z] ∧ -9223372036854775808 ≤ z ∧ z < 9223372036854775808 := by
 obtain ⟨z, rfl, h1, h2⟩ := rd_K hu h
 simp [IntKind.min, IntKind.max, IntKind.signed, IntKind.bits] at h1 h2
 exact ⟨z, rfl, by omega, by omega⟩
theorem vv {α : Type} {p : Nat → α → Prop} : ∀ (n : Nat), (∀ i, i < n → ∃ a, p i a) → ∃ l : List α, l.length = n ∧ ∀ i (h : i < l.length), p i l[i]
  | 0, _ => ⟨[], rfl, fun i h => absurd h (by simp)⟩
  | n + 1, h => by
    obtain ⟨l, h1, h2⟩ := vv n (fun i hi => h i (by omega))
    obtain ⟨a, ha⟩ := h n (by omega)
    refine ⟨l ++ [a], by simp [h1], fun i hi => ?_⟩
    rcases Nat.lt_or_ge i l.length with h3 | h3
    · rw [List.getElem_append_left h3]; exact h2 i h3
    · have : i = n := by simp at hi; omega
      subst this
      rw [List.getElem_append_right h3]; simpa [h1] using ha
theorem jE : ∀ {Ss : List VP} {w : World} {F : Blk} {vs : List Value}, Ss.length = vs.length → (∀ (i : Nat) (S : VP) (v : Value), Ss[i]? = some S → vs[i]? = some v → S.h w F v) → All2 Ss w F vs
 | [], _, _, [], _, _ => trivial
 | S :: Ss, _, _, v :: vs, hl, h => ⟨h 0 S v rfl rfl, jE (by simpa using hl) (fun i S' v' h1 h2 => h (i + 1) S' v' (by simpa using h1) (by simpa using h2))⟩
 | [], _, _, _ :: _, hl, _ => by simp at hl
 | _ :: _, _, _, [], hl, _ => by simp at hl
end
end Go.En
namespace Go.En
open Go.RowKit Go.ChangeShapes Go.WideShapes Go.ChangeAt
section
variable {H : Type} {enc : TypeId × Value → H} {P : Program}
theorem rd_row {α : Type} {f : α → VP} {W : World} {T T' : TypeId} {k : IntKind} {fuel : Nat} {cs : List Value} {x : DataW H × List MemPlace} (hu : P.underlying T = some (.slice T')) (hu' : P.underlying T' = some (.int k)) (hc : P.cellsOf T' = 1)
    (hf : ∀ z, rng k z → ∃ a, ∀ w F, (f a).h w F (.int k z)) (h : DataW.trod enc P W 0 (fun _ => true) true fuel T cs = some x) (hps : ∀ y ∈ x.2, y.block < W.heap.size) : ∃ (v : Value) (xs : List α), cs = [v] ∧ (SlM f xs).h W (fun b => b < W.heap.size) v := by
  rcases open_ints hu hu' hc h with ⟨h1, _⟩ | ⟨a, len, cap, zs, h1, h2, h3, h4, h5, h6, h7, h8⟩
  · exact ⟨_, [], h1, nilM _ _⟩
  · simp only [if_true] at h5
    obtain ⟨l, hl, hget⟩ := vv (p := fun i (x : α) => ∀ w F, (f x).h w F (.int k (zs.getD i 0))) len (fun i hi => by
      have hz : zs.getD i 0 ∈ zs := by
        have : i < zs.length := by omega
        simp [List.getD, this]
      exact hf _ (by simpa [Lit.wf, rng] using h8 _ hz))
    refine ⟨_, l, h1, some a, cap, by rw [hl], by rw [hl]; exact h3, h4, by simp, ?_⟩
    rcases Nat.eq_zero_or_pos len with h0 | h0
    · exact .inl (by omega)
    · have hc0 := h7 0 (by omega)
      have hs : a.spot = none := by
        cases hsp : a.spot with
        | none => rfl
        | some s =>
          simp only [Addr.add, if_true] at hc0
          unfold World.cell? at hc0
          rw [hsp] at hc0
          split at hc0 <;> simp at hc0
      obtain ⟨b, off, sp⟩ := a
      simp only at hs
      subst hs
      right
      refine ⟨b, off, rfl, ?_, (List.range len).map (fun i => .int k (zs.getD i 0)), ?_, fun j u hj => ?_⟩
      · have : MemPlace.cell b (off + 0) ∈ x.2 := by
          rw [h6]
          exact List.mem_map.2 ⟨0, by simp; omega, rfl⟩
        exact hps _ this
      · refine jE (by simp [hl]) (fun i S v hS hv => ?_)
        have hi : i < l.length := by
          rcases Nat.lt_or_ge i l.length with h | h
          · exact h
          · rw [List.getElem?_eq_none (by simpa using h)] at hS; cases hS
        rw [List.getElem?_map, List.getElem?_eq_getElem hi] at hS
        rw [List.getElem?_map, List.getElem?_range (by omega)] at hv
        simp at hS hv
        subst hS; subst hv
        simpa [List.getD] using hget i hi W (fun b => b < W.heap.size)
      · have hjl : j < len := by
          rcases Nat.lt_or_ge j len with h | h
          · exact h
          · rw [List.getElem?_eq_none (by simpa using h)] at hj; cases hj
        rw [List.getElem?_map, List.getElem?_range hjl] at hj
        simp at hj
        subst hj
        have := h7 j (by omega)
        rw [qS] at this
        simpa [List.getD] using this
theorem word_of (z : Int) (h : rng .u64 z) : ∃ n : Nat, ∀ w F, (isU n).h w F (.int .u64 z) := by
 obtain ⟨h1, h2⟩ := h
 simp [IntKind.min, IntKind.max, IntKind.signed, IntKind.bits] at h1 h2
 refine ⟨z.toNat, fun w F => ⟨?_, by omega⟩⟩
 rw [Int.toNat_of_nonneg h1]
def fsB (P : Program) (T : TypeId) : Option (List (TypeId × Nat)) := match P.underlying T with
 | some (.struct fs) => some (fs.toList.map fun f => (f.type, f.offset))
 | _ => none
theorem cu {T : TypeId} {l : List (TypeId × Nat)} (h : fsB P T = some l) : ∃ fs, P.underlying T = some (.struct fs) ∧ fs.size = l.length ∧ ∀ (i t o : Nat), l[i]? = some (t, o) → ∃ f, fs[i]? = some f ∧ f.type = t ∧ f.offset = o := by
  unfold fsB at h
  split at h
  · rename_i fs hu
    obtain rfl := Option.some.inj h
    refine ⟨fs, hu, by simp, fun i t o hi => ?_⟩
    rw [List.getElem?_map] at hi
    cases hf : fs.toList[i]? with
    | none => rw [hf] at hi; cases hi
    | some f =>
      rw [hf] at hi
      simp at hi
      exact ⟨f, by simpa using hf, hi.1, hi.2⟩
  · cases h
end
end Go.En
namespace Go.Proofs.YthmhlblaleahpaaGreat
open Go.En
theorem by22 : byLe Tryz.prog 22 1024 = true := by kernel_rfl
theorem by3 : byLe Tryz.prog 3 1024 = true := by kernel_rfl
theorem by37 : byLe Tryz.prog 37 1024 = true := by kernel_rfl
theorem by41 : byLe Tryz.prog 41 1024 = true := by kernel_rfl
theorem by43 : byLe Tryz.prog 43 1024 = true := by kernel_rfl
theorem by64 : byLe Tryz.prog 64 1024 = true := by kernel_rfl
theorem by86 : byLe Tryz.prog 86 1024 = true := by kernel_rfl
theorem vC : IsExt Tryz.prog 97 add64Entry := ⟨⟨Tryz.f97, Tryz.func97, by kernel_rfl, by kernel_rfl, by kernel_rfl, by kernel_rfl⟩⟩
theorem ar : IsExt Tryz.prog 98 subE := ⟨⟨Tryz.f98, Tryz.func98, by kernel_rfl, by kernel_rfl, by kernel_rfl, by kernel_rfl⟩⟩
theorem qQ : fldB Tryz.prog 102 0 = some (0, 100) := by kernel_rfl
theorem qw : fldB Tryz.prog 102 2 = some (2, 3) := by kernel_rfl
theorem cy : fldB Tryz.prog 110 0 = some (0, 3) := by kernel_rfl
theorem fld110_1 : fldB Tryz.prog 110 1 = some (1, 22) := by kernel_rfl
theorem fld110_2 : fldB Tryz.prog 110 2 = some (2, 100) := by kernel_rfl
theorem aP : fldB Tryz.prog 110 3 = some (3, 100) := by kernel_rfl
theorem fld110_4 : fldB Tryz.prog 110 4 = some (4, 41) := by kernel_rfl
theorem fld110_5 : fldB Tryz.prog 110 5 = some (6, 41) := by kernel_rfl
theorem fld110_6 : fldB Tryz.prog 110 6 = some (8, 3) := by kernel_rfl
theorem zT : fldB Tryz.prog 24 0 = some (0, 3) := by kernel_rfl
theorem zS : fldB Tryz.prog 24 1 = some (1, 3) := by kernel_rfl
theorem qU : fldB Tryz.prog 24 2 = some (2, 22) := by kernel_rfl
theorem qX : fldB Tryz.prog 41 0 = some (0, 4) := by kernel_rfl
theorem qA : fldB Tryz.prog 41 1 = some (1, 39) := by kernel_rfl
theorem vE : fldB Tryz.prog 43 0 = some (0, 41) := by kernel_rfl
theorem xR : fldB Tryz.prog 43 1 = some (2, 41) := by kernel_rfl
theorem fs24 : fsB Tryz.prog 24 = some [(3, 0), (3, 1), (22, 2)] := by kernel_rfl
theorem fs41 : fsB Tryz.prog 41 = some [(4, 0), (39, 1)] := by kernel_rfl
theorem zR : Tryz.prog.follows .mixedOrders = true := by kernel_rfl
theorem pl102 : plB Tryz.prog 102 = some [(0, 1), (1, 1), (2, 1)] := by kernel_rfl
theorem pl110 : plB Tryz.prog 110 = some [(0, 1), (1, 1), (2, 1), (3, 1), (4, 2), (6, 2), (8, 1)] := by kernel_rfl
theorem pl24 : plB Tryz.prog 24 = some [(0, 1), (1, 1), (2, 1)] := by kernel_rfl
theorem pl41 : plB Tryz.prog 41 = some [(0, 1), (1, 1)] := by kernel_rfl
theorem pl43 : plB Tryz.prog 43 = some [(0, 2), (2, 2)] := by kernel_rfl
theorem qv : slB Tryz.prog 100 = some 22 := by kernel_rfl
theorem cG : slB Tryz.prog 117 = some 64 := by kernel_rfl
theorem sl22 : slB Tryz.prog 22 = some 41 := by kernel_rfl
theorem sl35 : slB Tryz.prog 35 = some 37 := by kernel_rfl
theorem sl37 : slB Tryz.prog 37 = some 43 := by kernel_rfl
theorem sl39 : slB Tryz.prog 39 = some 86 := by kernel_rfl
theorem sl64 : slB Tryz.prog 64 = some 3 := by kernel_rfl
theorem sl73 : slB Tryz.prog 73 = some 2 := by kernel_rfl
theorem zw : tyB Tryz.prog 100 = some (1, false) := by kernel_rfl
theorem ty2 : tyB Tryz.prog 2 = some (1, false) := by kernel_rfl
theorem ty22 : tyB Tryz.prog 22 = some (1, false) := by kernel_rfl
theorem ty24 : tyB Tryz.prog 24 = some (3, true) := by kernel_rfl
theorem ty3 : tyB Tryz.prog 3 = some (1, false) := by kernel_rfl
theorem ty37 : tyB Tryz.prog 37 = some (1, false) := by kernel_rfl
theorem ty39 : tyB Tryz.prog 39 = some (1, false) := by kernel_rfl
theorem ty4 : tyB Tryz.prog 4 = some (1, false) := by kernel_rfl
theorem ty41 : tyB Tryz.prog 41 = some (2, true) := by kernel_rfl
theorem ty43 : tyB Tryz.prog 43 = some (4, true) := by kernel_rfl
theorem ty64 : tyB Tryz.prog 64 = some (1, false) := by kernel_rfl
theorem ty73 : tyB Tryz.prog 73 = some (1, false) := by kernel_rfl
theorem ty86 : tyB Tryz.prog 86 = some (1, false) := by kernel_rfl
theorem un130 : Tryz.prog.underlying 130 = some (.int .u64) := by kernel_rfl
theorem un2 : Tryz.prog.underlying 2 = some (.int .i64) := by kernel_rfl
theorem un22 : Tryz.prog.underlying 22 = some (.slice 41) := by kernel_rfl
theorem un3 : Tryz.prog.underlying 3 = some (.int .i64) := by kernel_rfl
theorem un39 : Tryz.prog.underlying 39 = some (.slice 86) := by kernel_rfl
theorem un4 : Tryz.prog.underlying 4 = some .bool := by kernel_rfl
theorem un5 : Tryz.prog.underlying 5 = some (.int .u8) := by kernel_rfl
theorem un86 : Tryz.prog.underlying 86 = some (.int .u64) := by kernel_rfl
theorem un9 : Tryz.prog.underlying 9 = some .string := by kernel_rfl
theorem zero102 : qI Tryz.prog 102 = some (.agg #[.slice none 0 0, .int .i64 0, .int .i64 0]) := by kernel_rfl
theorem zero110 : qI Tryz.prog 110 = some (.agg #[.int .i64 0, .slice none 0 0, .slice none 0 0, .slice none 0 0, .bool false, .slice none 0 0, .bool false, .slice none 0 0, .int .i64 0]) := by kernel_rfl
theorem zero2 : qI Tryz.prog 2 = some (.int .i64 0) := by kernel_rfl
theorem aX : qI Tryz.prog 22 = some (.slice none 0 0) := by kernel_rfl
theorem zg : qI Tryz.prog 24 = some (.agg #[.int .i64 0, .int .i64 0, .slice none 0 0]) := by kernel_rfl
theorem ax : qI Tryz.prog 3 = some (.int .i64 0) := by kernel_rfl
theorem eY : qI Tryz.prog 37 = some (.slice none 0 0) := by kernel_rfl
theorem zG : qI Tryz.prog 41 = some (.agg #[.bool false, .slice none 0 0]) := by kernel_rfl
theorem zt : qI Tryz.prog 43 = some (.agg #[.bool false, .slice none 0 0, .bool false, .slice none 0 0]) := by kernel_rfl
theorem zero64 : qI Tryz.prog 64 = some (.slice none 0 0) := by kernel_rfl
theorem vO : qI Tryz.prog 86 = some (.int .u64 0) := by kernel_rfl
end Go.Proofs.YthmhlblaleahpaaGreat
namespace Go.Proofs.YthmhlblaleahpaaGreat
open Go.En Go.RowKit
set_option maxRecDepth 10000
set_option maxHeartbeats 4000000
open Go.Nt
theorem wz {x y : Nat} : Ctr Tryz.prog 122 [isU x, isU y] (zQ [isU (x * y / 18446744073709551616), isU (x * y % 18446744073709551616)]) := by
 refine Ctr.intro Tryz.func122 rfl (by kernel_rfl) Tryz.ntmps122 rfl fun w0 F0 => .cv (Cv.wk (.l [0, 1] rfl)) (.fact (Has.ltU (Has.t (t := 0) rfl)) fun lt0 => .fact (Has.ltU (Has.t (t := 1) rfl)) fun lt1 => ?_)
 have hf := mul64_facts lt0 lt1
 have hx1 : x / 2 ^ 32 < 4294967296 := by omega
 have hy1 : y / 2 ^ 32 < 4294967296 := by omega
 refine .seq fun _ k1 => .region (st (.as (.cU 0 rfl)) rfl (st (.as (.cU 0 rfl)) rfl (nl (.thn (k1 _ _ (.seq fun _ k2 => .region (st (.mv (.t rfl)) rfl (st (.eq (.andU (.t rfl) (.cU 4294967295 rfl)) (zJ (Nat.and_two_pow_sub_one_eq_mod _ 32))) rfl (st (.as (.t rfl)) rfl (nl (.thn (k2 _ _ (.seq fun _ k3 => .region (st (.mv (.t rfl)) rfl (st (.shrUU (.t rfl) (.cU 32 rfl) (by omega)) rfl (st (.as (.t rfl)) rfl (nl (.thn (k3 _ _ (.seq fun _ k4 => .region (st (.mv (.t rfl)) rfl (st (.eq (.andU (.t rfl) (.cU 4294967295 rfl)) (zJ (Nat.and_two_pow_sub_one_eq_mod _ 32))) rfl (st (.as (.t rfl)) rfl (nl (.thn (k4 _ _ (.cv (Cv.wk (.l [0, 1, 4, 5, 6, 7, 8] rfl)) (.seq fun _ k5 => .region (st (.mv (.t rfl)) rfl (st (.shrUU (.t rfl) (.cU 32 rfl) (by omega)) rfl (st (.as (.t rfl)) rfl (nl (.thn (k5 _ _ (.seq fun _ k6 => .region (st (.mv (.t rfl)) rfl (st (.mv (.t rfl)) rfl (st (.mulU' (.t rfl) (.t rfl) (by omega)) rfl (st (.as (.t rfl)) rfl (nl (.thn (k6 _ _ (.cv (Cv.wk (.l [0, 1, 4, 5, 6, 7, 8, 9, 10] rfl)) ?_)))))))))))))))))))))))))))))))))))))))))))
 refine .seq fun _ k7 => .region (st (.mv (.t rfl)) rfl (st (.mv (.t rfl)) rfl (st (.mulU' (.t rfl) (.t rfl) (by omega)) rfl (st (.mv (.t rfl)) rfl (st (.shrUU (.t rfl) (.cU 32 rfl) (by omega)) rfl (st (.addU' (.t rfl) (.t rfl) (by omega)) rfl (st (.as (.t rfl)) rfl (nl (.thn (k7 _ _ (.cv (Cv.wk (.l [0, 1, 4, 5, 6, 7, 9, 11] rfl)) (.seq fun _ k8 => .region (st (.mv (.t rfl)) rfl (st (.eq (.andU (.t rfl) (.cU 4294967295 rfl)) (zJ (Nat.and_two_pow_sub_one_eq_mod _ 32))) rfl (st (.as (.t rfl)) rfl (nl (.thn (k8 _ _ (.seq fun _ k9 => .region (st (.mv (.t rfl)) rfl (st (.shrUU (.t rfl) (.cU 32 rfl) (by omega)) rfl (st (.as (.t rfl)) rfl (nl (.thn (k9 _ _ (.cv (Cv.wk (.l [0, 1, 4, 5, 6, 7, 9, 12, 13] rfl)) (.seq fun _ k10 => .region (st (.mv (.t rfl)) rfl (st (.mv (.t rfl)) rfl (st (.mv (.t rfl)) rfl (st (.mulU' (.t rfl) (.t rfl) (by omega)) rfl (st (.addU' (.t rfl) (.t rfl) (by omega)) rfl (st (.as (.t rfl)) rfl (nl (.thn (k10 _ _ (.cv (Cv.wk (.l [0, 1, 4, 5, 7, 9, 12, 13] rfl)) (.seq fun _ k11 => .region (st (.mv (.t rfl)) rfl (st (.mv (.t rfl)) rfl (st (.mulU' (.t rfl) (.t rfl) (by omega)) rfl ?_)))))))))))))))))))))))))))))))))))))))))
 refine st (.mv (.t rfl)) rfl (st (.addU' (.t rfl) (.t rfl) (by omega)) rfl (st (.mv (.t rfl)) rfl (st (.shrUU (.t rfl) (.cU 32 rfl) (by omega)) rfl (st (.addU' (.t rfl) (.t rfl) (by omega)) rfl (st (.as (.t rfl)) rfl (nl (.thn (k11 _ _ (.cv (Cv.wk (.l [0, 1, 4, 5] rfl)) (.seq fun _ k12 => .region (st (.mv (.t rfl)) rfl (st (.mv (.t rfl)) rfl (st (.mulU (.t rfl) (.t rfl)) rfl (st (.as (.t rfl)) rfl (nl (.thn (k12 _ _ (.cv (Cv.wk (.l [4, 5] rfl)) (.ret (rtN (.inl rfl) Tryz.results122 rfl rfl (.tmp (Has.t' rfl ?_) (.tmp (Has.t' rfl ?_) .nil))))))))))))))))))))))
 ·exact zJ (mul64_hi x y)
 ·rfl
theorem clone_Nat {xs : List Nat} (hx : xs.length ≤ 4294967296) : Ctr Tryz.prog 83 [zD xs] (zD xs) := by
 refine Ctr.intro Tryz.func83 rfl (by kernel_rfl) Tryz.ntmps83 rfl fun w0 F0 => .cv (Cv.wk (.l [0] rfl)) (.fact (Has.lenLt (Has.t (t := 0) rfl)) fun lt0 => .fact (Has.okW (Has.t (t := 0) rfl)) fun ok0 => .seq fun _ k1 => .region (st (.as (.cW (f := isU))) rfl (nl (.thn (k1 _ _ (.seq fun _ k2 => .seq fun _ k3 => .region (st (.mv (.t rfl)) rfl (.eqNil sl39 (.t rfl) rfl fun bn1 hn1 => nl (.thn (k3 _ _ (.cond (.t rfl) (fun hc2 => ?_) (fun hc2 => ?_))))))))))))
 ·have hc2 := BP.t hc2
  refine .seq fun _ k4 => .region (st (.as (.cW (f := isU))) rfl (nl (.thn (k4 _ _ (.ret (.thr (rt1 (.inl rfl) Tryz.results83 rfl (.tmp (Has.t' rfl ?_) .nil))))))))
  all_goals (rw [hn1 hc2])
 ·have hc2 := BP.f hc2
  refine .skip (.thn (k2 _ _ (.seq fun _ k5 => .region (.buildS0 sl39 ty86 rfl (st (.mv (.t rfl)) rfl (st (.appendZM sl39 ty86 vO by86 (.t rfl) (.t rfl) (by omega)) rfl (st (.as (.t rfl)) rfl (nl (.thn (k5 _ _ (.cv (Cv.wk (.l [2] rfl)) (.ret (rt1 (.inl rfl) Tryz.results83 rfl (.tmp (Has.t' rfl ?_) .nil))))))))))))))
  all_goals (rfl)
theorem qb {xs : List Nat} : Ctr Tryz.prog 79 [zD xs] (zD (zA (val xs))) := by
 refine Ctr.intro Tryz.func79 rfl (by kernel_rfl) Tryz.ntmps79 rfl fun w0 F0 => .cv (Cv.wk (.l [0] rfl)) (.fact (Has.lenLt (Has.t (t := 0) rfl)) fun lt0 => .fact (Has.okW (Has.t (t := 0) rfl)) fun ok0 => .seq fun _ k1 => .region (st (.as (.cW (f := isU))) rfl (nl (.thn (k1 _ _ (.seq fun _ k2 => .region (st (.mv (.t rfl)) rfl (st (.len sl39 (.t rfl)) rfl (st (.as (.t rfl)) rfl (nl (.thn (k2 _ _ (.seq fun _ k3 => .block (.loopF [0, 2] (fun (z : { k : Nat // k ≤ xs.length ∧ ∀ i, k ≤ i → xs.getD i 0 = 0 }) => match z with | ⟨k, hI⟩ => [(3, isI (k : Int))]) (fun M => fun (z : { k : Nat // k ≤ xs.length ∧ ∀ i, k ≤ i → xs.getD i 0 = 0 }) => match z with | ⟨k, hI⟩ => M) (fun (z : { k : Nat // k ≤ xs.length ∧ ∀ i, k ≤ i → xs.getD i 0 = 0 }) => match z with | ⟨k, hI⟩ => k) (⟨xs.length, Nat.le_refl _, fun i hi => by simp [List.getD, List.getElem?_eq_none hi]⟩) (Cv.mem (.c 3 rfl ?_ (.l [0, 2] rfl)) ?_) ?_))))))))))))))
 ·rfl
 ·rfl
 rintro ⟨k, hk, hz⟩ K4 hK4
 refine .cv (Cv.wk (.l [3, 0, 2] rfl)) ?_
 have ek : ((k : Int) - 1).toNat = k - 1 := by omega
 refine .seq fun _ k5 => .seq fun _ k6 => .region (st (.mv (.t rfl)) rfl (st (.gtI (.t rfl) (.cI 0 rfl)) rfl (st (.mv (.t rfl)) rfl (stT rfl rfl (fun hg => .mv (.t rfl)) rfl (stT rfl rfl (fun hg => .mv (.t rfl)) rfl ?_)))))
 refine stT rfl rfl (fun hg => have hg' := BP.t hg; OK1.subI (Has.g rfl hg) (.cI 1 rfl) (by omega) (by omega)) rfl ?_
 refine stT rfl rfl (fun hg => have hg' := BP.t hg; OK1.ixP sl39 ty86 (Has.g rfl hg) (Has.g rfl hg) ⟨by omega, by omega⟩ (getD_some (d := 0) (by omega))) rfl ?_
 refine stT rfl rfl (fun hg => .loadP1 (Has.g rfl hg) ty86) rfl (stT rfl rfl (fun hg => .eqU (Has.g rfl hg) (.cU 0 rfl)) rfl (st (.pickAnd (.t rfl) (fun h => Has.g rfl h)) rfl (nl (.thn (k6 _ _ (.cond (.t rfl) (fun hc1 => ?_) (fun hc1 => ?_)))))))
 ·have hc1 := BP.t hc1
  refine .skip (.thn (k5 _ _ (.block (.region (st (.mv (.t rfl)) rfl (st (.subI (.t rfl) (.cI 1 rfl) (by omega) (by omega)) rfl (st (.as (.t rfl)) rfl (nl (.bln (.thn ?_))))))))))
  refine hK4 (⟨k - 1, by omega, fun i hi => by rcases Nat.lt_or_ge i k with h | h; (have e : i = k - 1 := by omega); (rw [e, ← ek]; exact hc1.2); exact hz i h⟩) _ _ ?_ (Cv.mem (.c 3 rfl ?_ (.l [0, 2] rfl)) ?_)
  ·show k - 1 < k; omega
  ·exact zE (by omega)
  ·rfl
 ·have hc1 := BP.f hc1
  refine .exit (.the (.the (.blh (.thn (k3 _ _ (.cv (Cv.wk (.l [0, 2, 3] rfl)) (.seq fun _ k7 => .region (st (.mv (.t rfl)) rfl (st (.mv (.t rfl)) rfl (st (.slHM sl39 ty86 (.t rfl) (.t rfl) ⟨by omega, by omega⟩) rfl (st (.as (.t rfl)) rfl (nl (.thn (k7 _ _ (.cv (Cv.wk (.l [2] rfl)) (.ret (rt1 (.inl rfl) Tryz.results79 rfl (.tmp (Has.t' rfl ?_) .nil))))))))))))))))))
  all_goals (exact zY (dT ok0 hk hz (by rcases hc1 with h | h; left; omega; right; rwa [ek] at h)))
theorem xW {xs : List Nat} : Ctr Tryz.prog 82 [zD xs] (zD (zA (val xs))) := by
 refine Ctr.intro Tryz.func82 rfl (by kernel_rfl) Tryz.ntmps82 rfl fun w0 F0 => .cv (Cv.wk (.l [0] rfl)) (.fact (Has.lenLt (Has.t (t := 0) rfl)) fun lt0 => .fact (Has.okW (Has.t (t := 0) rfl)) fun ok0 => .seq fun _ k1 => .region (st (.as (.cW (f := isU))) rfl (nl (.thn (k1 _ _ (.seq fun _ k2 => .region (st (.mv (.t rfl)) rfl (st (.call (qb) (.cons (.t rfl) .nil)) rfl (st (.as (.t rfl)) rfl (nl (.thn (k2 _ _ (.seq fun _ k3 => .seq fun _ k4 => .region (st (.mv (.t rfl)) rfl (st (.len sl39 (.t rfl)) rfl (st (.eqI (.t rfl) (.cI 0 rfl)) rfl (nl (.thn (k4 _ _ (.cond (.t rfl) (fun hc1 => ?_) (fun hc1 => ?_)))))))))))))))))))))
 ·have hc1 := BP.t hc1
  refine .seq fun _ k5 => .region (st (.as (.cW (f := isU))) rfl (nl (.thn (k5 _ _ (.cv (Cv.wk (.l [0, 2] rfl)) (.ret (.thr (rt1 (.inl rfl) Tryz.results82 rfl (.tmp (Has.t' rfl ?_) .nil)))))))))
  all_goals (exact zY (List.eq_nil_of_length_eq_zero (by omega)).symm)
 ·have hc1 := BP.f hc1
  refine .skip (.thn (k3 _ _ (.cv (Cv.wk (.l [0, 2] rfl)) (.seq fun _ k6 => .region (st (.mv (.t rfl)) rfl (st (.as (.t rfl)) rfl (nl (.thn (k6 _ _ (.ret (rt1 (.inl rfl) Tryz.results82 rfl (.tmp (Has.t' rfl ?_) .nil))))))))))))
  all_goals (rfl)
theorem nat_Of {x : Nat} : Ctr Tryz.prog 56 [isU x] (zD (zA x)) := by
 refine Ctr.intro Tryz.func56 rfl (by kernel_rfl) Tryz.ntmps56 rfl fun w0 F0 => .cv (Cv.wk (.l [0] rfl)) (.fact (Has.ltU (Has.t (t := 0) rfl)) fun lt0 => .seq fun _ k1 => .region (st (.as (.cW (f := isU))) rfl (nl (.thn (k1 _ _ (.seq fun _ k2 => .seq fun _ k3 => .region (st (.mv (.t rfl)) rfl (st (.eqU (.t rfl) (.cU 0 rfl)) rfl (nl (.thn (k3 _ _ (.cond (.t rfl) (fun hc1 => ?_) (fun hc1 => ?_)))))))))))))
 ·have hc1 := BP.t hc1
  refine .seq fun _ k4 => .region (st (.as (.cW (f := isU))) rfl (nl (.thn (k4 _ _ (.ret (.thr (rt1 (.inl rfl) Tryz.results56 rfl (.tmp (Has.t' rfl ?_) .nil))))))))
  all_goals (exact zY (by rw [hc1, zF]))
 ·have hc1 := BP.f hc1
  refine .skip (.thn (k2 _ _ (.seq fun _ k5 => .region (st (.mv (.t rfl)) rfl (st (.buildS [isU 0] sl39 ty86 vO (fun _ _ => ⟨⟨rfl, by decide⟩, trivial⟩) rfl rfl (.cons (.t rfl) rfl rfl rfl .nil) rfl (S := zD [_]) rfl) rfl (st (.as (.t rfl)) rfl (nl (.thn (k5 _ _ (.cv (Cv.wk (.l [2] rfl)) (.ret (rt1 (.inl rfl) Tryz.results56 rfl (.tmp (Has.t' rfl ?_) .nil)))))))))))))
  all_goals (exact zY (by rw [ay lt0, if_neg (by omega)]))
theorem xM {xs : List Nat} (hx : (List.length (zA (val xs))) ≤ 4294967296) : Ctr Tryz.prog 61 [zD xs] (zD (zA (val xs))) := by
 refine Ctr.intro Tryz.func61 rfl (by kernel_rfl) Tryz.ntmps61 rfl fun w0 F0 => .cv (Cv.wk (.l [0] rfl)) (.fact (Has.lenLt (Has.t (t := 0) rfl)) fun lt0 => .fact (Has.okW (Has.t (t := 0) rfl)) fun ok0 => .seq fun _ k1 => .region (st (.as (.cW (f := isU))) rfl (nl (.thn (k1 _ _ (.seq fun _ k2 => .region (st (.mv (.t rfl)) rfl (st (.call (qb) (.cons (.t rfl) .nil)) rfl (st (.call (clone_Nat (by omega)) (.cons (.t rfl) .nil)) rfl (st (.call (xW) (.cons (.t rfl) .nil)) rfl (st (.as (.t rfl)) rfl (nl (.thn (k2 _ _ (.cv (Cv.wk (.l [2] rfl)) (.ret (rt1 (.inl rfl) Tryz.results61 rfl (.tmp (Has.t' rfl ?_) .nil))))))))))))))))))
 all_goals (rw [zC])
theorem bW {xs ys : List Nat} : Ctr Tryz.prog 93 [zD xs, zD ys] (isI (cmpN (val xs) (val ys))) := by
 refine Ctr.intro Tryz.func93 rfl (by kernel_rfl) Tryz.ntmps93 rfl fun w0 F0 => .cv (Cv.wk (.l [0, 1] rfl)) (.fact (Has.lenLt (Has.t (t := 0) rfl)) fun lt0 => .fact (Has.okW (Has.t (t := 0) rfl)) fun ok0 => .fact (Has.lenLt (Has.t (t := 1) rfl)) fun lt1 => .fact (Has.okW (Has.t (t := 1) rfl)) fun ok1 => ?_)
 have n0 : (zA (val xs)).length ≤ xs.length := aj ok0
 have n1 : (zA (val ys)).length ≤ ys.length := aj ok1
 refine .seq fun _ k1 => .region (st (.as (.cI 0 rfl)) rfl (nl (.thn (k1 _ _ (.seq fun _ k2 => .region (st (.mv (.t rfl)) rfl (st (.call (qb) (.cons (.t rfl) .nil)) rfl (st (.mv (.t rfl)) rfl (st (.call (qb) (.cons (.t rfl) .nil)) rfl (st (.as (.t rfl)) rfl (st (.as (.t rfl)) rfl (nl (.thn (k2 _ _ (.seq fun _ k3 => .seq fun _ k4 => .region (st (.mv (.t rfl)) rfl (st (.len sl39 (.t rfl)) rfl (st (.mv (.t rfl)) rfl (st (.len sl39 (.t rfl)) rfl (st (.neI (.t rfl) (.t rfl)) rfl (nl (.thn (k4 _ _ (.cv (Cv.wk (.l [0, 1, 4, 14] rfl)) (.cond (.t rfl) (fun hc1 => ?_) (fun hc1 => ?_))))))))))))))))))))))))))
 ·have hc1 := BP.t hc1
  refine .seq fun _ k5 => .seq fun _ k6 => .region (st (.mv (.t rfl)) rfl (st (.len sl39 (.t rfl)) rfl (st (.mv (.t rfl)) rfl (st (.len sl39 (.t rfl)) rfl (st (.ltI (.t rfl) (.t rfl)) rfl (nl (.thn (k6 _ _ (.cv (Cv.wk (.l [0, 1, 4, 19] rfl)) (.cond (.t rfl) (fun hc2 => ?_) (fun hc2 => ?_)))))))))))
  ·have hc2 := BP.t hc2
   refine .seq fun _ k7 => .region (st (.as (.cI (-1) rfl)) rfl (nl (.thn (k7 _ _ (.ret (.thr (.thr (rt1 (.inl rfl) Tryz.results93 rfl (.tmp (Has.t' rfl ?_) .nil)))))))))
   all_goals (exact zE (cmp_len_lt (show (zA _).length < (zA _).length by omega)))
  ·have hc2 := BP.f hc2
   refine .skip (.thn (k5 _ _ (.seq fun _ k8 => .region (st (.as (.cI 1 rfl)) rfl (nl (.thn (k8 _ _ (.ret (.thr (rt1 (.inl rfl) Tryz.results93 rfl (.tmp (Has.t' rfl ?_) .nil)))))))))))
   all_goals (exact zE (cmp_len_gt (show (zA _).length < (zA _).length by omega)))
 ·have hc1 := BP.f hc1
  refine .skip (.thn (k3 _ _ (.seq fun _ k9 => .seq fun _ k10 => .region (st (.mv (.t rfl)) rfl (st (.len sl39 (.t rfl)) rfl (st (.subI (.t rfl) (.cI 1 rfl) (by omega) (by omega)) rfl (st (.as (.t rfl)) rfl (nl (.thn (k10 _ _ (.block (.loopF [0, 1] (fun (z : { k : Nat // k ≤ (zA (val xs)).length ∧ val xs / W ^ k = val ys / W ^ k }) => match z with | ⟨k, hI⟩ => [(5, isI ((k : Int) - 1))]) (fun M => fun (z : { k : Nat // k ≤ (zA (val xs)).length ∧ val xs / W ^ k = val ys / W ^ k }) => match z with | ⟨k, hI⟩ => M) (fun (z : { k : Nat // k ≤ (zA (val xs)).length ∧ val xs / W ^ k = val ys / W ^ k }) => match z with | ⟨k, hI⟩ => k) (⟨(zA (val xs)).length, Nat.le_refl _, cmp_start (show (zA _).length = (zA _).length by omega)⟩) (Cv.mem (.c 5 rfl ?_ (.l [0, 1] rfl)) ?_) ?_))))))))))))
  ·rfl
  ·rfl
  rintro ⟨k, hk, he⟩ K11 hK11
  refine .cv (Cv.wk (.l [5, 0, 1] rfl)) ?_
  have ek : ((k : Int) - 1).toNat = k - 1 := by omega
  refine .seq fun _ k12 => .seq fun _ k13 => .region (st (.mv (.t rfl)) rfl (st (.geI (.t rfl) (.cI 0 rfl)) rfl (nl (.thn (k13 _ _ (.cond (.t rfl) (fun hc3 => ?_) (fun hc3 => ?_)))))))
  ·have hc3 := BP.t hc3
   refine .skip (.thn (k12 _ _ (.seq fun _ k14 => .block (.block (.seq fun _ k15 => .dr (.s [] rfl rfl rfl (.o rfl (.mv (.t rfl))) (.s [] rfl rfl rfl (.o rfl (.mv (.t rfl))) (.s [28, 29] rfl rfl rfl (.o rfl (.ixP sl39 ty86 (.t rfl) (.t rfl) ⟨by omega, by omega⟩ (getD_some (d := 0) (by omega)))) (.s [30] rfl rfl rfl (.o rfl (.loadP1 (.t rfl) ty86)) (.s [] rfl rfl rfl (.o rfl (.mv (.t rfl))) (.s [] rfl rfl rfl (.o rfl (.mv (.t rfl))) (.s [32, 33] rfl rfl rfl (.o rfl (.ixP sl39 ty86 (.t rfl) (.t rfl) ⟨by omega, by omega⟩ (getD_some (d := 0) (by omega)))) (.s [34] rfl rfl rfl (.o rfl (.loadP1 (.t rfl) ty86)) (.fin (n := 8) zR (by kernel_rfl) (by kernel_rfl) (by kernel_rfl) (.cv (Cv.wk (.l [0, 1, 5, 23, 24, 28, 29, 30, 31, 32, 33, 34, 35] rfl)) (st (.ltU (.t rfl) (.t rfl)) rfl (st (.as (.t rfl)) rfl (nl (.thn (k15 _ _ (.cond (.t rfl) (fun hc4 => ?_) (fun hc4 => ?_))))))))))))))))))))))
   ·have hc4 := BP.t hc4
    refine .seq fun _ k16 => .region (st (.as (.cI (-1) rfl)) rfl (nl (.thn (k16 _ _ (.ret (.blr (.blr (.thr (.thr (.blr (.thr (rt1 (.inl rfl) Tryz.results93 rfl (.tmp (Has.t' rfl ?_) .nil)))))))))))))
    all_goals (rw [ek] at hc4; exact zE (cmp_lt (by omega) he hc4))
   ·have hc4 := BP.f hc4
    refine .seq fun _ k17 => .dr (.s [] rfl rfl rfl (.o rfl (.mv (.t rfl))) (.s [] rfl rfl rfl (.o rfl (.mv (.t rfl))) (.s [38, 39] rfl rfl rfl (.o rfl (.ixP sl39 ty86 (.t rfl) (.t rfl) ⟨by omega, by omega⟩ (getD_some (d := 0) (by omega)))) (.s [40] rfl rfl rfl (.o rfl (.loadP1 (.t rfl) ty86)) (.s [] rfl rfl rfl (.o rfl (.mv (.t rfl))) (.s [] rfl rfl rfl (.o rfl (.mv (.t rfl))) (.s [42, 43] rfl rfl rfl (.o rfl (.ixP sl39 ty86 (.t rfl) (.t rfl) ⟨by omega, by omega⟩ (getD_some (d := 0) (by omega)))) (.s [44] rfl rfl rfl (.o rfl (.loadP1 (.t rfl) ty86)) (.fin (n := 8) zR (by kernel_rfl) (by kernel_rfl) (by kernel_rfl) (.cv (Cv.wk (.l [0, 1, 5, 23, 24, 28, 29, 30, 31, 32, 33, 34, 35, 36, 27, 38, 39, 40, 41, 42, 43, 44, 45] rfl)) (st (.gtU (.t rfl) (.t rfl)) rfl (st (.as (.t rfl)) rfl (nl (.thn (k17 _ _ (.cond (.t rfl) (fun hc5 => ?_) (fun hc5 => ?_)))))))))))))))))
    ·have hc5 := BP.t hc5
     refine .seq fun _ k18 => .region (st (.as (.cI 1 rfl)) rfl (nl (.thn (k18 _ _ (.ret (.blr (.blr (.thr (.thr (.blr (.thr (rt1 (.inl rfl) Tryz.results93 rfl (.tmp (Has.t' rfl ?_) .nil)))))))))))))
     all_goals (rw [ek] at hc5; exact zE (cmp_gt (by omega) he hc5))
    ·have hc5 := BP.f hc5
     refine .skip (.bln (.bln (.thn (k14 _ _ (.region (st (.mv (.t rfl)) rfl (st (.subI (.t rfl) (.cI 1 rfl) (by omega) (by omega)) rfl (st (.as (.t rfl)) rfl (nl (.thn (hK11 (⟨k - 1, by omega, cmp_step (by omega) he (by rw [ek] at hc4 hc5; omega)⟩) _ _ ?_ (Cv.mem (.c 5 rfl ?_ (.l [0, 1] rfl)) ?_))))))))))))
     ·show k - 1 < k; omega
     ·exact zE (by show _ = ((k - 1 : Nat) : Int) - 1; omega)
     ·rfl
  ·have hc3 := BP.f hc3
   refine .exit (.the (.the (.blh (.thn (k9 _ _ (.cv (Cv.wk .nil) (.seq fun _ k19 => .region (st (.as (.cI 0 rfl)) rfl (nl (.thn (k19 _ _ (.ret (rt1 (.inl rfl) Tryz.results93 rfl (.tmp (Has.t' rfl ?_) .nil))))))))))))))
   all_goals (exact zE (cmp_eq he (by omega)))
theorem aI {xs ys : List Nat} (hx : (List.length (zA (val xs))) < 4294967296) (hy : (List.length (zA (val ys))) < 4294967296) : Ctr Tryz.prog 67 [zD xs, zD ys] (zD (zA (val xs + val ys))) := by
 refine Ctr.intro Tryz.func67 rfl (by kernel_rfl) Tryz.ntmps67 rfl fun w0 F0 => .cv (Cv.wk (.l [0, 1] rfl)) (.fact (Has.lenLt (Has.t (t := 0) rfl)) fun lt0 => .fact (Has.okW (Has.t (t := 0) rfl)) fun ok0 => .fact (Has.lenLt (Has.t (t := 1) rfl)) fun lt1 => .fact (Has.okW (Has.t (t := 1) rfl)) fun ok1 => .seq fun _ k1 => .region (st (.as (.cW (f := isU))) rfl (nl (.thn (k1 _ _ (.seq fun _ k2 => .region (st (.mv (.t rfl)) rfl (st (.call (qb) (.cons (.t rfl) .nil)) rfl (st (.mv (.t rfl)) rfl (st (.call (qb) (.cons (.t rfl) .nil)) rfl (st (.as (.t rfl)) rfl (st (.as (.t rfl)) rfl (nl (.thn (k2 _ _ (.cutF [4] (fun (z : { z : Nat × Nat // z.1 + z.2 = val xs + val ys ∧ (List.length (zA z.2)) ≤ (List.length (zA z.1)) ∧ (List.length (zA z.1)) < 4294967296 }) => match z with | ⟨(p, q), hI⟩ => [(0, zD (zA p)), (1, zD (zA q))]) (fun M => fun (z : { z : Nat × Nat // z.1 + z.2 = val xs + val ys ∧ (List.length (zA z.2)) ≤ (List.length (zA z.1)) ∧ (List.length (zA z.1)) < 4294967296 }) => match z with | ⟨(p, q), hI⟩ => M) (fun K3 hK3 => ?_) ?_))))))))))))))))
 ·skip
  refine .seq fun _ k4 => .region (st (.mv (.t rfl)) rfl (st (.len sl39 (.t rfl)) rfl (st (.mv (.t rfl)) rfl (st (.len sl39 (.t rfl)) rfl (st (.ltI (.t rfl) (.t rfl)) rfl (nl (.thn (k4 _ _ (.cv (Cv.wk (.l [0, 1, 4, 17] rfl)) (.cond (.t rfl) (fun hc1 => ?_) (fun hc1 => ?_)))))))))))
  ·have hc1 := BP.t hc1
   refine .region (st (.mv (.t rfl)) rfl (st (.mv (.t rfl)) rfl (st (.as (.t rfl)) rfl (st (.as (.t rfl)) rfl (nl (.thn ?_))))))
   refine hK3 (⟨(val ys, val xs), Nat.add_comm _ _, by simp only []; omega, hy⟩) _ _ (Cv.mem (.c 0 rfl ?_ (.c 1 rfl ?_ (.l [4] rfl))) ?_)
   ·rfl
   ·rfl
   ·rfl
  ·have hc1 := BP.f hc1
   refine .skip (.thn ?_)
   refine hK3 (⟨(val xs, val ys), rfl, by simp only []; omega, hx⟩) _ _ (Cv.mem (.c 0 rfl ?_ (.c 1 rfl ?_ (.l [4] rfl))) ?_)
   ·rfl
   ·rfl
   ·rfl
 rintro ⟨⟨p, q⟩, hI1, hI2, hI3⟩
 refine .cv (Cv.wk (.l [0, 1, 4] rfl)) ?_
 simp only [] at hI1 hI2 hI3
 refine .seq fun _ k5 => .region (st (.mv (.t rfl)) rfl (st (.len sl39 (.t rfl)) rfl (st (.addI (.t rfl) (.cI 1 rfl) (by omega) (by omega)) rfl (.make (f := isU) (u := 0) (n := (List.length (zA p)) + 1) (c := (List.length (zA p)) + 1) sl39 ty86 vO (fun _ _ => ⟨⟨rfl, by decide⟩, trivial⟩) by86 (Has.t' rfl rfl) (Has.t' rfl rfl) ⟨by omega, by omega⟩ rfl fun b1 => st (.as (.t rfl)) rfl (nl (.thn (k5 _ _ (.seq fun _ k6 => .region (st (.as (.cU 0 rfl)) rfl (nl (.thn (k6 _ _ (.seq fun _ k7 => .seq fun _ k8 => .region (st (.mv (.t rfl)) rfl (st (.len sl39 (.t rfl)) rfl (st (.mv (.cI 0 rfl)) rfl (nl (.thn (k8 _ _ (.cv (Cv.wk (.l [4, 0, 1, 5, 6, 25, 26] rfl)) (.block (.loopF [4, 0, 1, 5, 25] (fun (z : { i : Nat // i ≤ (List.length (zA p)) }) => match z with | ⟨i, hI⟩ => [(26, isI (i : Int)), (6, isU (car p q i))]) (fun M => fun (z : { i : Nat // i ≤ (List.length (zA p)) }) => match z with | ⟨i, hI⟩ => [(some b1, zB (List.map isU (qa (p + q) i ((List.length (zA p)) + 1))))]) (fun (z : { i : Nat // i ≤ (List.length (zA p)) }) => match z with | ⟨i, hI⟩ => (List.length (zA p)) - i) (⟨0, Nat.zero_le _⟩) (Cv.mem (.c 26 rfl ?_ (.c 6 rfl ?_ (.l [4, 0, 1, 5, 25] rfl))) ?_) ?_))))))))))))))))))))))
 ·rfl
 ·exact zJ (car_zero _ _)
 ·exact qO (wt _ _)
 rintro ⟨i, hI⟩ K9 hK9
 refine .cv (Cv.wk (.l [26, 6, 4, 0, 1, 5, 25] rfl)) (.memEq (M' := [(some b1, zB (List.map isU (qa (p + q) i ((List.length (zA p)) + 1))))]) rfl ?_)
 have wl : (qa (p + q) i ((List.length (zA p)) + 1)).length = (List.length (zA p)) + 1 := wQ (by omega)
 refine .seq fun _ k10 => .region (st (.ltI (.t rfl) (.t rfl)) rfl (nl (.thn (k10 _ _ (.seq fun _ k11 => .cond (.t rfl) (fun hc2 => ?_) (fun hc2 => ?_))))))
 ·have hc2 := BP.t hc2
  refine .skip (.thn (k11 _ _ (.seq fun _ k12 => .block (.seq fun _ k13 => .region (st (.mv (.t rfl)) rfl (st (.as (.t rfl)) rfl (nl (.thn (k13 _ _ (.seq fun _ k14 => .region (st (.as (.cU 0 rfl)) rfl (nl (.thn (k14 _ _ (.cutF [4, 0, 1, 5, 25, 26, 6, 27, 28, 7] (fun (_ : Unit) => [(8, isU (dig q i))]) (fun M => fun (_ : Unit) => M) (fun K15 hK15 => ?_) ?_)))))))))))))))
  ·skip
   refine .seq fun _ k16 => .region (st (.mv (.t rfl)) rfl (st (.mv (.t rfl)) rfl (st (.len sl39 (.t rfl)) rfl (st (.ltI (.t rfl) (.t rfl)) rfl (nl (.thn (k16 _ _ (.cond (.t rfl) (fun hc3 => ?_) (fun hc3 => ?_)))))))))
   ·have hc3 := BP.t hc3
    refine .region (st (.mv (.t rfl)) rfl (st (.mv (.t rfl)) rfl (st (.ixP sl39 ty86 (.t rfl) (.t rfl) ⟨by omega, by omega⟩ (getD_some (d := 0) (by omega))) rfl (st (.loadP1 (.t rfl) ty86) rfl (st (.as (.t rfl)) rfl (nl (.thn (hK15 (()) _ _ (Cv.mem (.c 8 rfl ?_ (.l [4, 0, 1, 5, 25, 26, 6, 27, 28, 7] rfl)) ?_)))))))))
    ·first | exact zJ (zZ _ _) | exact zJ (jY (by omega)).symm
    ·rfl
   ·have hc3 := BP.f hc3
    refine .skip (.thn (hK15 (()) _ _ (Cv.mem (.c 8 rfl ?_ (.l [4, 0, 1, 5, 25, 26, 6, 27, 28, 7] rfl)) ?_)))
    ·first | exact zJ (zZ _ _) | exact zJ (jY (by omega)).symm
    ·rfl
  rintro _
  refine .cv (Cv.wk (.l [8, 4, 0, 1, 5, 25, 26, 6, 27, 28, 7] rfl)) (.region (st (.mv (.t rfl)) rfl (st (.mv (.t rfl)) rfl (st (.mv (.t rfl)) rfl (st (.mv (.t rfl)) rfl (st (.ixP sl39 ty86 (.t rfl) (.t rfl) ⟨by omega, by omega⟩ (getD_some (d := 0) (by omega))) rfl (st (.eq (.loadP1 (.t rfl) ty86) (zJ (zZ _ i))) rfl (st (.mv (.t rfl)) rfl (st (.mv (.t rfl)) rfl (st (.add64 vC (.t rfl) (.t rfl) (.t rfl) (by exact car_le _ _ _) ⟨(by exact qR _ _), (by exact qR _ _)⟩) rfl (st (.mv (.t rfl)) rfl (st (.ext (.t rfl) rfl) rfl (st (.ext (.t rfl) rfl) rfl (st (.eq (.ixWin sl39 ty86 (.t rfl) (.t rfl) ⟨by omega, by omega⟩) (zX (by exact ixo0))) rfl (.storeM (.t rfl) (.t rfl) (i := 0) rfl ty86 (by omega) (M' := [(_, _)]) rfl (st (.as (.t rfl)) rfl (nl (.bln (.thn (k12 _ _ (.region (st (.addI (.t rfl) (.cI 1 rfl) (by omega) (by omega)) rfl (st (.mv (.t rfl)) rfl (nl (.thn (hK9 (⟨i + 1, by omega⟩) _ _ ?_ (Cv.mem (.c 26 rfl ?_ (.c 6 rfl ?_ (.l [4, 0, 1, 5, 25] rfl))) ?_)))))))))))))))))))))))))))
  ·show (List.length (zA p)) - (i + 1) < (List.length (zA p)) - i; omega
  ·rfl
  ·exact zJ (add_car _ _ _)
  ·exact qO (jJ (by omega) (add_dig _ _ _))
 ·have hc2 := BP.f hc2
  refine .exit (.the (.the (.blh (.thn (k7 _ _ (.seq fun _ k17 => .region (st (.mv (.t rfl)) rfl (st (.mv (.t rfl)) rfl (st (.len sl39 (.t rfl)) rfl (st (.mv (.t rfl)) rfl (st (.eq (.ixWin sl39 ty86 (.t rfl) (.t rfl) ⟨by omega, by omega⟩) (zX (by exact ixo0))) rfl (.storeM (.t rfl) (.t rfl) (i := 0) rfl ty86 (by omega) (M' := [(_, _)]) rfl (nl (.thn (k17 _ _ (.cv (Cv.wk (.l [4, 5] rfl)) (.seq fun _ k18 => .cv (Cv.freeze' (t := 5) (i := 0) (ys := zI ((List.length (zA p)) + 1) (p + q)) rfl rfl rfl (by simp; omega) (fz_wpart (by omega) (by omega) (add_top (xd (by omega)) (xd (by omega))))) ?_)))))))))))))))))
  refine .memEq (M' := []) rfl (.cv (Cv.wk (.l [4, 5] rfl)) (.region (st (.mv (.t rfl)) rfl (st (.call (xW) (.cons (.t rfl) .nil)) rfl (st (.as (.t rfl)) rfl (nl (.thn (k18 _ _ (.ret (rt1 (.inl rfl) Tryz.results67 rfl (.tmp (Has.t' rfl ?_) .nil)))))))))))
  all_goals (exact zY (by rw [qN (add_lt (qV p) (xd hI2)), hI1]))
theorem nat_Sub {xs ys : List Nat} (hx : (List.length (zA (val xs))) < 4294967296) : Ctr Tryz.prog 68 [zD xs, zD ys] (zQ [zD (zA (val xs - val ys)), isB (decide (val ys ≤ val xs))]) := by
 refine Ctr.intro Tryz.func68 rfl (by kernel_rfl) Tryz.ntmps68 rfl fun w0 F0 => .cv (Cv.wk (.l [0, 1] rfl)) (.fact (Has.lenLt (Has.t (t := 0) rfl)) fun lt0 => .fact (Has.okW (Has.t (t := 0) rfl)) fun ok0 => .fact (Has.lenLt (Has.t (t := 1) rfl)) fun lt1 => .fact (Has.okW (Has.t (t := 1) rfl)) fun ok1 => .seq fun _ k1 => .region (st (.as (.cW (f := isU))) rfl (st (.as (.cB false)) rfl (nl (.thn (k1 _ _ (.seq fun _ k2 => .seq fun _ k3 => .region (st (.mv (.t rfl)) rfl (st (.mv (.t rfl)) rfl (st (.call (bW) (.cons (.t rfl) (.cons (.t rfl) .nil))) rfl (st (.ltI (.t rfl) (.cI 0 rfl)) rfl (nl (.thn (k3 _ _ (.cond (.t rfl) (fun hc1 => ?_) (fun hc1 => ?_))))))))))))))))
 ·have hc1 := BP.t hc1
  have hlt := cmpN_neg.1 hc1
  refine .seq fun _ k4 => .region (st (.as (.cW (f := isU))) rfl (st (.as (.cB false)) rfl (nl (.thn (k4 _ _ (.ret (.thr (rtN (.inl rfl) Tryz.results68 rfl rfl (.tmp (Has.t' rfl ?_) (.tmp (Has.t' rfl ?_) .nil))))))))))
  ·exact zY (by rw [Nat.sub_eq_zero_of_le (Nat.le_of_lt hlt), zF])
  ·exact zU (by simp; omega)
 ·have hc1 := BP.f hc1
  have hle : val ys ≤ val xs := Nat.le_of_not_lt (fun h => by have := cmpN_neg.2 h; omega)
  have hnw := ze hle
  refine .skip (.thn (k2 _ _ (.seq fun _ k5 => .region (st (.mv (.t rfl)) rfl (st (.call (qb) (.cons (.t rfl) .nil)) rfl (st (.mv (.t rfl)) rfl (st (.call (qb) (.cons (.t rfl) .nil)) rfl (st (.as (.t rfl)) rfl (st (.as (.t rfl)) rfl (nl (.thn (k5 _ _ (.cv (Cv.wk (.l [0, 1, 4, 5] rfl)) (.seq fun _ k6 => .region (st (.mv (.t rfl)) rfl (st (.len sl39 (.t rfl)) rfl (.make (f := isU) (u := 0) (n := (List.length (zA (val xs)))) (c := (List.length (zA (val xs)))) sl39 ty86 vO (fun _ _ => ⟨⟨rfl, by decide⟩, trivial⟩) by86 (Has.t' rfl rfl) (Has.t' rfl rfl) ⟨by omega, by omega⟩ rfl fun b1 => st (.as (.t rfl)) rfl (nl (.thn (k6 _ _ (.seq fun _ k7 => .region (st (.as (.cU 0 rfl)) rfl (nl (.thn (k7 _ _ (.seq fun _ k8 => .seq fun _ k9 => .region (st (.mv (.t rfl)) rfl (st (.len sl39 (.t rfl)) rfl (st (.mv (.cI 0 rfl)) rfl (nl (.thn (k9 _ _ (.block (.loopF [0, 1, 4, 5, 6, 22] (fun (z : { i : Nat // i ≤ (List.length (zA (val xs))) }) => match z with | ⟨i, hI⟩ => [(23, isI (i : Int)), (7, isU (bor (val xs) (val ys) i))]) (fun M => fun (z : { i : Nat // i ≤ (List.length (zA (val xs))) }) => match z with | ⟨i, hI⟩ => [(some b1, zB (List.map isU (qa (val xs - val ys) i ((List.length (zA (val xs)))))))]) (fun (z : { i : Nat // i ≤ (List.length (zA (val xs))) }) => match z with | ⟨i, hI⟩ => (List.length (zA (val xs))) - i) (⟨0, Nat.zero_le _⟩) (Cv.mem (.c 23 rfl ?_ (.c 7 rfl ?_ (.l [0, 1, 4, 5, 6, 22] rfl))) ?_) ?_))))))))))))))))))))))))))))))))))
  ·rfl
  ·exact zJ (bor_zero _ _)
  ·exact qO (wt _ _)
  rintro ⟨i, hI⟩ K10 hK10
  refine .cv (Cv.wk (.l [23, 7, 0, 1, 4, 5, 6, 22] rfl)) (.memEq (M' := [(some b1, zB (List.map isU (qa (val xs - val ys) i ((List.length (zA (val xs)))))))]) rfl ?_)
  have wl : (qa (val xs - val ys) i ((List.length (zA (val xs))))).length = (List.length (zA (val xs))) := wQ (by omega)
  refine .seq fun _ k11 => .region (st (.ltI (.t rfl) (.t rfl)) rfl (nl (.thn (k11 _ _ (.seq fun _ k12 => .cond (.t rfl) (fun hc2 => ?_) (fun hc2 => ?_))))))
  ·have hc2 := BP.t hc2
   refine .skip (.thn (k12 _ _ (.seq fun _ k13 => .block (.seq fun _ k14 => .region (st (.mv (.t rfl)) rfl (st (.as (.t rfl)) rfl (nl (.thn (k14 _ _ (.seq fun _ k15 => .region (st (.as (.cU 0 rfl)) rfl (nl (.thn (k15 _ _ (.cutF [0, 1, 4, 5, 6, 22, 23, 7, 24, 25, 8] (fun (_ : Unit) => [(9, isU (dig (val ys) i))]) (fun M => fun (_ : Unit) => M) (fun K16 hK16 => ?_) ?_)))))))))))))))
   ·skip
    refine .seq fun _ k17 => .region (st (.mv (.t rfl)) rfl (st (.mv (.t rfl)) rfl (st (.len sl39 (.t rfl)) rfl (st (.ltI (.t rfl) (.t rfl)) rfl (nl (.thn (k17 _ _ (.cond (.t rfl) (fun hc3 => ?_) (fun hc3 => ?_)))))))))
    ·have hc3 := BP.t hc3
     refine .region (st (.mv (.t rfl)) rfl (st (.mv (.t rfl)) rfl (st (.ixP sl39 ty86 (.t rfl) (.t rfl) ⟨by omega, by omega⟩ (getD_some (d := 0) (by omega))) rfl (st (.loadP1 (.t rfl) ty86) rfl (st (.as (.t rfl)) rfl (nl (.thn (hK16 (()) _ _ (Cv.mem (.c 9 rfl ?_ (.l [0, 1, 4, 5, 6, 22, 23, 7, 24, 25, 8] rfl)) ?_)))))))))
     ·first | exact zJ (zZ _ _) | exact zJ (jY (by omega)).symm
     ·rfl
    ·have hc3 := BP.f hc3
     refine .skip (.thn (hK16 (()) _ _ (Cv.mem (.c 9 rfl ?_ (.l [0, 1, 4, 5, 6, 22, 23, 7, 24, 25, 8] rfl)) ?_)))
     ·first | exact zJ (zZ _ _) | exact zJ (jY (by omega)).symm
     ·rfl
   rintro _
   refine .cv (Cv.wk (.l [9, 0, 1, 4, 5, 6, 22, 23, 7, 24, 25, 8] rfl)) (.region (st (.mv (.t rfl)) rfl (st (.mv (.t rfl)) rfl (st (.mv (.t rfl)) rfl (st (.mv (.t rfl)) rfl (st (.ixP sl39 ty86 (.t rfl) (.t rfl) ⟨by omega, by omega⟩ (getD_some (d := 0) (by omega))) rfl (st (.eq (.loadP1 (.t rfl) ty86) (zJ (zZ _ i))) rfl (st (.mv (.t rfl)) rfl (st (.mv (.t rfl)) rfl (st (.sub64 ar (.t rfl) (.t rfl) (.t rfl) (by exact bor_le _ _ _) ⟨(by exact qR _ _), (by exact qR _ _)⟩) rfl (st (.mv (.t rfl)) rfl (st (.ext (.t rfl) rfl) rfl (st (.ext (.t rfl) rfl) rfl (st (.eq (.ixWin sl39 ty86 (.t rfl) (.t rfl) ⟨by omega, by omega⟩) (zX (by exact ixo0))) rfl (.storeM (.t rfl) (.t rfl) (i := 0) rfl ty86 (by omega) (M' := [(_, _)]) rfl (st (.as (.t rfl)) rfl (nl (.bln (.thn (k13 _ _ (.region (st (.addI (.t rfl) (.cI 1 rfl) (by omega) (by omega)) rfl (st (.mv (.t rfl)) rfl (nl (.thn (hK10 (⟨i + 1, by omega⟩) _ _ ?_ (Cv.mem (.c 23 rfl ?_ (.c 7 rfl ?_ (.l [0, 1, 4, 5, 6, 22] rfl))) ?_)))))))))))))))))))))))))))
   ·show (List.length (zA (val xs))) - (i + 1) < (List.length (zA (val xs))) - i; omega
   ·rfl
   ·exact zJ (aV _ _ _)
   ·exact qO (jJ (by omega) (sub_dig hle _))
  ·have hc2 := BP.f hc2
   refine .exit (.the (.the (.blh (.thn (k8 _ _ (.cv (Cv.wk (.l [4, 5, 6] rfl)) (.seq fun _ k18 => .cv (Cv.freeze' (t := 6) (i := 0) (ys := zI ((List.length (zA (val xs)))) (val xs - val ys)) rfl rfl rfl (by simp; omega) (eJ (by omega))) ?_)))))))
   refine .memEq (M' := []) rfl (.cv (Cv.wk (.l [4, 5, 6] rfl)) (.region (st (.mv (.t rfl)) rfl (st (.call (xW) (.cons (.t rfl) .nil)) rfl (st (.as (.t rfl)) rfl (st (.as (.cB true)) rfl (nl (.thn (k18 _ _ (.ret (rtN (.inl rfl) Tryz.results68 rfl rfl (.tmp (Has.t' rfl ?_) (.tmp (Has.t' rfl ?_) .nil)))))))))))))
   ·exact zY (by rw [qN (sub_lt' (qV _))])
   ·exact zU (by simp; omega)
set_option maxHeartbeats 2000000 in
theorem nat_row {N A x o n c m : Nat} (h1 : (List.length (zA A)) + 1 ≤ n) (h2 : o + n ≤ m) (h3 : N / W ^ o < W ^ (List.length (zA A))) : CtrM Tryz.prog 112 (fun b0 => [zu b0 o n c, zD (zA A), isU x]) (zB (List.map isU (zI m N))) (zB (List.map isU (zI m (N + W ^ o * (A * x))))) (fun b0 => zQ []) := by
 refine CtrM.intro Tryz.func112 rfl (by kernel_rfl) Tryz.ntmps112 (fun _ => rfl) fun w0 F0 b0 => .cv (Cv.wk (.l [0, 1, 2] rfl)) (.fact (Has.lenLt (Has.t (t := 0) rfl)) fun lt0 => .fact (Has.winLe (Has.t (t := 0) rfl)) fun lw0 => .fact (Has.lenLt (Has.t (t := 1) rfl)) fun lt1 => .fact (Has.okW (Has.t (t := 1) rfl)) fun ok1 => .fact (Has.ltU (Has.t (t := 2) rfl)) fun lt2 => .seq fun _ k1 => .region (st (.as (.cU 0 rfl)) rfl (nl (.thn (k1 _ _ (.seq fun _ k2 => .seq fun _ k3 => .region (st (.mv (.t rfl)) rfl (st (.len sl39 (.t rfl)) rfl (st (.mv (.cI 0 rfl)) rfl (nl (.thn (k3 _ _ (.block (.loopF [0, 1, 2, 12, 13] (fun (z : { i : Nat // i ≤ (List.length (zA A)) }) => match z with | ⟨i, hI⟩ => [(14, isI (i : Int)), (6, isU (mcar (N / W ^ o) A x i))]) (fun M => fun (z : { i : Nat // i ≤ (List.length (zA A)) }) => match z with | ⟨i, hI⟩ => [(some b0, zB (List.map isU (mix (o + i) (N + W ^ o * (A * x)) N m)))]) (fun (z : { i : Nat // i ≤ (List.length (zA A)) }) => match z with | ⟨i, hI⟩ => (List.length (zA A)) - i) (⟨0, Nat.zero_le _⟩) (Cv.mem (.c 14 rfl ?_ (.c 6 rfl ?_ (.l [0, 1, 2, 12, 13] rfl))) ?_) ?_))))))))))))))
 ·rfl
 ·exact zJ (eB _ _ _)
 ·exact qO (jT (by omega) (bC _ _ _))
 rintro ⟨i, hI⟩ K4 hK4
 refine .cv (Cv.wk (.l [14, 6, 0, 1, 2, 12, 13] rfl)) (.memEq (M' := [(some b0, zB (List.map isU (mix (o + i) (N + W ^ o * (A * x)) N m)))]) rfl ?_)
 have wl : (mix (o + i) (N + W ^ o * (A * x)) N m).length = m := vS (by omega)
 have hrow := row_word lt2 (qR A i) (qR (N / W ^ o) i) (Nat.lt_of_le_of_lt (aK (N / W ^ o) A x i) lt2) (qR _ _) (bD (N / W ^ o) A x i)
 have hcl := Nat.lt_of_le_of_lt (aK (N / W ^ o) A x i) lt2
 refine .seq fun _ k5 => .region (st (.ltI (.t rfl) (.t rfl)) rfl (nl (.thn (k5 _ _ (.seq fun _ k6 => .cond (.t rfl) (fun hc1 => ?_) (fun hc1 => ?_))))))
 ·have hc1 := BP.t hc1
  refine .skip (.thn (k6 _ _ (.seq fun _ k7 => .block (.seq fun _ k8 => .region (st (.mv (.t rfl)) rfl (st (.ixP sl39 ty86 (.t rfl) (.t rfl) ⟨by omega, by omega⟩ (getD_some (d := 0) (by omega))) rfl (st (.eq (.loadP1 (.t rfl) ty86) (zJ (zZ _ i))) rfl (st (.as (.t rfl)) rfl (st (.as (.t rfl)) rfl (nl (.thn (k8 _ _ (.seq fun _ k9 => .region (st (.mv (.t rfl)) rfl (st (.mv (.t rfl)) rfl (st (.call (wz) (.cons (.t rfl) (.cons (.t rfl) .nil))) rfl (st (.mv (.t rfl)) rfl (st (.ext (.t rfl) rfl) rfl (st (.ext (.t rfl) rfl) rfl (st (.as (.t rfl)) rfl (st (.as (.t rfl)) rfl (nl (.thn (k9 _ _ (.seq fun _ k10 => .region (st (.as (.cU 0 rfl)) rfl (nl (.thn (k10 _ _ (.seq fun _ k11 => .region (st (.mv (.t rfl)) rfl (st (.mv (.t rfl)) rfl (st (.mv (.t rfl)) rfl (st (.eq (.ixWin sl39 ty86 (.t rfl) (.t rfl) ⟨by omega, by omega⟩) (zX (by exact ixo1))) rfl (st (.eq (.load1 (.t rfl) (i := 0) rfl ty86 (map_some (getD_some (d := 0) (by omega)))) (zJ (rowGet (by omega)))) rfl (st (.add64 vC (.t rfl) (.t rfl) (.cU 0 rfl) (by omega) ⟨(by omega), (by exact qR _ _)⟩) rfl (st (.mv (.t rfl)) rfl (st (.ext (.t rfl) rfl) rfl (st (.ext (.t rfl) rfl) rfl (st (.as (.t rfl)) rfl (st (.as (.t rfl)) rfl ?_)))))))))))))))))))))))))))))))))))))))))
  refine nl (.thn (k11 _ _ (.seq fun _ k12 => .region (st (.mv (.t rfl)) rfl (st (.mv (.t rfl)) rfl (st (.addU' (.t rfl) (.t rfl) (by omega)) rfl (st (.as (.t rfl)) rfl (nl (.thn (k12 _ _ (.seq fun _ k13 => .region (st (.mv (.t rfl)) rfl (st (.mv (.t rfl)) rfl (st (.add64 vC (.t rfl) (.t rfl) (.cU 0 rfl) (by omega) ⟨(by omega), (by omega)⟩) rfl (st (.mv (.t rfl)) rfl (st (.ext (.t rfl) rfl) rfl (st (.ext (.t rfl) rfl) rfl (st (.as (.t rfl)) rfl (st (.as (.t rfl)) rfl (nl (.thn (k13 _ _ (.region (st (.mv (.t rfl)) rfl (st (.mv (.t rfl)) rfl (st (.mv (.t rfl)) rfl (st (.mv (.t rfl)) rfl (st (.mv (.t rfl)) rfl (st (.addU' (.t rfl) (.t rfl) (by omega)) rfl (st (.eq (.ixWin sl39 ty86 (.t rfl) (.t rfl) ⟨by omega, by omega⟩) (zX (by exact ixo1))) rfl (.storeM (.t rfl) (.t rfl) (i := 0) rfl ty86 (by omega) (M' := [(_, _)]) rfl (st (.as (.t rfl)) rfl (nl (.bln (.thn (k7 _ _ (.region (st (.addI (.t rfl) (.cI 1 rfl) (by omega) (by omega)) rfl (st (.mv (.t rfl)) rfl (nl (.thn ?_)))))))))))))))))))))))))))))))))))))))))
  refine hK4 (⟨i + 1, by omega⟩) _ _ ?_ (Cv.mem (.c 14 rfl ?_ (.c 6 rfl ?_ (.l [0, 1, 2, 12, 13] rfl))) ?_)
  ·show (List.length (zA A)) - (i + 1) < (List.length (zA A)) - i; omega
  ·rfl
  ·exact zJ hrow.2.1
  ·exact qO (rowPut (by omega) hrow.1)
 ·have hc1 := BP.f hc1
  refine .exit (.the (.the (.blh (.thn (k2 _ _ (.cv (Cv.wk (.l [0, 1, 6] rfl)) (.region (st (.mv (.t rfl)) rfl (st (.mv (.t rfl)) rfl (st (.len sl39 (.t rfl)) rfl (st (.mv (.t rfl)) rfl (st (.eq (.ixWin sl39 ty86 (.t rfl) (.t rfl) ⟨by omega, by omega⟩) (zX (by exact ixo1))) rfl (.storeM (.t rfl) (.t rfl) (i := 0) rfl ty86 (by omega) (M' := [(_, _)]) rfl (nl (rtM0 (.inr rfl) Tryz.results112 rfl (i := 0) ?_)))))))))))))))
  all_goals (obtain rfl : i = (List.length (zA A)) := (by omega); exact memU_eq (rowEnd rfl (by omega) h3 (qV A) lt2))
theorem nat_Mul {xs ys : List Nat} (hx : (List.length (zA (val xs))) + (List.length (zA (val ys))) < 4294967296) : Ctr Tryz.prog 85 [zD xs, zD ys] (zD (zA (val xs * val ys))) := by
 refine Ctr.intro Tryz.func85 rfl (by kernel_rfl) Tryz.ntmps85 rfl fun w0 F0 => .cv (Cv.wk (.l [0, 1] rfl)) (.fact (Has.lenLt (Has.t (t := 0) rfl)) fun lt0 => .fact (Has.okW (Has.t (t := 0) rfl)) fun ok0 => .fact (Has.lenLt (Has.t (t := 1) rfl)) fun lt1 => .fact (Has.okW (Has.t (t := 1) rfl)) fun ok1 => .seq fun _ k1 => .region (st (.as (.cW (f := isU))) rfl (nl (.thn (k1 _ _ (.seq fun _ k2 => .region (st (.mv (.t rfl)) rfl (st (.call (qb) (.cons (.t rfl) .nil)) rfl (st (.mv (.t rfl)) rfl (st (.call (qb) (.cons (.t rfl) .nil)) rfl (st (.as (.t rfl)) rfl (st (.as (.t rfl)) rfl (nl (.thn (k2 _ _ (.seq fun _ k3 => .region (st (.mv (.t rfl)) rfl (st (.len sl39 (.t rfl)) rfl (st (.mv (.t rfl)) rfl (st (.len sl39 (.t rfl)) rfl (st (.addI (.t rfl) (.t rfl) (by omega) (by omega)) rfl (st (.addI (.t rfl) (.cI 1 rfl) (by omega) (by omega)) rfl (.make (f := isU) (u := 0) (n := (List.length (zA (val xs))) + (List.length (zA (val ys))) + 1) (c := (List.length (zA (val xs))) + (List.length (zA (val ys))) + 1) sl39 ty86 vO (fun _ _ => ⟨⟨rfl, by decide⟩, trivial⟩) by86 (Has.t' rfl rfl) (Has.t' rfl rfl) ⟨by omega, by omega⟩ rfl fun b1 => st (.as (.t rfl)) rfl (nl (.thn (k3 _ _ (.cv (Cv.wk (.l [0, 1, 4, 5] rfl)) (.seq fun _ k4 => .seq fun _ k5 => .region (st (.mv (.t rfl)) rfl (st (.len sl39 (.t rfl)) rfl (st (.mv (.cI 0 rfl)) rfl ?_)))))))))))))))))))))))))))))))
 refine nl (.thn (k5 _ _ (.block (.loopF [0, 4, 5, 19, 20] (fun (z : { i : Nat // i ≤ (List.length (zA (val ys))) }) => match z with | ⟨i, hI⟩ => [(21, isI (i : Int))]) (fun M => fun (z : { i : Nat // i ≤ (List.length (zA (val ys))) }) => match z with | ⟨i, hI⟩ => [(some b1, zB (List.map isU (zI ((List.length (zA (val xs))) + (List.length (zA (val ys))) + 1) (val xs * (val ys % W ^ i)))))]) (fun (z : { i : Nat // i ≤ (List.length (zA (val ys))) }) => match z with | ⟨i, hI⟩ => (List.length (zA (val ys))) - i) (⟨0, Nat.zero_le _⟩) (Cv.mem (.c 21 rfl ?_ (.l [0, 4, 5, 19, 20] rfl)) ?_) ?_))))
 ·rfl
 ·exact qO (mulStart' _ _ _)
 rintro ⟨i, hI⟩ K6 hK6
 refine .cv (Cv.wk (.l [21, 0, 4, 5, 19, 20] rfl)) (.memEq (M' := [(some b1, zB (List.map isU (zI ((List.length (zA (val xs))) + (List.length (zA (val ys))) + 1) (val xs * (val ys % W ^ i)))))]) rfl ?_)
 have wl : (zI ((List.length (zA (val xs))) + (List.length (zA (val ys))) + 1) (val xs * (val ys % W ^ i))).length = (List.length (zA (val xs))) + (List.length (zA (val ys))) + 1 := zV _ _
 refine .seq fun _ k7 => .region (st (.ltI (.t rfl) (.t rfl)) rfl (nl (.thn (k7 _ _ (.seq fun _ k8 => .cond (.t rfl) (fun hc1 => ?_) (fun hc1 => ?_))))))
 ·have hc1 := BP.t hc1
  refine .skip (.thn (k8 _ _ (.seq fun _ k9 => .block (.seq fun _ k10 => .region (st (.mv (.t rfl)) rfl (st (.ixP sl39 ty86 (.t rfl) (.t rfl) ⟨by omega, by omega⟩ (getD_some (d := 0) (by omega))) rfl (st (.eq (.loadP1 (.t rfl) ty86) (zJ (zZ _ i))) rfl (st (.as (.t rfl)) rfl (st (.as (.t rfl)) rfl (nl (.thn (k10 _ _ (.region (st (.mv (.t rfl)) rfl (st (.mv (.t rfl)) rfl (st (.eq (.slLWin sl39 ty86 (.t rfl) (.t rfl) ⟨by omega, by omega, by omega⟩) (cm (by exact ixo0) rfl rfl)) rfl (st (.mv (.t rfl)) rfl (st (.mv (.t rfl)) rfl (.callM (nat_row (m := (List.length (zA (val xs))) + (List.length (zA (val ys))) + 1) (N := val xs * (val ys % W ^ i)) (by simp only [Int.toNat_natCast]; omega) (by simp only [Int.toNat_natCast]; omega) (mulDiv (qV _))) (i := 0) rfl (.cons (.t rfl) (.cons (.t rfl) (.cons (.t rfl) .nil))) rfl (M' := [(_, _)]) rfl ?_)))))))))))))))))))
  refine nl (.bln (.thn (k9 _ _ (.region (st (.addI (.t rfl) (.cI 1 rfl) (by omega) (by omega)) rfl (st (.mv (.t rfl)) rfl (nl (.thn (hK6 (⟨i + 1, by omega⟩) _ _ ?_ (Cv.mem (.c 21 rfl ?_ (.l [0, 4, 5, 19, 20] rfl)) ?_))))))))))
  ·show (List.length (zA (val ys))) - (i + 1) < (List.length (zA (val ys))) - i; omega
  ·rfl
  ·exact qO (by rw [ak])
 ·have hc1 := BP.f hc1
  refine .exit (.the (.the (.blh (.thn (k4 _ _ (.cv (Cv.wk (.l [4, 5] rfl)) (.seq fun _ k11 => .cv (Cv.freeze' (t := 5) (i := 0) (ys := zI ((List.length (zA (val xs))) + (List.length (zA (val ys))) + 1) (val xs * (val ys % W ^ i))) rfl rfl rfl (by simp; omega) (jm (zV _ _).symm)) ?_)))))))
  refine .memEq (M' := []) rfl (.cv (Cv.wk (.l [4, 5] rfl)) (.region (st (.mv (.t rfl)) rfl (st (.call (xW) (.cons (.t rfl) .nil)) rfl (st (.as (.t rfl)) rfl (nl (.thn (k11 _ _ (.ret (rt1 (.inl rfl) Tryz.results85 rfl (.tmp (Has.t' rfl ?_) .nil)))))))))))
  all_goals (obtain rfl : i = (List.length (zA (val ys))) := (by omega); exact zY (mulEnd rfl))
theorem nat_Shl {xs : List Nat} {k : Nat} (hk : k ≤ 1048576) (hx : (List.length (zA (val xs))) < 4294900000) : Ctr Tryz.prog 130 [zD xs, isI (k : Int)] (zQ [zD (zA (val xs * 2 ^ k)), isB true]) := by
 refine Ctr.intro Tryz.func130 rfl (by kernel_rfl) Tryz.ntmps130 rfl fun w0 F0 => .cv (Cv.wk (.l [0, 1] rfl)) (.fact (Has.lenLt (Has.t (t := 0) rfl)) fun lt0 => .fact (Has.okW (Has.t (t := 0) rfl)) fun ok0 => .fact (Has.rngI (Has.t (t := 1) rfl)) fun lt1 => ?_)
 have e1 : ((k : Int) / 64) = ((k / 64 : Nat) : Int) := by omega
 have e2 : ((k : Int) % 64).toNat = k % 64 := by omega
 refine .seq fun _ k1 => .region (st (.as (.cW (f := isU))) rfl (st (.as (.cB false)) rfl (nl (.thn (k1 _ _ (.seq fun _ k2 => .seq fun _ k3 => .region (st (.mv (.t rfl)) rfl (st (.ltI (.t rfl) (.cI 0 rfl)) rfl (st (.mv (.t rfl)) rfl (stF rfl rfl (fun hg => .mv (.t rfl)) rfl (stF rfl rfl (fun hg => .gtI (Has.g rfl hg) (.cI 1048576 rfl)) rfl (st (.pickOr (.t rfl) (fun h => Has.g rfl (ng h))) rfl (nl (.thn (k3 _ _ (.cv (Cv.wk (.l [0, 1, 4, 5, 16] rfl)) (.cond (.t rfl) (fun hc1 => ?_) (fun hc1 => ?_))))))))))))))))))
 ·have hc1 := BP.t hc1
  exfalso; first | omega | contradiction | (revert hc1; simp)
 ·have hc1 := BP.f hc1
  refine .skip (.thn (k2 _ _ (.seq fun _ k4 => .region (st (.mv (.t rfl)) rfl (st (.call (qb) (.cons (.t rfl) .nil)) rfl (st (.as (.t rfl)) rfl (nl (.thn (k4 _ _ (.seq fun _ k5 => .region (st (.mv (.t rfl)) rfl (st (.eq (.quoI (.t rfl) (.cI 64 rfl) (by omega) (by omega) (by omega)) (zE e1)) rfl (st (.mv (.t rfl)) rfl (st (.remI (.t rfl) (.cI 64 rfl) (by omega) (by omega) (by omega)) rfl (st (.eq (.convIU un3 un130 (.t rfl) (by omega) (by omega)) (zJ e2)) rfl (st (.as (.t rfl)) rfl (st (.as (.t rfl)) rfl (nl (.thn (k5 _ _ (.cv (Cv.wk (.l [0, 4, 5, 6, 7] rfl)) (.seq fun _ k6 => .region (st (.mv (.t rfl)) rfl (st (.len sl39 (.t rfl)) rfl (st (.mv (.t rfl)) rfl (st (.addI (.t rfl) (.t rfl) (by omega) (by omega)) rfl (st (.addI (.t rfl) (.cI 1 rfl) (by omega) (by omega)) rfl (.make (f := isU) (u := 0) (n := (List.length (zA (val xs))) + k / 64 + 1) (c := (List.length (zA (val xs))) + k / 64 + 1) sl39 ty86 vO (fun _ _ => ⟨⟨rfl, by decide⟩, trivial⟩) by86 (Has.t' rfl rfl) (Has.t' rfl rfl) ⟨by omega, by omega⟩ rfl fun b1 => st (.as (.t rfl)) rfl (nl (.thn (k6 _ _ (.cv (Cv.wk (.l [0, 4, 5, 6, 7, 8] rfl)) (.seq fun _ k7 => .seq fun _ k8 => .region (st (.mv (.t rfl)) rfl (st (.len sl39 (.t rfl)) rfl (st (.mv (.cI 0 rfl)) rfl (nl (.thn (k8 _ _ ?_)))))))))))))))))))))))))))))))))))))))
  refine .block (.loopF [4, 5, 6, 7, 8, 30, 31] (fun (z : { i : Nat // i ≤ (List.length (zA (val xs))) }) => match z with | ⟨i, hI⟩ => [(32, isI (i : Int))]) (fun M => fun (z : { i : Nat // i ≤ (List.length (zA (val xs))) }) => match z with | ⟨i, hI⟩ => [(some b1, zB (List.map isU (zI ((List.length (zA (val xs))) + k / 64 + 1) (val xs % W ^ i * 2 ^ k))))]) (fun (z : { i : Nat // i ≤ (List.length (zA (val xs))) }) => match z with | ⟨i, hI⟩ => (List.length (zA (val xs))) - i) (⟨0, Nat.zero_le _⟩) (Cv.mem (.c 32 rfl ?_ (.l [4, 5, 6, 7, 8, 30, 31] rfl)) ?_) ?_)
  ·rfl
  ·exact qO (shlStart _ _ _)
  rintro ⟨i, hI⟩ K9 hK9
  refine .cv (Cv.wk (.l [32, 4, 5, 6, 7, 8, 30, 31] rfl)) (.memEq (M' := [(some b1, zB (List.map isU (zI ((List.length (zA (val xs))) + k / 64 + 1) (val xs % W ^ i * 2 ^ k))))]) rfl ?_)
  have wl : (zI ((List.length (zA (val xs))) + k / 64 + 1) (val xs % W ^ i * 2 ^ k)).length = (List.length (zA (val xs))) + k / 64 + 1 := zV _ _
  have ek : (((k / 64 : Nat) : Int) + (i : Int)).toNat = k / 64 + i := by omega
  refine .seq fun _ k10 => .region (st (.ltI (.t rfl) (.t rfl)) rfl (nl (.thn (k10 _ _ (.seq fun _ k11 => .cond (.t rfl) (fun hc2 => ?_) (fun hc2 => ?_))))))
  ·have hc2 := BP.t hc2
   refine .skip (.thn (k11 _ _ (.seq fun _ k12 => .block (.seq fun _ k13 => .region (st (.mv (.t rfl)) rfl (st (.ixP sl39 ty86 (.t rfl) (.t rfl) ⟨by omega, by omega⟩ (getD_some (d := 0) (by omega))) rfl (st (.eq (.loadP1 (.t rfl) ty86) (zJ (zZ _ i))) rfl (st (.as (.t rfl)) rfl (st (.as (.t rfl)) rfl (nl (.thn (k13 _ _ (.seq fun _ k14 => .region (st (.mv (.t rfl)) rfl (st (.mv (.t rfl)) rfl (st (.mv (.t rfl)) rfl (st (.addI (.t rfl) (.t rfl) (by omega) (by omega)) rfl (st (.eq (.ixWin sl39 ty86 (.t rfl) (.t rfl) ⟨by omega, by omega⟩) (zX (by exact ixo0))) rfl (st (.eq (.load1 (.t rfl) (i := 0) rfl ty86 (map_some (getD_some (d := 0) (by omega)))) ((show isU _ = isU (val xs % W ^ i * 2 ^ k / W ^ (k / 64 + i)) from zJ (by rw [ek]; exact shl_get (by omega))))) rfl ?_)))))))))))))))))))
   refine st (.mv (.t rfl)) rfl (st (.mv (.t rfl)) rfl (st (.shlUU (.t rfl) (.t rfl) (by exact True.intro)) rfl (st (.orU (.t rfl) (.t rfl)) rfl (st (.eq (.ixWin sl39 ty86 (.t rfl) (.t rfl) ⟨by omega, by omega⟩) (zX (by exact ixo0))) rfl (.storeM (.t rfl) (.t rfl) (i := 0) rfl ty86 (by omega) (M' := [(_, _)]) rfl (nl (.thn (k14 _ _ (.seq fun _ k15 => .region (st (.mv (.t rfl)) rfl (st (.gtU (.t rfl) (.cU 0 rfl)) rfl (nl (.thn (k15 _ _ (.cond (.t rfl) (fun hc3 => ?_) (fun hc3 => ?_))))))))))))))))
   ·have hc3 := BP.t hc3
    refine .region (st (.mv (.t rfl)) rfl (st (.mv (.t rfl)) rfl (st (.mv (.t rfl)) rfl (st (.addI (.t rfl) (.t rfl) (by omega) (by omega)) rfl (st (.addI (.t rfl) (.cI 1 rfl) (by omega) (by omega)) rfl (st (.mv (.t rfl)) rfl (st (.mv (.t rfl)) rfl (st (.subU' (.cU 64 rfl) (.t rfl) (by omega) (by omega)) rfl (st (.shrUU (.t rfl) (.t rfl) (by exact qR _ _)) rfl (st (.eq (.ixWin sl39 ty86 (.t rfl) (.t rfl) ⟨by omega, by omega⟩) (zX (by exact ixo0))) rfl (.storeM (.t rfl) (.t rfl) (i := 0) rfl ty86 (by simp only [Int.toNat_natCast, List.length_set, List.length_replicate]; omega) (M' := [(_, _)]) rfl ?_)))))))))))
    refine nl (.bln (.thn (k12 _ _ (.region (st (.addI (.t rfl) (.cI 1 rfl) (by omega) (by omega)) rfl (st (.mv (.t rfl)) rfl (nl (.thn (hK9 (⟨i + 1, by omega⟩) _ _ ?_ (Cv.mem (.c 32 rfl ?_ (.l [4, 5, 6, 7, 8, 30, 31] rfl)) ?_))))))))))
    ·show (List.length (zA (val xs))) - (i + 1) < (List.length (zA (val xs))) - i; omega
    ·rfl
    ·exact qO (by rw [ek, shl_set1 (by omega) rfl]; exact shl_set2 (by omega) (by omega) (by omega) rfl)
   ·have hc3 := BP.f hc3
    refine .skip (.bln (.thn (k12 _ _ (.region (st (.addI (.t rfl) (.cI 1 rfl) (by omega) (by omega)) rfl (st (.mv (.t rfl)) rfl (nl (.thn (hK9 (⟨i + 1, by omega⟩) _ _ ?_ (Cv.mem (.c 32 rfl ?_ (.l [4, 5, 6, 7, 8, 30, 31] rfl)) ?_))))))))))
    ·show (List.length (zA (val xs))) - (i + 1) < (List.length (zA (val xs))) - i; omega
    ·rfl
    ·exact qO (by rw [ek, shl_set1 (by omega) rfl]; exact shl_end0 (by omega) (by omega))
  ·have hc2 := BP.f hc2
   refine .exit (.the (.the (.blh (.thn (k7 _ _ (.cv (Cv.wk (.l [4, 5, 8] rfl)) (.seq fun _ k16 => .cv (Cv.freeze' (t := 8) (i := 0) (ys := zI ((List.length (zA (val xs))) + k / 64 + 1) (val xs % W ^ i * 2 ^ k)) rfl rfl rfl (by simp; omega) (jm (by rw [wl]))) ?_)))))))
   refine .memEq (M' := []) rfl (.cv (Cv.wk (.l [4, 5, 8] rfl)) (.region (st (.mv (.t rfl)) rfl (st (.call (xW) (.cons (.t rfl) .nil)) rfl (st (.as (.t rfl)) rfl (st (.as (.cB true)) rfl (nl (.thn (k16 _ _ (.ret (rtN (.inl rfl) Tryz.results130 rfl rfl (.tmp (Has.t' rfl ?_) (.tmp (Has.t' rfl ?_) .nil)))))))))))))
   ·obtain rfl : i = (List.length (zA (val xs))) := (by omega); exact zY (shlEnd rfl)
   ·rfl
theorem nat_Shr {xs : List Nat} {k : Nat} (hk : k < 9223372036854775808) (hx : (List.length (zA (val xs))) < 4294900000) : Ctr Tryz.prog 132 [zD xs, isI (k : Int)] (zQ [zD (zA (val xs / 2 ^ k)), isB true]) := by
 refine Ctr.intro Tryz.func132 rfl (by kernel_rfl) Tryz.ntmps132 rfl fun w0 F0 => .cv (Cv.wk (.l [0, 1] rfl)) (.fact (Has.lenLt (Has.t (t := 0) rfl)) fun lt0 => .fact (Has.okW (Has.t (t := 0) rfl)) fun ok0 => .fact (Has.rngI (Has.t (t := 1) rfl)) fun lt1 => ?_)
 have e1 : ((k : Int) / 64) = ((k / 64 : Nat) : Int) := by omega
 have e2 : ((k : Int) % 64).toNat = k % 64 := by omega
 have nX := nw_div (val xs) (k / 64)
 refine .seq fun _ k1 => .region (st (.as (.cW (f := isU))) rfl (st (.as (.cB false)) rfl (nl (.thn (k1 _ _ (.seq fun _ k2 => .seq fun _ k3 => .region (st (.mv (.t rfl)) rfl (st (.ltI (.t rfl) (.cI 0 rfl)) rfl (nl (.thn (k3 _ _ (.cond (.t rfl) (fun hc1 => ?_) (fun hc1 => ?_)))))))))))))
 ·have hc1 := BP.t hc1
  exfalso; first | omega | contradiction | (revert hc1; simp)
 ·have hc1 := BP.f hc1
  refine .skip (.thn (k2 _ _ (.seq fun _ k4 => .region (st (.mv (.t rfl)) rfl (st (.call (qb) (.cons (.t rfl) .nil)) rfl (st (.as (.t rfl)) rfl (nl (.thn (k4 _ _ (.seq fun _ k5 => .region (st (.mv (.t rfl)) rfl (st (.eq (.quoI (.t rfl) (.cI 64 rfl) (by omega) (by omega) (by omega)) (zE e1)) rfl (st (.mv (.t rfl)) rfl (st (.remI (.t rfl) (.cI 64 rfl) (by omega) (by omega) (by omega)) rfl (st (.eq (.convIU un3 un130 (.t rfl) (by omega) (by omega)) (zJ e2)) rfl (st (.as (.t rfl)) rfl (st (.as (.t rfl)) rfl (nl (.thn (k5 _ _ (.cv (Cv.wk (.l [0, 4, 5, 6, 7] rfl)) (.seq fun _ k6 => .seq fun _ k7 => .region (st (.mv (.t rfl)) rfl (st (.mv (.t rfl)) rfl (st (.len sl39 (.t rfl)) rfl (st (.geI (.t rfl) (.t rfl)) rfl (nl (.thn (k7 _ _ (.cond (.t rfl) (fun hc2 => ?_) (fun hc2 => ?_)))))))))))))))))))))))))))))))
  ·have hc2 := BP.t hc2
   refine .seq fun _ k8 => .region (st (.as (.cW (f := isU))) rfl (st (.as (.cB true)) rfl (nl (.thn (k8 _ _ (.ret (.thr (rtN (.inl rfl) Tryz.results132 rfl rfl (.tmp (Has.t' rfl ?_) (.tmp (Has.t' rfl ?_) .nil))))))))))
   ·exact zY (shr_none (by omega))
   ·rfl
  ·have hc2 := BP.f hc2
   refine .skip (.thn (k6 _ _ (.seq fun _ k9 => .region (st (.mv (.t rfl)) rfl (st (.mv (.t rfl)) rfl (st (.eq (.slLM sl39 ty86 (.t rfl) (.t rfl) ⟨by omega, by omega⟩) (zY (dD (val xs) (k / 64)))) rfl (st (.as (.t rfl)) rfl (nl (.thn (k9 _ _ (.cv (Cv.wk (.l [0, 4, 5, 7] rfl)) (.seq fun _ k10 => .region (st (.mv (.t rfl)) rfl (st (.len sl39 (.t rfl)) rfl (.make (f := isU) (u := 0) (n := (List.length (zA (val xs / W ^ (k / 64))))) (c := (List.length (zA (val xs / W ^ (k / 64))))) sl39 ty86 vO (fun _ _ => ⟨⟨rfl, by decide⟩, trivial⟩) by86 (Has.t' rfl rfl) (Has.t' rfl rfl) ⟨by omega, by omega⟩ rfl fun b1 => st (.as (.t rfl)) rfl (nl (.thn (k10 _ _ (.seq fun _ k11 => .seq fun _ k12 => .region (st (.mv (.t rfl)) rfl (st (.len sl39 (.t rfl)) rfl (st (.mv (.cI 0 rfl)) rfl (nl (.thn (k12 _ _ (.block (.loopF [0, 4, 5, 7, 8, 30, 31] (fun (z : { i : Nat // i ≤ (List.length (zA (val xs / W ^ (k / 64)))) }) => match z with | ⟨i, hI⟩ => [(32, isI (i : Int))]) (fun M => fun (z : { i : Nat // i ≤ (List.length (zA (val xs / W ^ (k / 64)))) }) => match z with | ⟨i, hI⟩ => [(some b1, zB (List.map isU (qa ((val xs / W ^ (k / 64)) / 2 ^ (k % 64)) i ((List.length (zA (val xs / W ^ (k / 64))))))))]) (fun (z : { i : Nat // i ≤ (List.length (zA (val xs / W ^ (k / 64)))) }) => match z with | ⟨i, hI⟩ => (List.length (zA (val xs / W ^ (k / 64)))) - i) (⟨0, Nat.zero_le _⟩) (Cv.mem (.c 32 rfl ?_ (.l [0, 4, 5, 7, 8, 30, 31] rfl)) ?_) ?_)))))))))))))))))))))))))))
   ·rfl
   ·exact qO (wt _ _)
   rintro ⟨i, hI⟩ K13 hK13
   refine .cv (Cv.wk (.l [32, 0, 4, 5, 7, 8, 30, 31] rfl)) (.memEq (M' := [(some b1, zB (List.map isU (qa ((val xs / W ^ (k / 64)) / 2 ^ (k % 64)) i ((List.length (zA (val xs / W ^ (k / 64))))))))]) rfl ?_)
   have wl : (qa ((val xs / W ^ (k / 64)) / 2 ^ (k % 64)) i ((List.length (zA (val xs / W ^ (k / 64)))))).length = (List.length (zA (val xs / W ^ (k / 64)))) := wQ (by omega)
   refine .seq fun _ k14 => .region (st (.ltI (.t rfl) (.t rfl)) rfl (nl (.thn (k14 _ _ (.seq fun _ k15 => .cond (.t rfl) (fun hc3 => ?_) (fun hc3 => ?_))))))
   ·have hc3 := BP.t hc3
    refine .skip (.thn (k15 _ _ (.seq fun _ k16 => .block (.seq fun _ k17 => .region (st (.mv (.t rfl)) rfl (st (.ixP sl39 ty86 (.t rfl) (.t rfl) ⟨by omega, by omega⟩ (getD_some (d := 0) (by omega))) rfl (st (.eq (.loadP1 (.t rfl) ty86) (zJ (zZ _ i))) rfl (st (.as (.t rfl)) rfl (st (.as (.t rfl)) rfl (nl (.thn (k17 _ _ (.seq fun _ k18 => .region (st (.mv (.t rfl)) rfl (st (.mv (.t rfl)) rfl (st (.mv (.t rfl)) rfl (st (.mv (.t rfl)) rfl (st (.shrUU (.t rfl) (.t rfl) (by exact qR _ _)) rfl (st (.eq (.ixWin sl39 ty86 (.t rfl) (.t rfl) ⟨by omega, by omega⟩) (zX (by exact ixo0))) rfl (.storeM (.t rfl) (.t rfl) (i := 0) rfl ty86 (by omega) (M' := [(_, _)]) rfl (nl (.thn (k18 _ _ (.seq fun _ k19 => .region (st (.mv (.t rfl)) rfl (st (.gtU (.t rfl) (.cU 0 rfl)) rfl (st (.mv (.t rfl)) rfl (stT rfl rfl (fun hg => .mv (.t rfl)) rfl ?_))))))))))))))))))))))))))))
    refine stT rfl rfl (fun hg => have hg' := BP.t hg; OK1.addI (Has.g rfl hg) (.cI 1 rfl) (by omega) (by omega)) rfl ?_
    refine stT rfl rfl (fun hg => .mv (.t rfl)) rfl (stT rfl rfl (fun hg => .len sl39 (Has.g rfl hg)) rfl (stT rfl rfl (fun hg => .ltI (Has.g rfl hg) (Has.g rfl hg)) rfl (st (.pickAnd (.t rfl) (fun h => Has.g rfl h)) rfl (nl (.thn (k19 _ _ (.cond (.t rfl) (fun hc4 => ?_) (fun hc4 => ?_))))))))
    ·have hc4 := BP.t hc4
     refine .dr (.s [] rfl rfl rfl (.o rfl (.mv (.t rfl))) (.s [] rfl rfl rfl (.o rfl (.mv (.t rfl))) (.s [52, 53] rfl rfl rfl (.o rfl (.eq (.ixWin sl39 ty86 (.t rfl) (.t rfl) ⟨by omega, by omega⟩) (zX (by exact ixo0)))) (.s [54] rfl rfl rfl (.o rfl (.load1 (.t rfl) (i := 0) rfl ty86 (map_some (getD_some (d := 0) (by simp only [Int.toNat_natCast, List.length_set]; omega))))) ?_))))
     refine .s [] rfl rfl rfl (.o rfl (.mv (.t rfl))) (.s [] rfl rfl rfl (.o rfl (.mv (.t rfl))) (.s [57] rfl rfl rfl (.o rfl (.addI (.t rfl) (.cI 1 rfl) (by omega) (by omega))) ?_))
     refine .s [56, 58] rfl rfl rfl (.o rfl (.ixP sl39 ty86 (.t rfl) (.t rfl) ⟨by omega, by omega⟩ (getD_some (d := 0) (by omega)))) (.s [59] rfl rfl rfl (.o rfl (.eq (.loadP1 (.t rfl) ty86) ((show isU _ = isU (dig (val xs / W ^ (k / 64)) (i + 1)) from zJ (zZ _ (i + 1)))))) (.s [] rfl rfl rfl (.o rfl (.mv (.t rfl))) (.s [61] rfl rfl rfl (.o rfl (.subU' (.cU 64 rfl) (.t rfl) (by omega) (by omega))) ?_)))
     refine .s [60, 62] rfl rfl rfl (.o rfl (.shlUU (.t rfl) (.t rfl) (by exact True.intro))) (.fin (n := 12) zR (by kernel_rfl) (by kernel_rfl) (by kernel_rfl) (.cv (Cv.wk (.l [0, 4, 5, 7, 8, 30, 31, 32, 33, 34, 35, 36, 9, 10, 37, 38, 39, 40, 41, 42, 43, 44, 45, 46, 47, 48, 49, 50, 51, 52, 53, 54, 55, 56, 57, 58, 59, 60, 61, 62, 63] rfl)) (st (.orU (.t rfl) (.t rfl)) rfl (st (.eq (.ixWin sl39 ty86 (.t rfl) (.t rfl) ⟨by omega, by omega⟩) (zX (by exact ixo0))) rfl (.storeM (.t rfl) (.t rfl) (i := 0) rfl ty86 (by simp only [Int.toNat_natCast, List.length_set, List.length_replicate]; omega) (M' := [(_, _)]) rfl ?_)))))
     refine nl (.bln (.thn (k16 _ _ (.region (st (.addI (.t rfl) (.cI 1 rfl) (by omega) (by omega)) rfl (st (.mv (.t rfl)) rfl (nl (.thn (hK13 (⟨i + 1, by omega⟩) _ _ ?_ (Cv.mem (.c 32 rfl ?_ (.l [0, 4, 5, 7, 8, 30, 31] rfl)) ?_))))))))))
     ·show (List.length (zA (val xs / W ^ (k / 64)))) - (i + 1) < (List.length (zA (val xs / W ^ (k / 64)))) - i; omega
     ·rfl
     ·exact qO (shr_step2 (by omega) (by omega))
    ·have hc4 := BP.f hc4
     refine .skip (.bln (.thn (k16 _ _ (.region (st (.addI (.t rfl) (.cI 1 rfl) (by omega) (by omega)) rfl (st (.mv (.t rfl)) rfl (nl (.thn (hK13 (⟨i + 1, by omega⟩) _ _ ?_ (Cv.mem (.c 32 rfl ?_ (.l [0, 4, 5, 7, 8, 30, 31] rfl)) ?_))))))))))
     ·show (List.length (zA (val xs / W ^ (k / 64)))) - (i + 1) < (List.length (zA (val xs / W ^ (k / 64)))) - i; omega
     ·rfl
     ·exact qO (shr_step1 (by omega) (by omega) rfl (by omega))
   ·have hc3 := BP.f hc3
    refine .exit (.the (.the (.blh (.thn (k11 _ _ (.cv (Cv.wk (.l [4, 5, 8] rfl)) (.seq fun _ k20 => .cv (Cv.freeze' (t := 8) (i := 0) (ys := zI ((List.length (zA (val xs / W ^ (k / 64))))) ((val xs / W ^ (k / 64)) / 2 ^ (k % 64))) rfl rfl rfl (by simp; omega) (eJ (by omega))) ?_)))))))
    refine .memEq (M' := []) rfl (.cv (Cv.wk (.l [4, 5, 8] rfl)) (.region (st (.mv (.t rfl)) rfl (st (.call (xW) (.cons (.t rfl) .nil)) rfl (st (.as (.t rfl)) rfl (st (.as (.cB true)) rfl (nl (.thn (k20 _ _ (.ret (rtN (.inl rfl) Tryz.results132 rfl rfl (.tmp (Has.t' rfl ?_) (.tmp (Has.t' rfl ?_) .nil)))))))))))))
    ·exact zY (shr_end rfl)
    ·rfl
theorem clone_NatO {xs : List Nat} (hx : xs.length ≤ 4294967296) : CtrO Tryz.prog 83 [zD xs] isU 0 xs := by
 refine CtrO.intro Tryz.func83 rfl (by kernel_rfl) Tryz.ntmps83 rfl fun w0 F0 => .cv (Cv.wk (.l [0] rfl)) (.fact (Has.lenLt (Has.t (t := 0) rfl)) fun lt0 => .fact (Has.okW (Has.t (t := 0) rfl)) fun ok0 => .seq fun _ k1 => .region (st (.as (.cW (f := isU))) rfl (nl (.thn (k1 _ _ (.seq fun _ k2 => .seq fun _ k3 => .region (st (.mv (.t rfl)) rfl (.eqNil sl39 (.t rfl) rfl fun bn1 hn1 => nl (.thn (k3 _ _ (.cond (.t rfl) (fun hc2 => ?_) (fun hc2 => ?_))))))))))))
 ·have hc2 := BP.t hc2
  refine .seq fun _ k4 => .region (st (.as (.cW (f := isU))) rfl (nl (.thn (k4 _ _ (.ret (.thr (rtO0 (.inl rfl) Tryz.results83 rfl ?_ (.tmp (Has.t' rfl ?_) .nil))))))))
  ·exact hn1 hc2
  ·rfl
 ·have hc2 := BP.f hc2
  refine .skip (.thn (k2 _ _ (.seq fun _ k5 => .region (.buildS0 sl39 ty86 rfl (st (.mv (.t rfl)) rfl (.appendO (f := isU) (u := 0) sl39 ty86 vO (fun _ _ => ⟨⟨rfl, by decide⟩, trivial⟩) by86 (.t rfl) (.t rfl) (by omega) rfl (fun hO3 => ?_) (fun hO3 b1 cb1 jb1 => ?_)))))))
  ·skip
   refine st (.as (.t rfl)) rfl (nl (.thn (k5 _ _ (.cv (Cv.wk (.l [2] rfl)) (.ret (rtO0 (.inl rfl) Tryz.results83 rfl ?_ (.tmp (Has.t' rfl ?_) .nil)))))))
   ·exact hO3
   ·rfl
  ·skip
   refine st (.as (.t rfl)) rfl (nl (.thn (k5 _ _ (.cv (Cv.wk (.l [2] rfl)) (.ret (rtO1 (.inl rfl) Tryz.results83 rfl ?_ (b := b1) (c := cb1) (k := jb1) (i := 0) ?_ (.tmp (Has.t' rfl ?_) .nil)))))))
   ·exact hO3
   ·rfl
   ·rfl
theorem nat_trimW {A k c : Nat} (hA : A ≠ 0) : CtrM Tryz.prog 79 (fun b0 => [zu b0 0 ((List.length (zA A))) c]) (zB (List.map isU (zA A ++ List.replicate k 0))) (zB (List.map isU (zA A ++ List.replicate k 0))) (fun b0 => zu b0 0 ((List.length (zA A))) c) := by
 refine CtrM.intro Tryz.func79 rfl (by kernel_rfl) Tryz.ntmps79 (fun _ => rfl) fun w0 F0 b0 => .cv (Cv.wk (.l [0] rfl)) (.fact (Has.lenLt (Has.t (t := 0) rfl)) fun lt0 => .fact (Has.winLe (Has.t (t := 0) rfl)) fun lw0 => ?_)
 have nA := vj hA
 refine .seq fun _ k1 => .region (st (.as (.cW (f := isU))) rfl (nl (.thn (k1 _ _ (.seq fun _ k2 => .region (st (.mv (.t rfl)) rfl (st (.len sl39 (.t rfl)) rfl (st (.as (.t rfl)) rfl (nl (.thn (k2 _ _ (.seq fun _ k3 => .block (.loopF [0, 2] (fun (_ : Unit) => [(3, isI ((List.length (zA A)) : Int))]) (fun M => fun (_ : Unit) => M) (fun (_ : Unit) => 0) (()) (Cv.mem (.c 3 rfl ?_ (.l [0, 2] rfl)) ?_) ?_)))))))))))))
 ·rfl
 ·rfl
 rintro _ K4 hK4
 refine .cv (Cv.wk (.l [3, 0, 2] rfl)) (.seq fun _ k5 => .seq fun _ k6 => .region (st (.mv (.t rfl)) rfl (st (.gtI (.t rfl) (.cI 0 rfl)) rfl (st (.mv (.t rfl)) rfl (stT rfl rfl (fun hg => .mv (.t rfl)) rfl (stT rfl rfl (fun hg => .mv (.t rfl)) rfl ?_))))))
 refine stT rfl rfl (fun hg => have hg' := BP.t hg; OK1.subI (Has.g rfl hg) (.cI 1 rfl) (by omega) (by omega)) rfl ?_
 refine stT rfl rfl (fun hg => have hg' := BP.t hg; OK1.eq (.ixWin sl39 ty86 (Has.g rfl hg) (Has.g rfl hg) ⟨by omega, by omega⟩) (zX (by exact ixo0))) rfl ?_
 refine stT rfl rfl (fun hg => have hg' := BP.t hg; OK1.load1 (Has.g rfl hg) (i := 0) rfl ty86 (map_some (getD_some (d := 0) (by simp only [List.length_append]; omega)))) rfl ?_
 refine stT rfl rfl (fun hg => .eqU (Has.g rfl hg) (.cU 0 rfl)) rfl (st (.pickAnd (.t rfl) (fun h => Has.g rfl h)) rfl (nl (.thn (k6 _ _ (.cond (.t rfl) (fun hc1 => ?_) (fun hc1 => ?_))))))
 ·have hc1 := BP.t hc1
  exact absurd hc1.2 (topW hA)
 ·have hc1 := BP.f hc1
  refine .exit (.the (.the (.blh (.thn (k3 _ _ (.cv (Cv.wk (.l [0, 2, 3] rfl)) (.seq fun _ k7 => .region (st (.mv (.t rfl)) rfl (st (.mv (.t rfl)) rfl (st (.slHWin sl39 ty86 (.t rfl) (.t rfl) ⟨by omega, by omega, by omega⟩) rfl (st (.as (.t rfl)) rfl (nl (.thn (k7 _ _ (.cv (Cv.wk (.l [2] rfl)) (.ret (rtM1 (.inl rfl) Tryz.results79 rfl (i := 0) ?_ (.tmp (Has.t' rfl ?_) .nil))))))))))))))))))
  all_goals (rfl)
theorem nat_normalW {A k c : Nat} (hA : A ≠ 0) : CtrM Tryz.prog 82 (fun b0 => [zu b0 0 ((List.length (zA A))) c]) (zB (List.map isU (zA A ++ List.replicate k 0))) (zB (List.map isU (zA A ++ List.replicate k 0))) (fun b0 => zu b0 0 ((List.length (zA A))) c) := by
 refine CtrM.intro Tryz.func82 rfl (by kernel_rfl) Tryz.ntmps82 (fun _ => rfl) fun w0 F0 b0 => .cv (Cv.wk (.l [0] rfl)) (.fact (Has.lenLt (Has.t (t := 0) rfl)) fun lt0 => .fact (Has.winLe (Has.t (t := 0) rfl)) fun lw0 => ?_)
 have nA := vj hA
 refine .seq fun _ k1 => .region (st (.as (.cW (f := isU))) rfl (nl (.thn (k1 _ _ (.seq fun _ k2 => .region (st (.mv (.t rfl)) rfl (.callM (nat_trimW hA) (i := 0) rfl (.cons (.t rfl) .nil) rfl (M' := [(_, _)]) rfl (st (.as (.t rfl)) rfl (nl (.thn (k2 _ _ (.seq fun _ k3 => .seq fun _ k4 => .region (st (.mv (.t rfl)) rfl (st (.len sl39 (.t rfl)) rfl (st (.eqI (.t rfl) (.cI 0 rfl)) rfl (nl (.thn (k4 _ _ (.cond (.t rfl) (fun hc1 => ?_) (fun hc1 => ?_))))))))))))))))))))
 ·have hc1 := BP.t hc1
  exfalso; first | omega | contradiction | (revert hc1; simp)
 ·have hc1 := BP.f hc1
  refine .skip (.thn (k3 _ _ (.cv (Cv.wk (.l [0, 2] rfl)) (.seq fun _ k5 => .region (st (.mv (.t rfl)) rfl (st (.as (.t rfl)) rfl (nl (.thn (k5 _ _ (.ret (rtM1 (.inl rfl) Tryz.results82 rfl (i := 0) ?_ (.tmp (Has.t' rfl ?_) .nil))))))))))))
  all_goals (rfl)
theorem nat_NormO {xs : List Nat} (hx : (List.length (zA (val xs))) ≤ 4294967296) : CtrO Tryz.prog 61 [zD xs] isU 0 (zA (val xs)) := by
 refine CtrO.intro Tryz.func61 rfl (by kernel_rfl) Tryz.ntmps61 rfl fun w0 F0 => .cv (Cv.wk (.l [0] rfl)) (.fact (Has.lenLt (Has.t (t := 0) rfl)) fun lt0 => .fact (Has.okW (Has.t (t := 0) rfl)) fun ok0 => .seq fun _ k1 => .region (st (.as (.cW (f := isU))) rfl (nl (.thn (k1 _ _ (.seq fun _ k2 => .region (st (.mv (.t rfl)) rfl (st (.call (qb) (.cons (.t rfl) .nil)) rfl (.callO (clone_NatO hx) (.cons (.t rfl) .nil) rfl (fun hO1 => ?_) (fun hO1 b1 cb1 jb1 => ?_))))))))))
 ·skip
  refine st (.call (xW (xs := [])) (.cons (.t rfl) .nil)) rfl (st (.as (.t rfl)) rfl (nl (.thn (k2 _ _ (.cv (Cv.wk (.l [2] rfl)) (.ret (rtO0 (.inl rfl) Tryz.results61 rfl ?_ (.tmp (Has.t' rfl ?_) .nil))))))))
  ·exact hO1
  ·exact zY zF
 ·skip
  refine .callM (nat_normalW (words_ne hO1)) (i := 0) rfl (.cons (.t rfl) .nil) rfl (M' := [(_, _)]) rfl (st (.as (.t rfl)) rfl (nl (.thn (k2 _ _ (.cv (Cv.wk (.l [2] rfl)) (.ret (rtO1 (.inl rfl) Tryz.results61 rfl ?_ (b := b1) (c := cb1) (k := jb1) (i := 0) ?_ (.tmp (Has.t' rfl ?_) .nil))))))))
  ·exact hO1
  ·rfl
  ·rfl
theorem dM {x : Nat} : Ctr Tryz.prog 80 [isU x] (isI (bitLen x : Int)) := by
 refine Ctr.intro Tryz.func80 rfl (by kernel_rfl) Tryz.ntmps80 rfl fun w0 F0 => .cv (Cv.wk (.l [0] rfl)) (.fact (Has.ltU (Has.t (t := 0) rfl)) fun lt0 => .seq fun _ k1 => .region (st (.as (.cI 0 rfl)) rfl (nl (.thn (k1 _ _ (.cutF [] (fun (z : { z : Nat × Nat // bitLen x = z.2 + bitLen z.1 ∧ z.1 < 4294967296 ∧ z.2 ≤ 32 }) => match z with | ⟨(y, n), hI⟩ => [(0, isU y), (2, isI (n : Int))]) (fun M => fun (z : { z : Nat × Nat // bitLen x = z.2 + bitLen z.1 ∧ z.1 < 4294967296 ∧ z.2 ≤ 32 }) => match z with | ⟨(y, n), hI⟩ => M) (fun K2 hK2 => ?_) ?_))))))
 ·skip
  refine .seq fun _ k3 => .region (st (.mv (.t rfl)) rfl (st (.geU (.t rfl) (.cU 4294967296 rfl)) rfl (nl (.thn (k3 _ _ (.cond (.t rfl) (fun hc1 => ?_) (fun hc1 => ?_)))))))
  ·have hc1 := BP.t hc1
   refine .seq fun _ k4 => .region (st (.mv (.t rfl)) rfl (st (.shrUU (.t rfl) (.cU 32 rfl) (by omega)) rfl (st (.as (.t rfl)) rfl (nl (.thn (k4 _ _ (.region (st (.as (.cI 32 rfl)) rfl (nl (.thn ?_))))))))))
   refine hK2 (⟨(x / 2 ^ 32, 32), by have := bitLen_shift x 32 (by omega); exact this, by show x / 2 ^ 32 < _; omega, Nat.le_refl _⟩) _ _ (Cv.mem (.c 0 rfl ?_ (.c 2 rfl ?_ .nil)) ?_)
   ·rfl
   ·rfl
   ·rfl
  ·have hc1 := BP.f hc1
   refine .skip (.thn ?_)
   refine hK2 (⟨(x, 0), (Nat.zero_add _).symm, by show x < _; omega, Nat.zero_le _⟩) _ _ (Cv.mem (.c 0 rfl ?_ (.c 2 rfl ?_ .nil)) ?_)
   ·rfl
   ·rfl
   ·rfl
 rintro ⟨⟨y, n⟩, h1, h2, h3⟩
 refine .cv (Cv.wk (.l [0, 2] rfl)) ?_
 simp only [] at h1 h2 h3
 refine .cutF [] (fun (z : { z : Nat × Nat // bitLen x = z.2 + bitLen z.1 ∧ z.1 < 65536 ∧ z.2 ≤ 48 }) => match z with | ⟨(y, n), hI⟩ => [(0, isU y), (2, isI (n : Int))]) (fun M => fun (z : { z : Nat × Nat // bitLen x = z.2 + bitLen z.1 ∧ z.1 < 65536 ∧ z.2 ≤ 48 }) => match z with | ⟨(y, n), hI⟩ => M) (fun K5 hK5 => ?_) ?_
 ·skip
  refine .seq fun _ k6 => .region (st (.mv (.t rfl)) rfl (st (.geU (.t rfl) (.cU 65536 rfl)) rfl (nl (.thn (k6 _ _ (.cond (.t rfl) (fun hc2 => ?_) (fun hc2 => ?_)))))))
  ·have hc2 := BP.t hc2
   refine .seq fun _ k7 => .region (st (.mv (.t rfl)) rfl (st (.shrUU (.t rfl) (.cU 16 rfl) (by omega)) rfl (st (.as (.t rfl)) rfl (nl (.thn (k7 _ _ (.region (st (.mv (.t rfl)) rfl (st (.addI (.t rfl) (.cI 16 rfl) (by omega) (by omega)) rfl (st (.as (.t rfl)) rfl (nl (.thn ?_))))))))))))
   refine hK5 (⟨(y / 2 ^ 16, n + 16), by have := bitLen_shift y 16 (by omega); show bitLen x = n + 16 + bitLen (y / 2 ^ 16); omega, by show y / 2 ^ 16 < _; omega, by show n + 16 ≤ _; omega⟩) _ _ (Cv.mem (.c 0 rfl ?_ (.c 2 rfl ?_ .nil)) ?_)
   ·rfl
   ·rfl
   ·rfl
  ·have hc2 := BP.f hc2
   refine .skip (.thn ?_)
   refine hK5 (⟨(y, n), h1, by show y < _; omega, by show n ≤ _; omega⟩) _ _ (Cv.mem (.c 0 rfl ?_ (.c 2 rfl ?_ .nil)) ?_)
   ·rfl
   ·rfl
   ·rfl
 rintro ⟨⟨y, n⟩, h1, h2, h3⟩
 refine .cv (Cv.wk (.l [0, 2] rfl)) ?_
 simp only [] at h1 h2 h3
 refine .cutF [] (fun (z : { z : Nat × Nat // bitLen x = z.2 + bitLen z.1 ∧ z.1 < 256 ∧ z.2 ≤ 56 }) => match z with | ⟨(y, n), hI⟩ => [(0, isU y), (2, isI (n : Int))]) (fun M => fun (z : { z : Nat × Nat // bitLen x = z.2 + bitLen z.1 ∧ z.1 < 256 ∧ z.2 ≤ 56 }) => match z with | ⟨(y, n), hI⟩ => M) (fun K8 hK8 => ?_) ?_
 ·skip
  refine .seq fun _ k9 => .region (st (.mv (.t rfl)) rfl (st (.geU (.t rfl) (.cU 256 rfl)) rfl (nl (.thn (k9 _ _ (.cond (.t rfl) (fun hc3 => ?_) (fun hc3 => ?_)))))))
  ·have hc3 := BP.t hc3
   refine .seq fun _ k10 => .region (st (.mv (.t rfl)) rfl (st (.shrUU (.t rfl) (.cU 8 rfl) (by omega)) rfl (st (.as (.t rfl)) rfl (nl (.thn (k10 _ _ (.region (st (.mv (.t rfl)) rfl (st (.addI (.t rfl) (.cI 8 rfl) (by omega) (by omega)) rfl (st (.as (.t rfl)) rfl (nl (.thn ?_))))))))))))
   refine hK8 (⟨(y / 2 ^ 8, n + 8), by have := bitLen_shift y 8 (by omega); show bitLen x = n + 8 + bitLen (y / 2 ^ 8); omega, by show y / 2 ^ 8 < _; omega, by show n + 8 ≤ _; omega⟩) _ _ (Cv.mem (.c 0 rfl ?_ (.c 2 rfl ?_ .nil)) ?_)
   ·rfl
   ·rfl
   ·rfl
  ·have hc3 := BP.f hc3
   refine .skip (.thn ?_)
   refine hK8 (⟨(y, n), h1, by show y < _; omega, by show n ≤ _; omega⟩) _ _ (Cv.mem (.c 0 rfl ?_ (.c 2 rfl ?_ .nil)) ?_)
   ·rfl
   ·rfl
   ·rfl
 rintro ⟨⟨y, n⟩, h1, h2, h3⟩
 refine .cv (Cv.wk (.l [0, 2] rfl)) ?_
 simp only [] at h1 h2 h3
 have h8 := bitLen_le8 y h2
 have hy : Int.toNat (y : Int) = y := rfl
 refine .seq fun _ k11 => .region (st (.mv (.t rfl)) rfl (st (.mv (.t rfl)) rfl (st (.convUu8 un86 un5 (.t rfl) (by omega)) rfl (st (.eq (.idxStr un9 (.t rfl) (by omega) ⟨(show Int.toNat (y : Int) < 256 by omega), len8tab_get _ _⟩) ((show isK .u8 _ = isK .u8 ((bitLen y : Nat) : Int) from rfl))) rfl (st (.convKI un5 un3 (.t rfl) (by omega) (by omega)) rfl (st (.addI (.t rfl) (.t rfl) (by omega) (by omega)) rfl (st (.as (.t rfl)) rfl (nl (.thn (k11 _ _ (.cv (Cv.wk (.l [2] rfl)) (.ret (rt1 (.inl rfl) Tryz.results80 rfl (.tmp (Has.t' rfl ?_) .nil))))))))))))))
 all_goals (exact zE (by omega))
theorem eV {x : Nat} : Ctr Tryz.prog 129 [isU x] (isI ((64 - bitLen x : Nat) : Int)) := by
 refine Ctr.intro Tryz.func129 rfl (by kernel_rfl) Tryz.ntmps129 rfl fun w0 F0 => .cv (Cv.wk (.l [0] rfl)) (.fact (Has.ltU (Has.t (t := 0) rfl)) fun lt0 => ?_)
 have h64 := wM lt0
 refine .seq fun _ k1 => .region (st (.as (.cI 0 rfl)) rfl (nl (.thn (k1 _ _ (.seq fun _ k2 => .region (st (.mv (.t rfl)) rfl (st (.call (dM) (.cons (.t rfl) .nil)) rfl (st (.subI (.cI 64 rfl) (.t rfl) (by omega) (by omega)) rfl (st (.as (.t rfl)) rfl (nl (.thn (k2 _ _ (.ret (rt1 (.inl rfl) Tryz.results129 rfl (.tmp (Has.t' rfl ?_) .nil)))))))))))))))
 all_goals (exact zE (by omega))
theorem dN {hi lo y : Nat} (h : hi < y) : Ctr Tryz.prog 135 [isU hi, isU lo, isU y] (zQ [isU ((hi * 18446744073709551616 + lo) / y), isU ((hi * 18446744073709551616 + lo) % y)]) := by
 refine Ctr.intro Tryz.func135 rfl (by kernel_rfl) Tryz.ntmps135 rfl fun w0 F0 => .cv (Cv.wk (.l [0, 1, 2] rfl)) (.fact (Has.ltU (Has.t (t := 0) rfl)) fun lt0 => .fact (Has.ltU (Has.t (t := 1) rfl)) fun lt1 => .fact (Has.ltU (Has.t (t := 2) rfl)) fun lt2 => ?_)
 obtain ⟨s, Y, A, U1, U0, v1, v0, hs, hY, D⟩ := d64 lt1 lt2 h
 have hs64 := D.ks
 have hYl := D.yl
 have hAl := D.al
 have hV1 := D.hv.a
 have hV1' := D.hv.b
 have hV0 := D.hv.c
 have hU1 := D.hv.f
 have hU0 := D.hv2.f
 have hR1 := D.r1
 have hR0 := D.r0
 have hQ1 := D.q1
 have hQ0 := D.q0
 have dv := Nat.div_mul_le_self A v1
 have dv2 := Nat.div_mul_le_self ((A * 4294967296 + U1) % Y) v1
 refine .seq fun _ k1 => .region (st (.as (.cU 0 rfl)) rfl (st (.as (.cU 0 rfl)) rfl (nl (.thn (k1 _ _ (.seq fun _ k2 => .seq fun _ k3 => .region (st (.mv (.t rfl)) rfl (st (.eqU (.t rfl) (.cU 0 rfl)) rfl (nl (.thn (k3 _ _ (.cond (.t rfl) (fun hc1 => ?_) (fun hc1 => ?_)))))))))))))
 ·have hc1 := BP.t hc1
  exfalso; first | omega | contradiction | (revert hc1; simp)
 ·have hc1 := BP.f hc1
  refine .skip (.thn (k2 _ _ (.seq fun _ k4 => .seq fun _ k5 => .region (st (.mv (.t rfl)) rfl (st (.mv (.t rfl)) rfl (st (.leU (.t rfl) (.t rfl)) rfl (nl (.thn (k5 _ _ (.cond (.t rfl) (fun hc2 => ?_) (fun hc2 => ?_)))))))))))
  ·have hc2 := BP.t hc2
   exfalso; first | omega | contradiction | (revert hc2; simp)
  ·have hc2 := BP.f hc2
   refine .skip (.thn (k4 _ _ (.cv (Cv.wk (.l [0, 1, 2, 6, 7] rfl)) (.seq fun _ k6 => .seq fun _ k7 => .region (st (.mv (.t rfl)) rfl (st (.eqU (.t rfl) (.cU 0 rfl)) rfl (nl (.thn (k7 _ _ (.cond (.t rfl) (fun hc3 => ?_) (fun hc3 => ?_)))))))))))
   ·have hc3 := BP.t hc3
    refine .seq fun _ k8 => .cv (Cv.wk (.l [0, 1, 2, 7, 26, 27] rfl)) (.dr (.s [] rfl rfl rfl (.o rfl (.mv (.t rfl))) (.s [] rfl rfl rfl (.o rfl (.mv (.t rfl))) (.s [28, 29] rfl rfl rfl (.o rfl (.quoU (.t rfl) (.t rfl) (by with_reducible assumption) (by with_reducible assumption))) (.s [] rfl rfl rfl (.o rfl (.mv (.t rfl))) (.s [] rfl rfl rfl (.o rfl (.mv (.t rfl))) (.s [31, 32] rfl rfl rfl (.o rfl (.remU (.t rfl) (.t rfl) (by with_reducible assumption) (by with_reducible assumption))) (.s [30] rfl rfl rfl (.o rfl (.as (.t rfl))) (.fin (n := 7) zR (by kernel_rfl) (by kernel_rfl) (by kernel_rfl) (.cv (Cv.wk (.l [0, 1, 2, 7, 33, 6] rfl)) (st (.as (.t rfl)) rfl (nl (.thn (k8 _ _ (.ret (.thr (rtN (.inl rfl) Tryz.results135 rfl rfl (.tmp (Has.t' rfl ?_) (.tmp (Has.t' rfl ?_) .nil)))))))))))))))))))
    ·exact zJ (by rw [hc3, Nat.zero_mul, Nat.zero_add])
    ·exact zJ (by rw [hc3, Nat.zero_mul, Nat.zero_add])
   ·have hc3 := BP.f hc3
    refine .skip (.thn (k6 _ _ (.seq fun _ k9 => .region (st (.mv (.t rfl)) rfl (st (.call (eV) (.cons (.t rfl) .nil)) rfl (st (.eq (.convIU un3 un130 (.t rfl) (by omega) (by omega)) ((show isU _ = isU s from zJ (by omega)))) rfl (st (.as (.t rfl)) rfl (nl (.thn (k9 _ _ (.cv (Cv.wk (.l [0, 1, 2, 6, 7, 8] rfl)) (.seq fun _ k10 => .region (st (.mv (.t rfl)) rfl (st (.mv (.t rfl)) rfl (st (.eq (.shlUU (.t rfl) (.t rfl) (by with_reducible exact True.intro)) ((show isU _ = isU Y from zJ (by rw [← hY]; exact Nat.mod_eq_of_lt D.yl)))) rfl ?_)))))))))))))))
    refine st (.as (.t rfl)) rfl (nl (.thn (k10 _ _ (.seq fun _ k11 => .region (st (.mv (.t rfl)) rfl (st (.eq (.shrUU (.t rfl) (.cU 32 rfl) (by with_reducible assumption)) ((show isU _ = isU v1 from zJ (by have := D.kv1; omega)))) rfl ?_))))))
    refine st (.as (.t rfl)) rfl (nl (.thn (k11 _ _ (.cv (Cv.wk (.l [0, 1, 2, 6, 7, 8, 9] rfl)) (.seq fun _ k12 => .region (st (.mv (.t rfl)) rfl (st (.eq (.andU (.t rfl) (.cU 4294967295 rfl)) ((show isU _ = isU v0 from zJ ((Nat.and_two_pow_sub_one_eq_mod _ 32).trans (by have := D.kv0; omega))))) rfl ?_)))))))
    refine st (.as (.t rfl)) rfl (nl (.thn (k12 _ _ (.seq fun _ k13 => .region (st (.mv (.t rfl)) rfl (st (.mv (.t rfl)) rfl (st (.shlUU (.t rfl) (.t rfl) (by with_reducible exact True.intro)) rfl (st (.mv (.t rfl)) rfl (st (.mv (.t rfl)) rfl (st (.subU' (.cU 64 rfl) (.t rfl) (by with_reducible assumption) (by omega)) rfl (st (.shrUU (.t rfl) (.t rfl) (by with_reducible assumption)) rfl (st (.eq (.orU (.t rfl) (.t rfl)) ((show isU _ = isU A from zJ D.un32))) rfl (st (.as (.t rfl)) rfl (nl (.thn (k13 _ _ (.cv (Cv.wk (.l [1, 2, 6, 7, 8, 9, 10, 11] rfl)) (.seq fun _ k14 => .region (st (.mv (.t rfl)) rfl (st (.mv (.t rfl)) rfl (st (.shlUU (.t rfl) (.t rfl) (by with_reducible exact True.intro)) rfl (st (.as (.t rfl)) rfl (nl (.thn (k14 _ _ (.seq fun _ k15 => .region (st (.mv (.t rfl)) rfl (st (.eq (.shrUU (.t rfl) (.cU 32 rfl) (by omega)) ((show isU _ = isU U1 from zJ (by have := D.u1; omega)))) rfl ?_))))))))))))))))))))))))))))
    refine st (.as (.t rfl)) rfl (nl (.thn (k15 _ _ (.cv (Cv.wk (.l [2, 6, 7, 8, 9, 10, 11, 12, 13] rfl)) (.seq fun _ k16 => .region (st (.mv (.t rfl)) rfl (st (.eq (.andU (.t rfl) (.cU 4294967295 rfl)) ((show isU _ = isU U0 from zJ ((Nat.and_two_pow_sub_one_eq_mod _ 32).trans (by have := D.u0; omega))))) rfl ?_)))))))
    refine st (.as (.t rfl)) rfl (nl (.thn (k16 _ _ (.seq fun _ k17 => .region (st (.mv (.t rfl)) rfl (st (.mv (.t rfl)) rfl (st (.quoU (.t rfl) (.t rfl) (by omega) (by with_reducible assumption)) rfl (st (.as (.t rfl)) rfl (nl (.thn (k17 _ _ (.cv (Cv.wk (.l [2, 6, 7, 8, 9, 10, 11, 13, 14, 15] rfl)) (.seq fun _ k18 => .region (st (.mv (.t rfl)) rfl (st (.mv (.t rfl)) rfl (st (.mv (.t rfl)) rfl (st (.mulU' (.t rfl) (.t rfl) (by omega)) rfl (st (.subU' (.t rfl) (.t rfl) (by with_reducible assumption) (by with_reducible assumption)) rfl (st (.as (.t rfl)) rfl (nl (.thn (k18 _ _ (.cv (Cv.wk (.l [2, 6, 7, 8, 9, 10, 11, 13, 14, 15, 16] rfl)) (.cutF [2, 6, 7, 8, 9, 10, 11, 13, 14] (fun (_ : Unit) => [(15, isU ((A * 4294967296 + U1) / Y))]) (fun M => fun (_ : Unit) => M) (fun K19 hK19 => ?_) ?_))))))))))))))))))))))))
    ·skip
     refine .block (.loopF [2, 6, 7, 8, 9, 10, 11, 13, 14] (fun (z : { z : Nat × Nat // Gs A U1 v1 v0 z.1 z.2 }) => match z with | ⟨(q, r), hI⟩ => [(15, isU q), (16, isU r)]) (fun M => fun (z : { z : Nat × Nat // Gs A U1 v1 v0 z.1 z.2 }) => match z with | ⟨(q, r), hI⟩ => M) (fun (z : { z : Nat × Nat // Gs A U1 v1 v0 z.1 z.2 }) => match z with | ⟨(q, r), hI⟩ => q) (⟨(A / v1, A - A / v1 * v1), Gs.start D.hv⟩) (Cv.mem (.c 15 rfl ?_ (.c 16 rfl ?_ (.l [2, 6, 7, 8, 9, 10, 11, 13, 14] rfl))) ?_) ?_)
     ·rfl
     ·rfl
     ·rfl
     rintro ⟨⟨q, r⟩, g⟩ K20 hK20
     refine .cv (Cv.wk (.l [15, 16, 2, 6, 7, 8, 9, 10, 11, 13, 14] rfl)) ?_
     simp only [] at g
     have gq := g.q
     have gr := g.r
     have hv0 := D.hv.c
     have hv1 := D.hv.b
     have hu1 := D.hv.f
     refine .seq fun _ k21 => .seq fun _ k22 => .region (st (.mv (.t rfl)) rfl (st (.geU (.t rfl) (.cU 4294967296 rfl)) rfl (st (.mv (.t rfl)) rfl (stF rfl rfl (fun hg => .mv (.t rfl)) rfl (stF rfl rfl (fun hg => .mv (.t rfl)) rfl ?_)))))
     refine stF rfl rfl (fun hg => have hg' := BP.t hg; OK1.mulU' (Has.g rfl hg) (Has.g rfl hg) (by exact mul_bb (by omega) (by omega))) rfl ?_
     refine stF rfl rfl (fun hg => .mv (.t rfl)) rfl ?_
     refine stF rfl rfl (fun hg => have hg' := BP.t hg; OK1.mulU' (.cU 4294967296 rfl) (Has.g rfl hg) (by omega)) rfl ?_
     refine stF rfl rfl (fun hg => .mv (.t rfl)) rfl ?_
     refine stF rfl rfl (fun hg => have hg' := BP.t hg; OK1.addU' (Has.g rfl hg) (Has.g rfl hg) (by omega)) rfl ?_
     refine stF rfl rfl (fun hg => .gtU (Has.g rfl hg) (Has.g rfl hg)) rfl (st (.pickOr (.t rfl) (fun h => Has.g rfl (ng h))) rfl (nl (.thn (k22 _ _ (.cond (.t rfl) (fun hc4 => ?_) (fun hc4 => ?_))))))
     ·have hc4 := BP.t hc4
      have hn := Gs.next D.hv g hc4
      refine .skip (.thn (k21 _ _ (.block (.seq fun _ k23 => .region (st (.mv (.t rfl)) rfl (st (.subU' (.t rfl) (.cU 1 rfl) (by omega) (by omega)) rfl (st (.as (.t rfl)) rfl (nl (.thn (k23 _ _ (.seq fun _ k24 => .region (st (.mv (.t rfl)) rfl (st (.mv (.t rfl)) rfl (st (.addU' (.t rfl) (.t rfl) (by omega)) rfl (st (.as (.t rfl)) rfl (nl (.thn (k24 _ _ (.seq fun _ k25 => .region (st (.mv (.t rfl)) rfl (st (.geU (.t rfl) (.cU 4294967296 rfl)) rfl (nl (.thn (k25 _ _ (.cond (.t rfl) (fun hc5 => ?_) (fun hc5 => ?_))))))))))))))))))))))))))
      ·have hc5 := BP.t hc5
       refine .exit (.blm rfl (.the (.blh (.thn (hK19 (()) _ _ (Cv.mem (.c 15 rfl ?_ (.l [2, 6, 7, 8, 9, 10, 11, 13, 14] rfl)) ?_))))))
       ·exact zJ ((Gs.exit2 D.hv hn.1 hn.2.1 hn.2.2.1 (by omega)).trans (by rw [D.kY]))
       ·rfl
      ·have hc5 := BP.f hc5
       refine .skip (.bln (.thn ?_))
       refine hK20 (⟨(q - 1, r + v1), hn.1, hn.2.1, by show q - 1 ≤ _; omega, by show r + v1 < _; omega⟩) _ _ ?_ (Cv.mem (.c 15 rfl ?_ (.c 16 rfl ?_ (.l [2, 6, 7, 8, 9, 10, 11, 13, 14] rfl))) ?_)
       ·show q - 1 < q; omega
       ·rfl
       ·rfl
       ·rfl
     ·have hc4 := BP.f hc4
      refine .exit (.the (.the (.blh (.thn (hK19 (()) _ _ (Cv.mem (.c 15 rfl ?_ (.l [2, 6, 7, 8, 9, 10, 11, 13, 14] rfl)) ?_))))))
      ·exact zJ ((Gs.exit D.hv g (by omega)).trans (by rw [D.kY]))
      ·rfl
    rintro _
    refine .cv (Cv.wk (.l [15, 2, 6, 7, 8, 9, 10, 11, 13, 14] rfl)) (.seq fun _ k26 => .region (st (.mv (.t rfl)) rfl (st (.mulU (.t rfl) (.cU 4294967296 rfl)) rfl (st (.mv (.t rfl)) rfl (st (.addU (.t rfl) (.t rfl)) rfl (st (.mv (.t rfl)) rfl (st (.mv (.t rfl)) rfl (st (.mulU (.t rfl) (.t rfl)) rfl (st (.eq (.subU (.t rfl) (.t rfl) (by omega)) ((show isU _ = isU ((A * 4294967296 + U1) % Y) from zJ (wrapSub (divMul _ _) hR1 hU1)))) rfl (st (.as (.t rfl)) rfl (nl (.thn (k26 _ _ (.cv (Cv.wk (.l [2, 6, 7, 8, 9, 10, 14, 15, 17] rfl)) (.seq fun _ k27 => .region (st (.mv (.t rfl)) rfl (st (.mv (.t rfl)) rfl (st (.quoU (.t rfl) (.t rfl) (by omega) (by with_reducible assumption)) rfl (st (.as (.t rfl)) rfl (nl (.thn (k27 _ _ (.seq fun _ k28 => .region (st (.mv (.t rfl)) rfl (st (.mv (.t rfl)) rfl (st (.mv (.t rfl)) rfl (st (.mulU' (.t rfl) (.t rfl) (by with_reducible exact Nat.lt_of_le_of_lt (Nat.div_mul_le_self _ _) hR1)) rfl (st (.subU' (.t rfl) (.t rfl) (by with_reducible assumption) (by with_reducible assumption)) rfl (st (.as (.t rfl)) rfl (nl (.thn (k28 _ _ (.cv (Cv.wk (.l [2, 6, 7, 8, 9, 10, 14, 15, 17, 18, 16] rfl)) (.cutF [2, 6, 7, 8, 14, 15, 17] (fun (_ : Unit) => [(18, isU ((((A * 4294967296 + U1) % Y) * 4294967296 + U0) / Y))]) (fun M => fun (_ : Unit) => M) (fun K29 hK29 => ?_) ?_))))))))))))))))))))))))))))))))))
    ·skip
     refine .block (.loopF [2, 6, 7, 8, 9, 10, 14, 15, 17] (fun (z : { z : Nat × Nat // Gs ((A * 4294967296 + U1) % Y) U0 v1 v0 z.1 z.2 }) => match z with | ⟨(q, r), hI⟩ => [(18, isU q), (16, isU r)]) (fun M => fun (z : { z : Nat × Nat // Gs ((A * 4294967296 + U1) % Y) U0 v1 v0 z.1 z.2 }) => match z with | ⟨(q, r), hI⟩ => M) (fun (z : { z : Nat × Nat // Gs ((A * 4294967296 + U1) % Y) U0 v1 v0 z.1 z.2 }) => match z with | ⟨(q, r), hI⟩ => q) (⟨(((A * 4294967296 + U1) % Y) / v1, ((A * 4294967296 + U1) % Y) - ((A * 4294967296 + U1) % Y) / v1 * v1), Gs.start D.hv2⟩) (Cv.mem (.c 18 rfl ?_ (.c 16 rfl ?_ (.l [2, 6, 7, 8, 9, 10, 14, 15, 17] rfl))) ?_) ?_)
     ·rfl
     ·rfl
     ·rfl
     rintro ⟨⟨q, r⟩, g⟩ K30 hK30
     refine .cv (Cv.wk (.l [18, 16, 2, 6, 7, 8, 9, 10, 14, 15, 17] rfl)) ?_
     simp only [] at g
     have gq := g.q
     have gr := g.r
     have hv0 := D.hv2.c
     have hv1 := D.hv2.b
     have hu1 := D.hv2.f
     refine .seq fun _ k31 => .seq fun _ k32 => .region (st (.mv (.t rfl)) rfl (st (.geU (.t rfl) (.cU 4294967296 rfl)) rfl (st (.mv (.t rfl)) rfl (stF rfl rfl (fun hg => .mv (.t rfl)) rfl (stF rfl rfl (fun hg => .mv (.t rfl)) rfl ?_)))))
     refine stF rfl rfl (fun hg => have hg' := BP.t hg; OK1.mulU' (Has.g rfl hg) (Has.g rfl hg) (by exact mul_bb (by omega) (by omega))) rfl ?_
     refine stF rfl rfl (fun hg => .mv (.t rfl)) rfl ?_
     refine stF rfl rfl (fun hg => have hg' := BP.t hg; OK1.mulU' (.cU 4294967296 rfl) (Has.g rfl hg) (by omega)) rfl ?_
     refine stF rfl rfl (fun hg => .mv (.t rfl)) rfl ?_
     refine stF rfl rfl (fun hg => have hg' := BP.t hg; OK1.addU' (Has.g rfl hg) (Has.g rfl hg) (by omega)) rfl ?_
     refine stF rfl rfl (fun hg => .gtU (Has.g rfl hg) (Has.g rfl hg)) rfl (st (.pickOr (.t rfl) (fun h => Has.g rfl (ng h))) rfl (nl (.thn (k32 _ _ (.cond (.t rfl) (fun hc6 => ?_) (fun hc6 => ?_))))))
     ·have hc6 := BP.t hc6
      have hn := Gs.next D.hv2 g hc6
      refine .skip (.thn (k31 _ _ (.block (.seq fun _ k33 => .region (st (.mv (.t rfl)) rfl (st (.subU' (.t rfl) (.cU 1 rfl) (by omega) (by omega)) rfl (st (.as (.t rfl)) rfl (nl (.thn (k33 _ _ (.seq fun _ k34 => .region (st (.mv (.t rfl)) rfl (st (.mv (.t rfl)) rfl (st (.addU' (.t rfl) (.t rfl) (by omega)) rfl (st (.as (.t rfl)) rfl (nl (.thn (k34 _ _ (.seq fun _ k35 => .region (st (.mv (.t rfl)) rfl (st (.geU (.t rfl) (.cU 4294967296 rfl)) rfl (nl (.thn (k35 _ _ (.cond (.t rfl) (fun hc7 => ?_) (fun hc7 => ?_))))))))))))))))))))))))))
      ·have hc7 := BP.t hc7
       refine .exit (.blm rfl (.the (.blh (.thn (hK29 (()) _ _ (Cv.mem (.c 18 rfl ?_ (.l [2, 6, 7, 8, 14, 15, 17] rfl)) ?_))))))
       ·exact zJ ((Gs.exit2 D.hv2 hn.1 hn.2.1 hn.2.2.1 (by omega)).trans (by rw [D.kY]))
       ·rfl
      ·have hc7 := BP.f hc7
       refine .skip (.bln (.thn ?_))
       refine hK30 (⟨(q - 1, r + v1), hn.1, hn.2.1, by show q - 1 ≤ _; omega, by show r + v1 < _; omega⟩) _ _ ?_ (Cv.mem (.c 18 rfl ?_ (.c 16 rfl ?_ (.l [2, 6, 7, 8, 9, 10, 14, 15, 17] rfl))) ?_)
       ·show q - 1 < q; omega
       ·rfl
       ·rfl
       ·rfl
     ·have hc6 := BP.f hc6
      refine .exit (.the (.the (.blh (.thn (hK29 (()) _ _ (Cv.mem (.c 18 rfl ?_ (.l [2, 6, 7, 8, 14, 15, 17] rfl)) ?_))))))
      ·exact zJ ((Gs.exit D.hv2 g (by omega)).trans (by rw [D.kY]))
      ·rfl
    rintro _
    refine .cv (Cv.wk (.l [18, 2, 6, 7, 8, 14, 15, 17] rfl)) (.seq fun _ k36 => .region (st (.mv (.t rfl)) rfl (st (.mulU (.t rfl) (.cU 4294967296 rfl)) rfl (st (.mv (.t rfl)) rfl (st (.addU (.t rfl) (.t rfl)) rfl (st (.mv (.t rfl)) rfl (st (.mulU (.t rfl) (.cU 4294967296 rfl)) rfl (st (.mv (.t rfl)) rfl (st (.addU (.t rfl) (.t rfl)) rfl (st (.mv (.t rfl)) rfl (st (.mv (.t rfl)) rfl (st (.mulU (.t rfl) (.t rfl)) rfl (st (.eq (.subU (.t rfl) (.t rfl) (by omega)) ((show isU _ = isU ((((A * 4294967296 + U1) % Y) * 4294967296 + U0) % Y) from zJ (wrapSub (divMul _ _) hR0 hU0)))) rfl (st (.mv (.t rfl)) rfl (st (.shrUU (.t rfl) (.t rfl) (by with_reducible assumption)) rfl (st (.as (.t rfl)) rfl (st (.as (.t rfl)) rfl (nl (.thn (k36 _ _ (.cv (Cv.wk (.l [6, 7] rfl)) (.ret (rtN (.inl rfl) Tryz.results135 rfl rfl (.tmp (Has.t' rfl ?_) (.tmp (Has.t' rfl ?_) .nil)))))))))))))))))))))))))
    ·exact zJ (Eq.trans (wrapAdd hQ1 hQ0) D.quo)
    ·exact zJ D.rem
theorem div_Small {xs : List Nat} {x : Nat} (hx : (List.length (zA (val xs))) < 4294900000) : Ctr Tryz.prog 128 [zD xs, isU x] (zQ [zD (zA (val xs / x)), isU (if x = 0 then 0 else val xs % x), isB (decide (x ≠ 0))]) := by
 refine Ctr.intro Tryz.func128 rfl (by kernel_rfl) Tryz.ntmps128 rfl fun w0 F0 => .cv (Cv.wk (.l [0, 1] rfl)) (.fact (Has.lenLt (Has.t (t := 0) rfl)) fun lt0 => .fact (Has.okW (Has.t (t := 0) rfl)) fun ok0 => .fact (Has.ltU (Has.t (t := 1) rfl)) fun lt1 => .seq fun _ k1 => .region (st (.as (.cW (f := isU))) rfl (st (.as (.cU 0 rfl)) rfl (st (.as (.cB false)) rfl (nl (.thn (k1 _ _ (.seq fun _ k2 => .seq fun _ k3 => .region (st (.mv (.t rfl)) rfl (st (.eqU (.t rfl) (.cU 0 rfl)) rfl (nl (.thn (k3 _ _ (.cond (.t rfl) (fun hc1 => ?_) (fun hc1 => ?_)))))))))))))))
 ·have hc1 := BP.t hc1
  refine .seq fun _ k4 => .region (st (.as (.cW (f := isU))) rfl (st (.as (.cU 0 rfl)) rfl (st (.as (.cB false)) rfl (nl (.thn (k4 _ _ (.ret (.thr (rtN (.inl rfl) Tryz.results128 rfl rfl (.tmp (Has.t' rfl ?_) (.tmp (Has.t' rfl ?_) (.tmp (Has.t' rfl ?_) .nil))))))))))))
  ·exact zY (by rw [hc1, Nat.div_zero, zF])
  ·exact zJ (by rw [if_pos hc1])
  ·exact zU (by simp [hc1])
 ·have hc1 := BP.f hc1
  refine .skip (.thn (k2 _ _ (.seq fun _ k5 => .region (st (.mv (.t rfl)) rfl (.callO (nat_NormO (by omega)) (.cons (.t rfl) .nil) rfl (fun hO2 => ?_) (fun hO2 b1 cb1 jb1 => ?_))))))
  ·skip
   refine st (.as (.t rfl)) rfl (nl (.thn (k5 _ _ (.seq fun _ k6 => .region (st (.as (.cU 0 rfl)) rfl (nl (.thn (k6 _ _ (.seq fun _ k7 => .seq fun _ k8 => .region (st (.mv (.t rfl)) rfl (st (.len sl39 (.t rfl)) rfl (st (.subI (.t rfl) (.cI 1 rfl) (by omega) (by simp only [List.length_nil]; omega)) rfl ?_))))))))))))
   refine st (.as (.t rfl)) rfl (nl (.thn (k8 _ _ (.cv (Cv.wk (.l [0, 1, 4, 5, 6, 7, 8] rfl)) (.block (.loopF [0, 1, 4, 5, 6] (fun (_ : Unit) => [(8, isI (-1)), (7, isU 0)]) (fun M => fun (_ : Unit) => M) (fun (_ : Unit) => 0) (()) (Cv.mem (.c 8 rfl ?_ (.c 7 rfl ?_ (.l [0, 1, 4, 5, 6] rfl))) ?_) ?_))))))
   ·rfl
   ·rfl
   ·rfl
   rintro _ K9 hK9
   refine .cv (Cv.wk (.l [8, 7, 0, 1, 4, 5, 6] rfl)) (.seq fun _ k10 => .seq fun _ k11 => .region (st (.mv (.t rfl)) rfl (st (.geI (.t rfl) (.cI 0 rfl)) rfl (nl (.thn (k11 _ _ (.cond (.t rfl) (fun hc3 => ?_) (fun hc3 => ?_))))))))
   ·have hc3 := BP.t hc3
    exfalso; first | omega | contradiction | (revert hc3; simp)
   ·have hc3 := BP.f hc3
    refine .exit (.the (.the (.blh (.thn (k7 _ _ (.seq fun _ k12 => .region (st (.mv (.t rfl)) rfl (st (.call (xM (by show (zA 0).length ≤ _; rw [zF]; exact Nat.zero_le _)) (.cons (.t rfl) .nil)) rfl ?_))))))))
    refine st (.mv (.t rfl)) rfl (st (.as (.t rfl)) rfl (st (.as (.t rfl)) rfl (st (.as (.cB true)) rfl (nl (.thn (k12 _ _ (.cv (Cv.wk (.l [4, 5, 6] rfl)) (.ret (rtN (.inl rfl) Tryz.results128 rfl rfl (.tmp (Has.t' rfl ?_) (.tmp (Has.t' rfl ?_) (.tmp (Has.t' rfl ?_) .nil))))))))))))
    ·exact zY (by rw [jg hO2, Nat.zero_div]; rfl)
    ·exact zJ (by rw [if_neg hc1, jg hO2, Nat.zero_mod])
    ·exact zU (by simp [hc1])
  ·skip
   refine st (.as (.t rfl)) rfl (nl (.thn (k5 _ _ (.seq fun _ k13 => .region (st (.as (.cU 0 rfl)) rfl (nl (.thn (k13 _ _ (.seq fun _ k14 => .seq fun _ k15 => .region (st (.mv (.t rfl)) rfl (st (.len sl39 (.t rfl)) rfl (st (.subI (.t rfl) (.cI 1 rfl) (by omega) (by omega)) rfl (st (.as (.t rfl)) rfl (nl (.thn (k15 _ _ (.cv (Cv.wk (.l [0, 1, 4, 5, 6, 7, 8] rfl)) (.block (.loopF [0, 1, 4, 5, 6] (fun (z : { k : Nat // k ≤ (List.length (zA (val xs))) }) => match z with | ⟨k, hI⟩ => [(8, isI ((k : Int) - 1)), (7, isU (val xs / W ^ k % x))]) (fun M => fun (z : { k : Nat // k ≤ (List.length (zA (val xs))) }) => match z with | ⟨k, hI⟩ => [(some b1, zB (List.map isU (mix k (val xs) (val xs / x) ((List.length (zA (val xs)))) ++ List.replicate jb1 0)))]) (fun (z : { k : Nat // k ≤ (List.length (zA (val xs))) }) => match z with | ⟨k, hI⟩ => k) (⟨(List.length (zA (val xs))), Nat.le_refl _⟩) (Cv.mem (.c 8 rfl ?_ (.c 7 rfl ?_ (.l [0, 1, 4, 5, 6] rfl))) ?_) ?_)))))))))))))))))))
   ·rfl
   ·exact zJ (by rw [Nat.div_eq_of_lt (qV _), Nat.zero_mod])
   ·exact qO (smallStart _ _ _)
   rintro ⟨k, hI⟩ K16 hK16
   refine .cv (Cv.wk (.l [8, 7, 0, 1, 4, 5, 6] rfl)) (.memEq (M' := [(some b1, zB (List.map isU (mix k (val xs) (val xs / x) ((List.length (zA (val xs)))) ++ List.replicate jb1 0)))]) rfl ?_)
   have wl : (mix k (val xs) (val xs / x) ((List.length (zA (val xs)))) ++ List.replicate jb1 0).length = (List.length (zA (val xs))) + jb1 := by rw [List.length_append, vS hI, List.length_replicate]
   have ek : ((k : Int) - 1).toNat = k - 1 := by omega
   refine .seq fun _ k17 => .seq fun _ k18 => .region (st (.mv (.t rfl)) rfl (st (.geI (.t rfl) (.cI 0 rfl)) rfl (nl (.thn (k18 _ _ (.cond (.t rfl) (fun hc4 => ?_) (fun hc4 => ?_)))))))
   ·have hc4 := BP.t hc4
    refine .skip (.thn (k17 _ _ (.seq fun _ k19 => .block (.region (st (.mv (.t rfl)) rfl (st (.mv (.t rfl)) rfl (st (.mv (.t rfl)) rfl (st (.mv (.t rfl)) rfl (st (.mv (.t rfl)) rfl (st (.eq (.ixWin sl39 ty86 (.t rfl) (.t rfl) ⟨by omega, by omega⟩) (zX (by exact ixo0))) rfl (st (.eq (.load1 (.t rfl) (i := 0) rfl ty86 (map_some (getD_some (d := 0) (by omega)))) ((show isU _ = isU (dig (val xs) (k - 1)) from zJ (by rw [ek, getD_app (by rw [vS hI]; omega), mix_low (by omega)])))) rfl ?_)))))))))))
    refine st (.mv (.t rfl)) rfl (st (.call (dN (Nat.mod_lt _ (by omega))) (.cons (.t rfl) (.cons (.t rfl) (.cons (.t rfl) .nil)))) rfl (st (.mv (.t rfl)) rfl (st (.ext (.t rfl) rfl) rfl (st (.ext (.t rfl) rfl) rfl (st (.eq (.ixWin sl39 ty86 (.t rfl) (.t rfl) ⟨by omega, by omega⟩) (zX (by exact ixo0))) rfl (.storeM (.t rfl) (.t rfl) (i := 0) rfl ty86 (by omega) (M' := [(_, _)]) rfl (st (.as (.t rfl)) rfl (nl (.bln (.thn (k19 _ _ (.region (st (.mv (.t rfl)) rfl (st (.subI (.t rfl) (.cI 1 rfl) (by omega) (by omega)) rfl (st (.as (.t rfl)) rfl (nl (.thn ?_)))))))))))))))))
    have hs := cF (A := val xs) (x := x) (by omega) (by omega : 0 < k)
    refine hK16 (⟨k - 1, by omega⟩) _ _ ?_ (Cv.mem (.c 8 rfl ?_ (.c 7 rfl ?_ (.l [0, 1, 4, 5, 6] rfl))) ?_)
    ·show k - 1 < k; omega
    ·exact zE (by show _ = ((k - 1 : Nat) : Int) - 1; omega)
    ·exact zJ hs.2
    ·exact qO (by rw [ek]; exact mix_down (by omega) hI hs.1)
   ·have hc4 := BP.f hc4
    refine .exit (.the (.the (.blh (.thn (k14 _ _ (.seq fun _ k20 => .cv (Cv.freeze' (t := 0) (i := 0) (ys := zI ((List.length (zA (val xs)))) (val xs / x)) rfl rfl rfl (by omega) (by obtain rfl : k = 0 := (by omega); exact smallEnd rfl)) ?_))))))
    refine .memEq (M' := []) rfl (.cv (Cv.wk (.l [0, 1, 4, 5, 6, 8, 7, 16, 17] rfl)) (.region (st (.mv (.t rfl)) rfl (st (.call (xM (by rw [xD]; exact normLe (by omega))) (.cons (.t rfl) .nil)) rfl ?_))))
    refine st (.mv (.t rfl)) rfl (st (.as (.t rfl)) rfl (st (.as (.t rfl)) rfl (st (.as (.cB true)) rfl (nl (.thn (k20 _ _ (.cv (Cv.wk (.l [4, 5, 6] rfl)) (.ret (rtN (.inl rfl) Tryz.results128 rfl rfl (.tmp (Has.t' rfl ?_) (.tmp (Has.t' rfl ?_) (.tmp (Has.t' rfl ?_) .nil))))))))))))
    ·exact zY (words_quo _ _)
    ·obtain rfl : k = 0 := (by omega); exact zJ (by rw [if_neg hc1, Nat.pow_zero, Nat.div_one])
    ·exact zU (by simp [hc1])
theorem div_guess {u2 u1 u0 v1 v0 : Nat} (h : 0 < v1) : Ctr Tryz.prog 136 [isU u2, isU u1, isU u0, isU v1, isU v0] (isU (gss u2 u1 u0 v1 v0)) := by
 refine Ctr.intro Tryz.func136 rfl (by kernel_rfl) Tryz.ntmps136 rfl fun w0 F0 => .cv (Cv.wk (.l [0, 1, 2, 3, 4] rfl)) (.fact (Has.ltU (Has.t (t := 0) rfl)) fun lt0 => .fact (Has.ltU (Has.t (t := 1) rfl)) fun lt1 => .fact (Has.ltU (Has.t (t := 2) rfl)) fun lt2 => .fact (Has.ltU (Has.t (t := 3) rfl)) fun lt3 => .fact (Has.ltU (Has.t (t := 4) rfl)) fun lt4 => .seq fun _ k1 => .region (st (.as (.cU 0 rfl)) rfl (nl (.thn (k1 _ _ (.seq fun _ k2 => .seq fun _ k3 => .region (st (.mv (.t rfl)) rfl (st (.mv (.t rfl)) rfl (st (.gtU (.t rfl) (.t rfl)) rfl (nl (.thn (k3 _ _ (.cond (.t rfl) (fun hc1 => ?_) (fun hc1 => ?_))))))))))))))
 ·have hc1 := BP.t hc1
  refine .seq fun _ k4 => .region (st (.as (.cU 18446744073709551615 rfl)) rfl (nl (.thn (k4 _ _ (.ret (.thr (rt1 (.inl rfl) Tryz.results136 rfl (.tmp (Has.t' rfl ?_) .nil))))))))
  all_goals (exact zJ (gss_max hc1 lt4 h))
 ·have hc1 := BP.f hc1
  refine .skip (.thn (k2 _ _ (.seq fun _ k5 => .region (st (.as (.cU 18446744073709551615 rfl)) rfl (st (.as (.cU 0 rfl)) rfl (st (.as (.cU 0 rfl)) rfl (nl (.thn (k5 _ _ (.cutF [2, 3, 4, 10] (fun (z : { z : Nat × Nat // Gw u2 u1 u0 v1 v0 z.1 z.2 }) => match z with | ⟨(q, r), hI⟩ => [(11, isU q), (12, isU (r % 18446744073709551616)), (13, isU (r / 18446744073709551616))]) (fun M => fun (z : { z : Nat × Nat // Gw u2 u1 u0 v1 v0 z.1 z.2 }) => match z with | ⟨(q, r), hI⟩ => M) (fun K6 hK6 => ?_) ?_))))))))))
  ·skip
   refine .seq fun _ k7 => .region (st (.mv (.t rfl)) rfl (st (.mv (.t rfl)) rfl (st (.eqU (.t rfl) (.t rfl)) rfl (nl (.thn (k7 _ _ (.cv (Cv.wk (.l [0, 1, 2, 3, 4, 10, 11, 12, 13, 21] rfl)) (.cond (.t rfl) (fun hc2 => ?_) (fun hc2 => ?_)))))))))
   ·have hc2 := BP.t hc2
    refine .region (st (.mv (.t rfl)) rfl (st (.mv (.t rfl)) rfl (st (.add64 vC (.t rfl) (.t rfl) (.cU 0 rfl) (by omega) ⟨(by with_reducible assumption), (by with_reducible assumption)⟩) rfl (st (.mv (.t rfl)) rfl (st (.ext (.t rfl) rfl) rfl (st (.ext (.t rfl) rfl) rfl (st (.as (.t rfl)) rfl (st (.as (.t rfl)) rfl (nl (.thn (hK6 (⟨(18446744073709551615, u1 + v1), Gw.same hc2 lt1 lt3⟩) _ _ (Cv.mem (.c 11 rfl ?_ (.c 12 rfl ?_ (.c 13 rfl ?_ (.l [2, 3, 4, 10] rfl)))) ?_))))))))))))
    ·rfl
    ·rfl
    ·rfl
    ·rfl
   ·have hc2 := BP.f hc2
    refine .region (st (.mv (.t rfl)) rfl (st (.mv (.t rfl)) rfl (st (.mv (.t rfl)) rfl (st (.call (dN (by omega)) (.cons (.t rfl) (.cons (.t rfl) (.cons (.t rfl) .nil)))) rfl (st (.mv (.t rfl)) rfl (st (.ext (.t rfl) rfl) rfl (st (.ext (.t rfl) rfl) rfl (st (.as (.t rfl)) rfl (st (.as (.t rfl)) rfl (nl (.thn ?_)))))))))))
    have hm := Nat.mod_lt (u2 * 18446744073709551616 + u1) h
    refine hK6 (⟨((u2 * 18446744073709551616 + u1) / v1, (u2 * 18446744073709551616 + u1) % v1), Gw.start (by omega) lt1 lt2 lt3⟩) _ _ (Cv.mem (.c 11 rfl ?_ (.c 12 rfl ?_ (.c 13 rfl ?_ (.l [2, 3, 4, 10] rfl)))) ?_)
    ·rfl
    ·exact zJ (Nat.mod_eq_of_lt (by omega)).symm
    ·exact zJ (Nat.div_eq_of_lt (by omega)).symm
    ·rfl
  rintro ⟨⟨q, r⟩, g⟩
  refine .cv (Cv.wk (.l [11, 12, 13, 2, 3, 4, 10] rfl)) ?_
  simp only [] at g
  refine .seq fun _ k8 => .block (.loopF [2, 3, 4, 10] (fun (z : { z : Nat × Nat // Gw u2 u1 u0 v1 v0 z.1 z.2 }) => match z with | ⟨(q, r), hI⟩ => [(11, isU q), (12, isU (r % 18446744073709551616)), (13, isU (r / 18446744073709551616))]) (fun M => fun (z : { z : Nat × Nat // Gw u2 u1 u0 v1 v0 z.1 z.2 }) => match z with | ⟨(q, r), hI⟩ => M) (fun (z : { z : Nat × Nat // Gw u2 u1 u0 v1 v0 z.1 z.2 }) => match z with | ⟨(q, r), hI⟩ => q) (⟨(q, r), g⟩) (Cv.mem (.c 11 rfl ?_ (.c 12 rfl ?_ (.c 13 rfl ?_ (.l [2, 3, 4, 10] rfl)))) ?_) ?_)
  ·rfl
  ·rfl
  ·rfl
  ·rfl
  rintro ⟨⟨q, r⟩, g⟩ K9 hK9
  refine .cv (Cv.wk (.l [11, 12, 13, 2, 3, 4, 10] rfl)) ?_
  simp only [] at g
  have gq := g.q
  have gr := g.r
  refine .seq fun _ k10 => .seq fun _ k11 => .region (st (.mv (.t rfl)) rfl (st (.eqU (.t rfl) (.cU 0 rfl)) rfl (nl (.thn (k11 _ _ (.cond (.t rfl) (fun hc3 => ?_) (fun hc3 => ?_)))))))
  ·have hc3 := BP.t hc3
   refine .skip (.thn (k10 _ _ (.block (.seq fun _ k12 => .region (st (.mv (.t rfl)) rfl (st (.mv (.t rfl)) rfl (st (.call wz (.cons (.t rfl) (.cons (.t rfl) .nil))) rfl (st (.mv (.t rfl)) rfl (st (.ext (.t rfl) rfl) rfl (st (.ext (.t rfl) rfl) rfl (st (.as (.t rfl)) rfl (st (.as (.t rfl)) rfl (nl (.thn (k12 _ _ (.seq fun _ k13 => .seq fun _ k14 => .region (st (.mv (.t rfl)) rfl (st (.mv (.t rfl)) rfl (st (.ltU (.t rfl) (.t rfl)) rfl (st (.mv (.t rfl)) rfl (stF rfl rfl (fun hg => .mv (.t rfl)) rfl (stF rfl rfl (fun hg => .mv (.t rfl)) rfl (stF rfl rfl (fun hg => .eqU (Has.g rfl hg) (Has.g rfl hg)) rfl (stF rfl rfl (fun hg => .mv (Has.g rfl hg)) rfl (stGT rfl rfl (fun hg => .mv (.t rfl)) rfl (stGT rfl rfl (fun hg => .mv (.t rfl)) rfl (stGT rfl rfl (fun hg => .leU (Has.g rfl hg) (Has.g rfl hg)) rfl (stF rfl rfl (fun hg => .pickAnd (Has.g rfl hg) (fun h => Has.g rfl (ga hg h))) rfl (st (.pickOr (.t rfl) (fun h => Has.g rfl (ng h))) rfl (nl (.thn (k14 _ _ (.cond (.t rfl) (fun hc4 => ?_) (fun hc4 => ?_))))))))))))))))))))))))))))))))))
   ·have hc4 := BP.t hc4
    have ht := (test_le (p := q * v0) (r := r % 18446744073709551616) (u0 := u0) (by omega) lt2).1 hc4
    rw [Nat.mod_eq_of_lt (show r < 18446744073709551616 by omega)] at ht
    refine .exit (.the (.blm rfl (.the (.blh (.thn (k8 _ _ (.cv (Cv.wk (.l [10, 11] rfl)) (.seq fun _ k15 => .region (st (.mv (.t rfl)) rfl (st (.as (.t rfl)) rfl (nl (.thn (k15 _ _ (.ret (rt1 (.inl rfl) Tryz.results136 rfl (.tmp (Has.t' rfl ?_) .nil))))))))))))))))
    all_goals (exact zJ (g.exit h ht))
   ·have hc4 := BP.f hc4
    have ht : ¬ _ := fun hh => absurd ((test_le (p := q * v0) (r := r % 18446744073709551616) (u0 := u0) (by omega) lt2).2 hh) (by omega)
    have hn := Gw.next h lt3 g (by omega) (by omega)
    refine .skip (.thn (k13 _ _ (.seq fun _ k16 => .region (st (.mv (.t rfl)) rfl (st (.subU' (.t rfl) (.cU 1 rfl) (by omega) (by omega)) rfl (st (.as (.t rfl)) rfl (nl (.thn (k16 _ _ (.region (st (.mv (.t rfl)) rfl (st (.mv (.t rfl)) rfl (st (.add64 vC (.t rfl) (.t rfl) (.cU 0 rfl) (by omega) ⟨(by omega), (by with_reducible assumption)⟩) rfl (st (.mv (.t rfl)) rfl (st (.ext (.t rfl) rfl) rfl (st (.ext (.t rfl) rfl) rfl (st (.as (.t rfl)) rfl (st (.as (.t rfl)) rfl (nl (.bln (.thn (hK9 (⟨(q - 1, r + v1), hn.1⟩) _ _ ?_ (Cv.mem (.c 11 rfl ?_ (.c 12 rfl ?_ (.c 13 rfl ?_ (.l [2, 3, 4, 10] rfl)))) ?_)))))))))))))))))))))))
    ·show q - 1 < q; have := hn.2; omega
    ·rfl
    ·exact zJ (by show (r % _ + v1 + 0) % _ = (r + v1) % _; omega)
    ·exact zJ (by show (r % _ + v1 + 0) / _ = (r + v1) / _; omega)
    ·rfl
  ·have hc3 := BP.f hc3
   refine .exit (.the (.the (.blh (.thn (k8 _ _ (.cv (Cv.wk (.l [10, 11] rfl)) (.seq fun _ k17 => .region (st (.mv (.t rfl)) rfl (st (.as (.t rfl)) rfl (nl (.thn (k17 _ _ (.ret (rt1 (.inl rfl) Tryz.results136 rfl (.tmp (Has.t' rfl ?_) .nil)))))))))))))))
   all_goals (exact zJ (g.exit2 h lt4 (by omega)))
end Go.Proofs.YthmhlblaleahpaaGreat
namespace Go.Proofs.YthmhlblaleahpaaGreat
open Go.En Go.RowKit
set_option maxRecDepth 10000
open Go.Nt
set_option maxHeartbeats 2000000 in
theorem div_take {N v q o c m : Nat} (h2 : o + ((List.length (zA v)) + 1) ≤ m) (h3 : N / W ^ o < W ^ ((List.length (zA v)) + 1)) : CtrM Tryz.prog 137 (fun b0 => [zu b0 o ((List.length (zA v)) + 1) c, zD (zA v), isU q]) (zB (List.map isU (zI m N))) (zB (List.map isU (zI m (N % W ^ o + W ^ o * (vr (N / W ^ o) (v * q) ((List.length (zA v)) + 1)))))) (fun b0 => isB (decide (N / W ^ o < v * q))) := by
 refine CtrM.intro Tryz.func137 rfl (by kernel_rfl) Tryz.ntmps137 (fun _ => rfl) fun w0 F0 b0 => .cv (Cv.wk (.l [0, 1, 2] rfl)) (.fact (Has.lenLt (Has.t (t := 0) rfl)) fun lt0 => .fact (Has.winLe (Has.t (t := 0) rfl)) fun lw0 => .fact (Has.lenLt (Has.t (t := 1) rfl)) fun lt1 => .fact (Has.okW (Has.t (t := 1) rfl)) fun ok1 => .fact (Has.ltU (Has.t (t := 2) rfl)) fun lt2 => .seq fun _ k1 => .region (st (.as (.cB false)) rfl (nl (.thn (k1 _ _ (.seq fun _ k2 => .region (st (.as (.cU 0 rfl)) rfl (st (.as (.cU 0 rfl)) rfl (nl (.thn (k2 _ _ (.seq fun _ k3 => .seq fun _ k4 => .region (st (.mv (.t rfl)) rfl (st (.len sl39 (.t rfl)) rfl (st (.mv (.cI 0 rfl)) rfl (nl (.thn (k4 _ _ (.block (.loopF [0, 1, 2, 6, 14, 15] (fun (z : { i : Nat // i ≤ (List.length (zA v)) }) => match z with | ⟨i, hI⟩ => [(16, isI (i : Int)), (7, isU (mcar 0 v q i)), (8, isU (bor (N / W ^ o) (v * q) i))]) (fun M => fun (z : { i : Nat // i ≤ (List.length (zA v)) }) => match z with | ⟨i, hI⟩ => [(some b0, zB (List.map isU (mix (o + i) (N % W ^ o + W ^ o * (vr (N / W ^ o) (v * q) ((List.length (zA v)) + 1))) N m)))]) (fun (z : { i : Nat // i ≤ (List.length (zA v)) }) => match z with | ⟨i, hI⟩ => (List.length (zA v)) - i) (⟨0, Nat.zero_le _⟩) (Cv.mem (.c 16 rfl ?_ (.c 7 rfl ?_ (.c 8 rfl ?_ (.l [0, 1, 2, 6, 14, 15] rfl)))) ?_) ?_))))))))))))))))))))
 ·rfl
 ·exact zJ (eB _ _ _)
 ·exact zJ (bor_zero _ _)
 ·exact qO (jT (by omega) (ee _ _ _))
 rintro ⟨i, hI⟩ K5 hK5
 refine .cv (Cv.wk (.l [16, 7, 8, 0, 1, 2, 6, 14, 15] rfl)) (.memEq (M' := [(some b0, zB (List.map isU (mix (o + i) (N % W ^ o + W ^ o * (vr (N / W ^ o) (v * q) ((List.length (zA v)) + 1))) N m)))]) rfl ?_)
 have wl : (mix (o + i) (N % W ^ o + W ^ o * (vr (N / W ^ o) (v * q) ((List.length (zA v)) + 1))) N m).length = m := vS (by omega)
 have hcl := Nat.lt_of_le_of_lt (aK 0 v q i) lt2
 have hrow := take_word lt2 (qR v i) hcl (qR _ _) (dy v q i)
 refine .seq fun _ k6 => .region (st (.ltI (.t rfl) (.t rfl)) rfl (nl (.thn (k6 _ _ (.seq fun _ k7 => .cond (.t rfl) (fun hc1 => ?_) (fun hc1 => ?_))))))
 ·have hc1 := BP.t hc1
  refine .skip (.thn (k7 _ _ (.seq fun _ k8 => .block (.seq fun _ k9 => .region (st (.mv (.t rfl)) rfl (st (.ixP sl39 ty86 (.t rfl) (.t rfl) ⟨by omega, by omega⟩ (getD_some (d := 0) (by omega))) rfl (st (.eq (.loadP1 (.t rfl) ty86) (zJ (zZ _ i))) rfl (st (.as (.t rfl)) rfl (st (.as (.t rfl)) rfl (nl (.thn (k9 _ _ (.seq fun _ k10 => .region (st (.mv (.t rfl)) rfl (st (.mv (.t rfl)) rfl (st (.call (wz) (.cons (.t rfl) (.cons (.t rfl) .nil))) rfl (st (.mv (.t rfl)) rfl (st (.ext (.t rfl) rfl) rfl (st (.ext (.t rfl) rfl) rfl (st (.as (.t rfl)) rfl (st (.as (.t rfl)) rfl (nl (.thn (k10 _ _ (.seq fun _ k11 => .region (st (.as (.cU 0 rfl)) rfl (nl (.thn (k11 _ _ (.seq fun _ k12 => .region (st (.mv (.t rfl)) rfl (st (.mv (.t rfl)) rfl (st (.add64 vC (.t rfl) (.t rfl) (.cU 0 rfl) (by omega) ⟨(by omega), (by with_reducible assumption)⟩) rfl (st (.mv (.t rfl)) rfl (st (.ext (.t rfl) rfl) rfl (st (.ext (.t rfl) rfl) rfl (st (.as (.t rfl)) rfl (st (.as (.t rfl)) rfl (nl (.thn (k12 _ _ (.seq fun _ k13 => .region (st (.mv (.t rfl)) rfl (st (.mv (.t rfl)) rfl (st (.addU' (.t rfl) (.t rfl) (by omega)) rfl ?_)))))))))))))))))))))))))))))))))))))))))))))
  refine st (.as (.t rfl)) rfl (nl (.thn (k13 _ _ (.region (st (.mv (.t rfl)) rfl (st (.mv (.t rfl)) rfl (st (.mv (.t rfl)) rfl (st (.mv (.t rfl)) rfl (st (.eq (.ixWin sl39 ty86 (.t rfl) (.t rfl) ⟨by omega, by omega⟩) (zX (by exact ixo1))) rfl (st (.eq (.load1 (.t rfl) (i := 0) rfl ty86 (map_some (getD_some (d := 0) (by omega)))) (zJ (rowGet (by omega)))) rfl (st (.mv (.t rfl)) rfl (st (.mv (.t rfl)) rfl (st (.sub64 ar (.t rfl) (.t rfl) (.t rfl) (by with_reducible exact bor_le _ _ _) ⟨(by with_reducible exact qR _ _), (by omega)⟩) rfl (st (.mv (.t rfl)) rfl (st (.ext (.t rfl) rfl) rfl (st (.ext (.t rfl) rfl) rfl (st (.eq (.ixWin sl39 ty86 (.t rfl) (.t rfl) ⟨by omega, by omega⟩) (zX (by exact ixo1))) rfl (.storeM (.t rfl) (.t rfl) (i := 0) rfl ty86 (by omega) (M' := [(_, _)]) rfl (st (.as (.t rfl)) rfl (nl (.bln (.thn (k8 _ _ (.region (st (.addI (.t rfl) (.cI 1 rfl) (by omega) (by omega)) rfl (st (.mv (.t rfl)) rfl (nl (.thn (hK5 (⟨i + 1, by omega⟩) _ _ ?_ (Cv.mem (.c 16 rfl ?_ (.c 7 rfl ?_ (.c 8 rfl ?_ (.l [0, 1, 2, 6, 14, 15] rfl)))) ?_))))))))))))))))))))))))))))))
  ·show (List.length (zA v)) - (i + 1) < (List.length (zA v)) - i; omega
  ·rfl
  ·exact zJ hrow.2.1
  ·exact zJ (by rw [hrow.1]; exact aV _ _ _)
  ·exact qO (ef (by omega) (by rw [hrow.1]; exact wd_dig (vq_lt (qV v) lt2) (by omega)))
 ·have hc1 := BP.f hc1
  refine .exit (.the (.the (.blh (.thn (k3 _ _ (.cv (Cv.wk (.l [0, 1, 6, 7, 8] rfl)) (.seq fun _ k14 => .region (st (.mv (.t rfl)) rfl (st (.mv (.t rfl)) rfl (st (.len sl39 (.t rfl)) rfl (st (.mv (.t rfl)) rfl (st (.mv (.t rfl)) rfl (st (.len sl39 (.t rfl)) rfl (st (.eq (.ixWin sl39 ty86 (.t rfl) (.t rfl) ⟨by omega, by omega⟩) (zX (by exact ixo1))) rfl (st (.eq (.load1 (.t rfl) (i := 0) rfl ty86 (map_some (getD_some (d := 0) (by omega)))) ((zJ (rowGet' (j := (List.length (zA v))) (by omega) (by omega))))) rfl (st (.mv (.t rfl)) rfl (st (.mv (.t rfl)) rfl (st (.sub64 (l := dig (N / W ^ o) ((List.length (zA v)))) (m := mcar 0 v q i) (c := bor (N / W ^ o) (v * q) i) ar (.t rfl) (.t rfl) (.t rfl) (bor_le _ _ _) ⟨qR _ _, hcl⟩) rfl (st (.mv (.t rfl)) rfl (st (.ext (.t rfl) rfl) rfl (st (.ext (.t rfl) rfl) rfl (st (.eq (.ixWin sl39 ty86 (.t rfl) (.t rfl) ⟨by omega, by omega⟩) (zX (by exact ixo1))) rfl (.storeM (.t rfl) (.t rfl) (i := 0) rfl ty86 (by omega) (M' := [(_, _)]) rfl (st (.as (.t rfl)) rfl (nl (.thn (k14 _ _ (.cv (Cv.wk (.l [6, 8] rfl)) (.seq fun _ k15 => .region (st (.mv (.t rfl)) rfl (st (.neU (.t rfl) (.cU 0 rfl)) rfl (st (.as (.t rfl)) rfl (nl (.thn (k15 _ _ (.ret (rtM1 (.inl rfl) Tryz.results137 rfl (i := 0) ?_ (.tmp (Has.t' rfl ?_) .nil))))))))))))))))))))))))))))))))))))))
  ·obtain rfl : i = (List.length (zA v)) := (by omega); exact memU_eq ((ef (by omega) (takeTop (qV v) lt2)).trans (winEnd (by omega) h3 (wdiff_lt _ _ _)))
  ·obtain rfl : i = (List.length (zA v)) := (by omega); exact zU (takeBor (qV v) lt2 h3)
set_option maxHeartbeats 2000000 in
theorem div_back {N v o c m : Nat} (h2 : o + ((List.length (zA v)) + 1) ≤ m) (h3 : N / W ^ o < W ^ ((List.length (zA v)) + 1)) : CtrM Tryz.prog 138 (fun b0 => [zu b0 o ((List.length (zA v)) + 1) c, zD (zA v)]) (zB (List.map isU (zI m N))) (zB (List.map isU (zI m (N % W ^ o + W ^ o * (wsum (N / W ^ o) v ((List.length (zA v)) + 1)))))) (fun b0 => zQ []) := by
 refine CtrM.intro Tryz.func138 rfl (by kernel_rfl) Tryz.ntmps138 (fun _ => rfl) fun w0 F0 b0 => .cv (Cv.wk (.l [0, 1] rfl)) (.fact (Has.lenLt (Has.t (t := 0) rfl)) fun lt0 => .fact (Has.winLe (Has.t (t := 0) rfl)) fun lw0 => .fact (Has.lenLt (Has.t (t := 1) rfl)) fun lt1 => .fact (Has.okW (Has.t (t := 1) rfl)) fun ok1 => .seq fun _ k1 => .region (st (.as (.cU 0 rfl)) rfl (nl (.thn (k1 _ _ (.seq fun _ k2 => .seq fun _ k3 => .region (st (.mv (.t rfl)) rfl (st (.len sl39 (.t rfl)) rfl (st (.mv (.cI 0 rfl)) rfl (nl (.thn (k3 _ _ (.block (.loopF [0, 1, 7, 8] (fun (z : { i : Nat // i ≤ (List.length (zA v)) }) => match z with | ⟨i, hI⟩ => [(9, isI (i : Int)), (4, isU (car (N / W ^ o) v i))]) (fun M => fun (z : { i : Nat // i ≤ (List.length (zA v)) }) => match z with | ⟨i, hI⟩ => [(some b0, zB (List.map isU (mix (o + i) (N % W ^ o + W ^ o * (wsum (N / W ^ o) v ((List.length (zA v)) + 1))) N m)))]) (fun (z : { i : Nat // i ≤ (List.length (zA v)) }) => match z with | ⟨i, hI⟩ => (List.length (zA v)) - i) (⟨0, Nat.zero_le _⟩) (Cv.mem (.c 9 rfl ?_ (.c 4 rfl ?_ (.l [0, 1, 7, 8] rfl))) ?_) ?_))))))))))))))
 ·rfl
 ·exact zJ (car_zero _ _)
 ·exact qO (jT (by omega) (ee _ _ _))
 rintro ⟨i, hI⟩ K4 hK4
 refine .cv (Cv.wk (.l [9, 4, 0, 1, 7, 8] rfl)) (.memEq (M' := [(some b0, zB (List.map isU (mix (o + i) (N % W ^ o + W ^ o * (wsum (N / W ^ o) v ((List.length (zA v)) + 1))) N m)))]) rfl ?_)
 have wl : (mix (o + i) (N % W ^ o + W ^ o * (wsum (N / W ^ o) v ((List.length (zA v)) + 1))) N m).length = m := vS (by omega)
 refine .seq fun _ k5 => .region (st (.ltI (.t rfl) (.t rfl)) rfl (nl (.thn (k5 _ _ (.seq fun _ k6 => .cond (.t rfl) (fun hc1 => ?_) (fun hc1 => ?_))))))
 ·have hc1 := BP.t hc1
  refine .skip (.thn (k6 _ _ (.seq fun _ k7 => .block (.seq fun _ k8 => .region (st (.mv (.t rfl)) rfl (st (.ixP sl39 ty86 (.t rfl) (.t rfl) ⟨by omega, by omega⟩ (getD_some (d := 0) (by omega))) rfl (st (.eq (.loadP1 (.t rfl) ty86) (zJ (zZ _ i))) rfl (st (.as (.t rfl)) rfl (st (.as (.t rfl)) rfl (nl (.thn (k8 _ _ (.region (st (.mv (.t rfl)) rfl (st (.mv (.t rfl)) rfl (st (.mv (.t rfl)) rfl (st (.mv (.t rfl)) rfl (st (.eq (.ixWin sl39 ty86 (.t rfl) (.t rfl) ⟨by omega, by omega⟩) (zX (by exact ixo1))) rfl (st (.eq (.load1 (.t rfl) (i := 0) rfl ty86 (map_some (getD_some (d := 0) (by omega)))) (zJ (rowGet (by omega)))) rfl (st (.mv (.t rfl)) rfl (st (.mv (.t rfl)) rfl (st (.add64 vC (.t rfl) (.t rfl) (.t rfl) (by with_reducible exact car_le _ _ _) ⟨(by with_reducible exact qR _ _), (by with_reducible exact qR _ _)⟩) rfl (st (.mv (.t rfl)) rfl (st (.ext (.t rfl) rfl) rfl (st (.ext (.t rfl) rfl) rfl (st (.eq (.ixWin sl39 ty86 (.t rfl) (.t rfl) ⟨by omega, by omega⟩) (zX (by exact ixo1))) rfl (.storeM (.t rfl) (.t rfl) (i := 0) rfl ty86 (by omega) (M' := [(_, _)]) rfl (st (.as (.t rfl)) rfl (nl (.bln (.thn (k7 _ _ (.region (st (.addI (.t rfl) (.cI 1 rfl) (by omega) (by omega)) rfl (st (.mv (.t rfl)) rfl (nl ?_))))))))))))))))))))))))))))))))))))
  refine .thn (hK4 (⟨i + 1, by omega⟩) _ _ ?_ (Cv.mem (.c 9 rfl ?_ (.c 4 rfl ?_ (.l [0, 1, 7, 8] rfl))) ?_))
  ·show (List.length (zA v)) - (i + 1) < (List.length (zA v)) - i; omega
  ·rfl
  ·exact zJ (add_car _ _ _)
  ·exact qO (ef (by omega) (ws_dig (by omega)))
 ·have hc1 := BP.f hc1
  refine .exit (.the (.the (.blh (.thn (k2 _ _ (.region (st (.mv (.t rfl)) rfl (st (.mv (.t rfl)) rfl (st (.len sl39 (.t rfl)) rfl (st (.eq (.ixWin sl39 ty86 (.t rfl) (.t rfl) ⟨by omega, by omega⟩) (zX (by exact ixo1))) rfl (st (.eq (.load1 (.t rfl) (i := 0) rfl ty86 (map_some (getD_some (d := 0) (by omega)))) ((zJ (rowGet' (j := (List.length (zA v))) (by omega) (by omega))))) rfl (st (.mv (.t rfl)) rfl (st (.addU (.t rfl) (.t rfl)) rfl (st (.eq (.ixWin sl39 ty86 (.t rfl) (.t rfl) ⟨by omega, by omega⟩) (zX (by exact ixo1))) rfl (.storeM (.t rfl) (.t rfl) (i := 0) rfl ty86 (by omega) (M' := [(_, _)]) rfl (nl (rtM0 (.inr rfl) Tryz.results138 rfl (i := 0) ?_)))))))))))))))))
  all_goals (obtain rfl : i = (List.length (zA v)) := (by omega); exact memU_eq ((ef (by omega) (backTop (qV v))).trans (winEnd (by omega) h3 (wsum_lt _ _ _))))
end Go.Proofs.YthmhlblaleahpaaGreat
namespace Go.Proofs.YthmhlblaleahpaaGreat
open Go.En Go.RowKit
set_option maxRecDepth 10000
set_option maxHeartbeats 4000000
open Go.Nt
theorem div_long {N v c m : Nat} (hn : 2 ≤ (List.length (zA v))) (hm : (List.length (zA v)) < m) (hM : m ≤ 4294967296) (hN : N < v * W ^ (m - (List.length (zA v)))) : CtrM Tryz.prog 131 (fun b0 => [zu b0 0 m c, zD (zA v)]) (zB (List.map isU (zI m N))) (zB (List.map isU (zI m (left N v 0)))) (fun b0 => zD (zI (m - (List.length (zA v))) (N / v))) := by
 refine CtrM.intro Tryz.func131 rfl (by kernel_rfl) Tryz.ntmps131 (fun _ => rfl) fun w0 F0 b0 => .cv (Cv.wk (.l [0, 1] rfl)) (.fact (Has.lenLt (Has.t (t := 0) rfl)) fun lt0 => .fact (Has.winLe (Has.t (t := 0) rfl)) fun lw0 => .fact (Has.lenLt (Has.t (t := 1) rfl)) fun lt1 => .fact (Has.okW (Has.t (t := 1) rfl)) fun ok1 => .seq fun _ k1 => .region (st (.as (.cW (f := isU))) rfl (nl (.thn (k1 _ _ (.seq fun _ k2 => .region (st (.mv (.t rfl)) rfl (st (.len sl39 (.t rfl)) rfl (st (.as (.t rfl)) rfl (nl (.thn (k2 _ _ (.seq fun _ k3 => .region (st (.mv (.t rfl)) rfl (st (.len sl39 (.t rfl)) rfl (st (.mv (.t rfl)) rfl (st (.eq (.subI (.t rfl) (.t rfl) (by omega) (by omega)) ((show isI _ = isI ((m - (List.length (zA v)) : Nat) : Int) from zE (by omega)))) rfl (.make (f := isU) (u := 0) (n := m - (List.length (zA v))) (c := m - (List.length (zA v))) sl39 ty86 vO (fun _ _ => ⟨⟨rfl, by decide⟩, trivial⟩) by86 (Has.t' rfl rfl) (Has.t' rfl rfl) ⟨by omega, by omega⟩ rfl fun b1 => st (.as (.t rfl)) rfl (nl (.thn (k3 _ _ (.cv (Cv.wk (.l [0, 1, 4, 5, 6] rfl)) (.seq fun _ k4 => .seq fun _ k5 => .region (st (.mv (.t rfl)) rfl (st (.len sl39 (.t rfl)) rfl (st (.subI (.t rfl) (.cI 1 rfl) (by omega) (by omega)) rfl (st (.as (.t rfl)) rfl (nl (.thn (k5 _ _ (.block (.loopF [0, 1, 4, 5, 6] (fun (z : { k : Nat // k ≤ m - (List.length (zA v)) }) => match z with | ⟨k, hI⟩ => [(7, isI ((k : Int) - 1))]) (fun M => fun (z : { k : Nat // k ≤ m - (List.length (zA v)) }) => match z with | ⟨k, hI⟩ => [(some b1, zB (List.map isU (mix k 0 (N / v) (m - (List.length (zA v)))))), (some b0, zB (List.map isU (zI m (left N v k))))]) (fun (z : { k : Nat // k ≤ m - (List.length (zA v)) }) => match z with | ⟨k, hI⟩ => k) (⟨m - (List.length (zA v)), Nat.le_refl _⟩) (Cv.mem (.c 7 rfl ?_ (.l [0, 1, 4, 5, 6] rfl)) ?_) ?_))))))))))))))))))))))))))))))))
 ·rfl
 ·exact mem2_eq (outStart _ _) (by rw [left_top hN])
 rintro ⟨k, hI⟩ K6 hK6
 refine .cv (Cv.wk (.l [7, 0, 1, 4, 5, 6] rfl)) (.memEq (M' := [(some b1, zB (List.map isU (mix k 0 (N / v) (m - (List.length (zA v)))))), (some b0, zB (List.map isU (zI m (left N v k))))]) rfl ?_)
 have wl : (zI m (left N v k)).length = m := zV _ _
 have wl2 : (mix k 0 (N / v) (m - (List.length (zA v)))).length = m - (List.length (zA v)) := vS hI
 refine .seq fun _ k7 => .seq fun _ k8 => .region (st (.mv (.t rfl)) rfl (st (.geI (.t rfl) (.cI 0 rfl)) rfl (nl (.thn (k8 _ _ (.cond (.t rfl) (fun hc1 => ?_) (fun hc1 => ?_)))))))
 ·have hc1 := BP.t hc1
  obtain ⟨j, rfl⟩ : ∃ j, k = j + 1 := ⟨k - 1, by omega⟩
  obtain ⟨k2, hk2⟩ : ∃ k2, (List.length (zA v)) = k2 + 2 := ⟨(List.length (zA v)) - 2, by omega⟩
  have ej : (((j + 1 : Nat) : Int) - 1) = (j : Int) := by omega
  obtain ⟨g, hg⟩ : ∃ g, g = gss (dig (left N v (j + 1) / W ^ j) (k2 + 2)) (dig (left N v (j + 1) / W ^ j) (k2 + 1)) (dig (left N v (j + 1) / W ^ j) k2) (dig v (k2 + 1)) (dig v k2) := ⟨_, rfl⟩
  have hgl : g < 18446744073709551616 := hg ▸ gss_lt _ _ _ _ _
  have R := round hk2 hg hgl
  refine .skip (.thn (k7 _ _ (.seq fun _ k9 => .block (.seq fun _ k10 => .dr (.s [] rfl rfl rfl (.o rfl (.mv (.t rfl))) (.s [] rfl rfl rfl (.o rfl (.eq (.mv (.t rfl)) ((zE ej)))) (.s [] rfl rfl rfl (.o rfl (.mv (.t rfl))) (.s [25, 26] rfl rfl rfl (.o rfl (.addI (.t rfl) (.t rfl) (by omega) (by omega))) ?_))))))))
  refine .s [24, 27] rfl rfl rfl (.o rfl (.eq (.ixWin sl39 ty86 (.t rfl) (.t rfl) ⟨by omega, by omega⟩) (zX (by exact ixo0)))) (.s [28] rfl rfl rfl (.o rfl (.eq (.load1 (.t rfl) (i := 1) rfl ty86 (map_some (getD_some (d := 0) (by omega)))) ((show isU _ = isU (dig (left N v (j + 1) / W ^ j) (k2 + 2)) from zJ (getW (by omega) (by omega)))))) (.s [] rfl rfl rfl (.o rfl (.mv (.t rfl))) (.s [] rfl rfl rfl (.o rfl (.eq (.mv (.t rfl)) ((zE ej)))) (.s [] rfl rfl rfl (.o rfl (.mv (.t rfl))) (.s [31, 32] rfl rfl rfl (.o rfl (.addI (.t rfl) (.t rfl) (by omega) (by omega))) ?_)))))
  refine .s [33] rfl rfl rfl (.o rfl (.subI (.t rfl) (.cI 1 rfl) (by omega) (by omega))) ?_
  refine .s [30, 34] rfl rfl rfl (.o rfl (.eq (.ixWin sl39 ty86 (.t rfl) (.t rfl) ⟨by omega, by omega⟩) (zX (by exact ixo0)))) (.s [35] rfl rfl rfl (.o rfl (.eq (.load1 (.t rfl) (i := 1) rfl ty86 (map_some (getD_some (d := 0) (by omega)))) ((show isU _ = isU (dig (left N v (j + 1) / W ^ j) (k2 + 1)) from zJ (getW (by omega) (by omega)))))) (.s [] rfl rfl rfl (.o rfl (.mv (.t rfl))) (.s [] rfl rfl rfl (.o rfl (.eq (.mv (.t rfl)) ((zE ej)))) (.s [] rfl rfl rfl (.o rfl (.mv (.t rfl))) (.s [38, 39] rfl rfl rfl (.o rfl (.addI (.t rfl) (.t rfl) (by omega) (by omega))) ?_)))))
  refine .s [40] rfl rfl rfl (.o rfl (.subI (.t rfl) (.cI 2 rfl) (by omega) (by omega))) ?_
  refine .s [37, 41] rfl rfl rfl (.o rfl (.eq (.ixWin sl39 ty86 (.t rfl) (.t rfl) ⟨by omega, by omega⟩) (zX (by exact ixo0)))) (.s [42] rfl rfl rfl (.o rfl (.eq (.load1 (.t rfl) (i := 1) rfl ty86 (map_some (getD_some (d := 0) (by omega)))) ((show isU _ = isU (dig (left N v (j + 1) / W ^ j) (k2)) from zJ (getW (by omega) (by omega)))))) (.s [] rfl rfl rfl (.o rfl (.mv (.t rfl))) (.s [] rfl rfl rfl (.o rfl (.mv (.t rfl))) (.s [45] rfl rfl rfl (.o rfl (.subI (.t rfl) (.cI 1 rfl) (by omega) (by omega))) ?_))))
  refine .s [44, 46] rfl rfl rfl (.o rfl (.ixP sl39 ty86 (.t rfl) (.t rfl) ⟨by omega, by omega⟩ (getD_some (d := 0) (by omega)))) (.s [47] rfl rfl rfl (.o rfl (.eq (.loadP1 (.t rfl) ty86) ((show isU _ = isU (dig v (k2 + 1)) from zJ (getV (by omega)))))) (.s [] rfl rfl rfl (.o rfl (.mv (.t rfl))) (.s [] rfl rfl rfl (.o rfl (.mv (.t rfl))) (.s [50] rfl rfl rfl (.o rfl (.subI (.t rfl) (.cI 2 rfl) (by omega) (by omega))) ?_))))
  refine .s [49, 51] rfl rfl rfl (.o rfl (.ixP sl39 ty86 (.t rfl) (.t rfl) ⟨by omega, by omega⟩ (getD_some (d := 0) (by omega)))) (.s [52] rfl rfl rfl (.o rfl (.eq (.loadP1 (.t rfl) ty86) ((show isU _ = isU (dig v k2) from zJ (getV (by omega)))))) (.fin (n := 30) zR (by kernel_rfl) (by kernel_rfl) (by kernel_rfl) (.cv (Cv.wk (.l [0, 1, 4, 5, 6, 7, 20, 21, 24, 25, 26, 27, 28, 29, 30, 31, 32, 33, 34, 35, 36, 37, 38, 39, 40, 41, 42, 43, 44, 45, 46, 47, 48, 49, 50, 51, 52, 53] rfl)) (st (.eq (.call (div_guess R.hd) (.cons (.t rfl) (.cons (.t rfl) (.cons (.t rfl) (.cons (.t rfl) (.cons (.t rfl) .nil)))))) ((show isU _ = isU g from zJ hg.symm))) rfl (st (.as (.t rfl)) rfl (nl (.thn (k10 _ _ (.seq fun _ k11 => .region (st (.mv (.t rfl)) rfl (st (.eq (.mv (.t rfl)) ((zE ej))) rfl (st (.eq (.mv (.t rfl)) ((zE ej))) rfl (st (.mv (.t rfl)) rfl (st (.addI (.t rfl) (.t rfl) (by omega) (by omega)) rfl (st (.addI (.t rfl) (.cI 1 rfl) (by omega) (by omega)) rfl (st (.eq (.eq (.slLHWin sl39 ty86 (.t rfl) (.t rfl) (.t rfl) ⟨by omega, by omega, by omega, by omega⟩) (cm (by exact ixo0) rfl rfl)) ((show zu _ _ _ _ = zu b0 j ((List.length (zA v)) + 1) (c - j) from cm (by omega) (by omega) (by omega)))) rfl (st (.as (.t rfl)) rfl (nl (.thn (k11 _ _ (.seq fun _ k12 => .seq fun _ k13 => .region (st (.mv (.t rfl)) rfl (st (.mv (.t rfl)) rfl (st (.mv (.t rfl)) rfl (.callM (div_take (N := left N v (j + 1)) (o := j) (v := v) (q := g) (m := m) (by omega) R.hw) (i := 1) rfl (.cons (.t rfl) (.cons (.t rfl) (.cons (.t rfl) .nil))) rfl (M' := [_, (_, _)]) rfl (nl (.thn (k13 _ _ (.cond (.t rfl) (fun hc2 => ?_) (fun hc2 => ?_))))))))))))))))))))))))))))))
  ·have hc2 := BP.t hc2
   have hbk := R.bk hc2
   have hg1 := hbk.2.1
   refine .seq fun _ k14 => .region (st (.mv (.t rfl)) rfl (st (.subU' (.t rfl) (.cU 1 rfl) (by with_reducible assumption) (by with_reducible assumption)) rfl (st (.as (.t rfl)) rfl (nl (.thn (k14 _ _ (.region (st (.mv (.t rfl)) rfl (st (.mv (.t rfl)) rfl (.callM (div_back (N := left N v (j + 1) % W ^ j + W ^ j * vr (left N v (j + 1) / W ^ j) (v * g) ((List.length (zA v)) + 1)) (o := j) (m := m) (by omega) (by rw [aF]; exact wdiff_lt _ _ _)) (i := 1) rfl (.cons (.t rfl) (.cons (.t rfl) .nil)) rfl (M' := [_, (_, _)]) rfl ?_))))))))))
   refine nl (.thn (k12 _ _ (.region (st (.mv (.t rfl)) rfl (st (.eq (.mv (.t rfl)) ((zE ej))) rfl (st (.mv (.t rfl)) rfl (st (.eq (.ixWin sl39 ty86 (.t rfl) (.t rfl) ⟨by omega, by omega⟩) (zX (by exact ixo0))) rfl (.storeM (.t rfl) (.t rfl) (i := 0) rfl ty86 (by omega) (M' := [(_, _), _]) rfl (nl (.bln (.thn (k9 _ _ (.region (st (.mv (.t rfl)) rfl (st (.subI (.t rfl) (.cI 1 rfl) (by omega) (by omega)) rfl (st (.as (.t rfl)) rfl (nl (.thn (hK6 (⟨j, by omega⟩) _ _ ?_ (Cv.mem (.c 7 rfl ?_ (.l [0, 1, 4, 5, 6] rfl)) ?_))))))))))))))))))))
   ·show j < j + 1; omega
   ·exact zE (by show (((j + 1 : Nat) : Int) - 1) - 1 = (j : Int) - 1; omega)
   ·exact mem2_eq (eA (k := j + 1) (by omega) hI hbk.1) (di hbk.2.2)
  ·have hc2 := BP.f hc2
   have hfi := R.fine (by omega)
   refine .skip (.thn (k12 _ _ (.region (st (.mv (.t rfl)) rfl (st (.eq (.mv (.t rfl)) ((zE ej))) rfl (st (.mv (.t rfl)) rfl (st (.eq (.ixWin sl39 ty86 (.t rfl) (.t rfl) ⟨by omega, by omega⟩) (zX (by exact ixo0))) rfl (.storeM (.t rfl) (.t rfl) (i := 0) rfl ty86 (by omega) (M' := [(_, _), _]) rfl (nl (.bln (.thn (k9 _ _ (.region (st (.mv (.t rfl)) rfl (st (.subI (.t rfl) (.cI 1 rfl) (by omega) (by omega)) rfl (st (.as (.t rfl)) rfl (nl (.thn (hK6 (⟨j, by omega⟩) _ _ ?_ (Cv.mem (.c 7 rfl ?_ (.l [0, 1, 4, 5, 6] rfl)) ?_))))))))))))))))))))
   ·show j < j + 1; omega
   ·exact zE (by show (((j + 1 : Nat) : Int) - 1) - 1 = (j : Int) - 1; omega)
   ·exact mem2_eq (eA (k := j + 1) (by omega) hI hfi.1) (di hfi.2)
 ·have hc1 := BP.f hc1
  refine .exit (.the (.the (.blh (.thn (k4 _ _ (.cv (Cv.wk (.l [4, 6] rfl)) (.seq fun _ k15 => .cv (Cv.freezeM (t := 6) (i := 0) (j := 1) (ys := zI (m - (List.length (zA v))) (N / v)) rfl rfl rfl rfl rfl (by omega) (by obtain rfl : k = 0 := (by omega); rw [outEnd]; exact jm (zV _ _).symm)) ?_)))))))
  refine .memEq (M' := [_]) rfl (.cv (Cv.wk (.l [4, 6] rfl)) (.region (st (.mv (.t rfl)) rfl (st (.as (.t rfl)) rfl (nl (.thn (k15 _ _ (.ret (rtM1 (.inl rfl) Tryz.results131 rfl (i := 0) ?_ (.tmp (Has.t' rfl ?_) .nil))))))))))
  ·obtain rfl : k = 0 := (by omega); rfl
  ·rfl
theorem one_word {B : Nat} (h : (List.length (zA B)) = 1) : (zA B).getD 0 0 = B := by
 rw [zZ, jp, Nat.pow_zero, Nat.div_one, Nat.mod_eq_of_lt (bI (by omega))]
theorem bits_int {A : Nat} (h : (List.length (zA A)) ≠ 0) : 64 * (((List.length (zA A)) : Int) - 1) + ((bitLen (dig A ((List.length (zA A)) - 1)) : Nat) : Int) = ((bitLen A : Nat) : Int) := by
 have hA : A ≠ 0 := fun e => h (by rw [e, zF]; rfl)
 have := bits_words hA
 omega
theorem gcd_step {p q g : Nat} (h : Nat.gcd p q = g) : Nat.gcd q (p % q) = g := by rw [← h, Nat.gcd_comm p q, Nat.gcd_rec q p, Nat.gcd_comm]
theorem dF {xs ys : List Nat} (hx : (List.length (zA (val xs))) < 4294800000) (hy : (List.length (zA (val ys))) < 4294800000) : Ctr Tryz.prog 121 [zD xs, zD ys] (zQ [zD (zA (val xs / val ys)), zD (zA (if val ys = 0 then 0 else val xs % val ys)), isB (decide (val ys ≠ 0))]) := by
 refine Ctr.intro Tryz.func121 rfl (by kernel_rfl) Tryz.ntmps121 rfl fun w0 F0 => .cv (Cv.wk (.l [0, 1] rfl)) (.fact (Has.lenLt (Has.t (t := 0) rfl)) fun lt0 => .fact (Has.okW (Has.t (t := 0) rfl)) fun ok0 => .fact (Has.lenLt (Has.t (t := 1) rfl)) fun lt1 => .fact (Has.okW (Has.t (t := 1) rfl)) fun ok1 => .seq fun _ k1 => .region (st (.as (.cW (f := isU))) rfl (st (.as (.cW (f := isU))) rfl (st (.as (.cB false)) rfl (nl (.thn (k1 _ _ (.seq fun _ k2 => .region (st (.mv (.t rfl)) rfl (st (.eq (.call (xM (by omega)) (.cons (.t rfl) .nil)) (by rfl)) rfl (st (.mv (.t rfl)) rfl (st (.eq (.call (xM (by omega)) (.cons (.t rfl) .nil)) (by rfl)) rfl (st (.as (.t rfl)) rfl (st (.as (.t rfl)) rfl (nl (.thn (k2 _ _ (.seq fun _ k3 => .block (.seq fun _ k4 => .region (st (.mv (.t rfl)) rfl (st (.len sl39 (.t rfl)) rfl (st (.eqI (.t rfl) (.cI 0 rfl)) rfl (st (.as (.t rfl)) rfl (nl (.thn (k4 _ _ (.cv (Cv.wk (.l [0, 1, 4, 5, 6, 23] rfl)) (.cond (.t rfl) (fun hc1 => ?_) (fun hc1 => ?_)))))))))))))))))))))))))))))
 ·have hc1 := BP.t hc1
  refine .seq fun _ k5 => .region (st (.as (.cW (f := isU))) rfl (st (.as (.cW (f := isU))) rfl (st (.as (.cB false)) rfl (nl (.thn (k5 _ _ (.ret (.blr (.thr (rtN (.inl rfl) Tryz.results121 rfl rfl (.tmp (Has.t' rfl ?_) (.tmp (Has.t' rfl ?_) (.tmp (Has.t' rfl ?_) .nil)))))))))))))
  ·exact zY (by rw [jZ (A := val ys) (by omega), Nat.div_zero, zF])
  ·exact zY (by rw [if_pos (jZ (A := val ys) (by omega)), zF])
  ·exact zU (by simp [jZ (show (List.length (zA (val ys))) = 0 by omega)])
 ·have hc1 := BP.f hc1
  refine .seq fun _ k6 => .region (st (.mv (.t rfl)) rfl (st (.mv (.t rfl)) rfl (st (.eq (.call (bW) (.cons (.t rfl) (.cons (.t rfl) .nil))) (by simp only [zC]; rfl)) rfl ?_)))
  refine st (.ltI (.t rfl) (.cI 0 rfl)) rfl (st (.as (.t rfl)) rfl (nl (.thn (k6 _ _ (.cv (Cv.wk (.l [0, 1, 4, 5, 6, 27] rfl)) (.cond (.t rfl) (fun hc2 => ?_) (fun hc2 => ?_)))))))
  ·have hc2 := BP.t hc2
   have hlt := cmpN_neg.1 hc2
   refine .seq fun _ k7 => .region (st (.mv (.t rfl)) rfl (st (.as (.cW (f := isU))) rfl (st (.as (.t rfl)) rfl (st (.as (.cB true)) rfl (nl (.thn (k7 _ _ (.ret (.blr (.thr (rtN (.inl rfl) Tryz.results121 rfl rfl (.tmp (Has.t' rfl ?_) (.tmp (Has.t' rfl ?_) (.tmp (Has.t' rfl ?_) .nil))))))))))))))
   ·exact zY (by rw [Nat.div_eq_of_lt hlt, zF])
   ·exact zY (by rw [if_neg (by omega), Nat.mod_eq_of_lt hlt])
   ·exact zU (by simp; omega)
  ·have hc2 := BP.f hc2
   have hle : val ys ≤ val xs := Nat.le_of_not_lt (fun h => by have := cmpN_neg.2 h; omega)
   refine .seq fun _ k8 => .region (st (.mv (.t rfl)) rfl (st (.len sl39 (.t rfl)) rfl (st (.eqI (.t rfl) (.cI 1 rfl)) rfl (st (.as (.t rfl)) rfl (nl (.thn (k8 _ _ (.cond (.t rfl) (fun hc3 => ?_) (fun hc3 => ?_)))))))))
   ·have hc3 := BP.t hc3
    have hB : val ys ≠ 0 := fun e => by rw [e, zF] at hc1; simp at hc1
    refine .seq fun _ k9 => .region (st (.mv (.t rfl)) rfl (st (.mv (.t rfl)) rfl (st (.ixP sl39 ty86 (.t rfl) (.cI 0 rfl) ⟨by omega, by omega⟩ (getD_some (d := 0) (by omega))) rfl (st (.eq (.loadP1 (.t rfl) ty86) ((show isU _ = isU (val ys) from zJ (one_word (by omega))))) rfl (st (.eq (.call (div_Small (by simp only [zC]; omega)) (.cons (.t rfl) (.cons (.t rfl) .nil))) (by simp only [zC]; rfl)) rfl ?_)))))
    refine st (.mv (.t rfl)) rfl (st (.ext (.t rfl) rfl) rfl (st (.ext (.t rfl) rfl) rfl (st (.ext (.t rfl) rfl) rfl (st (.as (.t rfl)) rfl (st (.as (.t rfl)) rfl (st (.as (.t rfl)) rfl (nl (.thn (k9 _ _ (.cv (Cv.wk (.l [0, 1, 4, 5, 6, 7, 8] rfl)) (.seq fun _ k10 => .region (st (.mv (.t rfl)) rfl (st (.mv (.t rfl)) rfl (st (.call (nat_Of) (.cons (.t rfl) .nil)) rfl (st (.as (.t rfl)) rfl (st (.as (.t rfl)) rfl (st (.as (.cB true)) rfl (nl (.thn (k10 _ _ (.cv (Cv.wk (.l [0, 1, 4, 5, 6] rfl)) (.ret (.blr (.thr (rtN (.inl rfl) Tryz.results121 rfl rfl (.tmp (Has.t' rfl ?_) (.tmp (Has.t' rfl ?_) (.tmp (Has.t' rfl ?_) .nil))))))))))))))))))))))))))))
    ·rfl
    ·rfl
    ·exact zU (by simp [hB])
   ·have hc3 := BP.f hc3
    have hB : val ys ≠ 0 := fun e => by rw [e, zF] at hc1; simp at hc1
    obtain ⟨k, hk⟩ : ∃ k, k = 64 - bitLen (dig (val ys) ((List.length (zA (val ys))) - 1)) := ⟨_, rfl⟩
    have D := dm hB hle hk
    have Dk := D.k64
    have Dv := D.v
    have Dw := D.w
    have Dl := D.le
    refine .skip (.bln (.thn (k3 _ _ (.cv (Cv.wk (.l [0, 1, 4, 5, 6] rfl)) (.seq fun _ k11 => .region (st (.mv (.t rfl)) rfl (st (.mv (.t rfl)) rfl (st (.len sl39 (.t rfl)) rfl (st (.subI (.t rfl) (.cI 1 rfl) (by omega) (by omega)) rfl (st (.ixP sl39 ty86 (.t rfl) (.t rfl) ⟨by omega, by omega⟩ (getD_some (d := 0) (by omega))) rfl (st (.eq (.loadP1 (.t rfl) ty86) ((show isU _ = isU (dig (val ys) ((List.length (zA (val ys))) - 1)) from zJ (getV (by omega))))) rfl (st (.eq (.call (eV) (.cons (.t rfl) .nil)) ((show isI _ = isI ((k : Nat) : Int) from zE (by rw [hk])))) rfl (st (.as (.t rfl)) rfl (nl (.thn (k11 _ _ (.cv (Cv.wk (.l [0, 1, 4, 5, 6, 10] rfl)) (.seq fun _ k12 => .region (st (.mv (.t rfl)) rfl (st (.mv (.t rfl)) rfl (st (.eq (.call (nat_Shl (by omega) (by rw [zC]; omega)) (.cons (.t rfl) (.cons (.t rfl) .nil))) (by simp only [zC]; rfl)) rfl ?_)))))))))))))))))))))
    refine st (.mv (.t rfl)) rfl (st (.ext (.t rfl) rfl) rfl (st (.ext (.t rfl) rfl) rfl (st (.as (.t rfl)) rfl (st (.as (.t rfl)) rfl (nl (.thn (k12 _ _ (.cv (Cv.wk (.l [0, 4, 5, 6, 10, 11] rfl)) (.seq fun _ k13 => .region (st (.mv (.t rfl)) rfl (st (.mv (.t rfl)) rfl (st (.eq (.call (nat_Shl (by omega) (by rw [zC]; omega)) (.cons (.t rfl) (.cons (.t rfl) .nil))) (by simp only [zC]; rfl)) rfl ?_))))))))))))
    refine st (.mv (.t rfl)) rfl (st (.ext (.t rfl) rfl) rfl (st (.ext (.t rfl) rfl) rfl (st (.as (.t rfl)) rfl (st (.as (.t rfl)) rfl (nl (.thn (k13 _ _ (.cv (Cv.wk (.l [0, 4, 5, 6, 10, 11, 13] rfl)) (.seq fun _ k14 => .region (st (.mv (.t rfl)) rfl (st (.len sl39 (.t rfl)) rfl (st (.addI (.t rfl) (.cI 1 rfl) (by omega) (by omega)) rfl (.make (f := isU) (u := 0) (n := (List.length (zA (val xs))) + 1) (c := (List.length (zA (val xs))) + 1) sl39 ty86 vO (fun _ _ => ⟨⟨rfl, by decide⟩, trivial⟩) by86 (Has.t' rfl rfl) (Has.t' rfl rfl) ⟨by omega, by omega⟩ rfl fun b1 => st (.as (.t rfl)) rfl (nl (.thn (k14 _ _ (.cv (Cv.wk (.l [4, 5, 6, 10, 11, 13, 15] rfl)) (.seq fun _ k15 => .region (st (.mv (.t rfl)) rfl (st (.mv (.t rfl)) rfl (.copyW sl39 ty86 (fun _ => inferInstance) (.t rfl) (.t rfl) (i := 0) rfl ⟨Dw, by simp⟩ rfl (M' := [(some b1, zB (List.map isU (zI ((List.length (zA (val xs))) + 1) (val xs * 2 ^ k))))]) (qO (copy_words Dw)) (nl (.thn (k15 _ _ (.seq fun _ k16 => .region (st (.mv (.t rfl)) rfl (st (.mv (.t rfl)) rfl (.callM (div_long (N := val xs * 2 ^ k) (v := val ys * 2 ^ k) (m := (List.length (zA (val xs))) + 1) (by omega) (by omega) (by omega) D.lt) (i := 0) rfl (.cons (.t rfl) (.cons (.t rfl) .nil)) rfl (M' := [(_, _)]) rfl (st (.as (.t rfl)) rfl (nl (.thn (k16 _ _ (.cv (Cv.wk (.l [4, 5, 6, 10, 15, 16] rfl)) (.seq fun _ k17 => .cv (Cv.freeze' (t := 15) (i := 0) (ys := zI ((List.length (zA (val xs))) + 1) (left (val xs * 2 ^ k) (val ys * 2 ^ k) 0)) rfl rfl rfl (by simp [zV]) (jm (zV _ _).symm)) (.memEq (M' := []) rfl (.cv (Cv.wk (.l [4, 5, 6, 10, 15, 16] rfl)) ?_))))))))))))))))))))))))))))))))))))
    refine .region (st (.mv (.t rfl)) rfl ?_)
    refine st (.mv (.t rfl)) rfl (st (.call (nat_Shr (by omega) (by have := wn ((List.length (zA (val xs))) + 1) (left (val xs * 2 ^ k) (val ys * 2 ^ k) 0); omega)) (.cons (.t rfl) (.cons (.t rfl) .nil))) rfl ?_)
    refine st (.mv (.t rfl)) rfl (st (.ext (.t rfl) rfl) rfl (st (.ext (.t rfl) rfl) rfl (st (.as (.t rfl)) rfl (st (.as (.t rfl)) rfl (nl (.thn (k17 _ _ (.cv (Cv.wk (.l [4, 5, 6, 16, 17] rfl)) (.seq fun _ k18 => .region (st (.mv (.t rfl)) rfl ?_))))))))))
    refine st (.call (xM (by have := wn ((List.length (zA (val xs))) + 1 - (List.length (zA (val ys * 2 ^ k)))) (val xs * 2 ^ k / (val ys * 2 ^ k)); omega)) (.cons (.t rfl) .nil)) rfl ?_
    refine st (.mv (.t rfl)) rfl (st (.as (.t rfl)) rfl (st (.as (.t rfl)) rfl (st (.as (.cB true)) rfl (nl (.thn (k18 _ _ (.cv (Cv.wk (.l [4, 5, 6] rfl)) (.ret (rtN (.inl rfl) Tryz.results121 rfl rfl (.tmp (Has.t' rfl ?_) (.tmp (Has.t' rfl ?_) (.tmp (Has.t' rfl ?_) .nil))))))))))))
    ·exact zY (dm_quo hB D rfl rfl)
    ·exact zY (by rw [if_neg hB, dm_rest hB D rfl])
    ·exact zU (by simp [hB])
theorem div_Mod {xs ys : List Nat} (hx : (List.length (zA (val xs))) < 4294800000) (hy : (List.length (zA (val ys))) < 4294800000) : Ctr Tryz.prog 123 [zD xs, zD ys] (zQ [zD (zA (if val ys = 0 then 0 else val xs % val ys)), isB (decide (val ys ≠ 0))]) := by
 refine Ctr.intro Tryz.func123 rfl (by kernel_rfl) Tryz.ntmps123 rfl fun w0 F0 => .cv (Cv.wk (.l [0, 1] rfl)) (.fact (Has.lenLt (Has.t (t := 0) rfl)) fun lt0 => .fact (Has.okW (Has.t (t := 0) rfl)) fun ok0 => .fact (Has.lenLt (Has.t (t := 1) rfl)) fun lt1 => .fact (Has.okW (Has.t (t := 1) rfl)) fun ok1 => .seq fun _ k1 => .region (st (.as (.cW (f := isU))) rfl (st (.as (.cB false)) rfl (nl (.thn (k1 _ _ (.seq fun _ k2 => .region (st (.mv (.t rfl)) rfl (st (.mv (.t rfl)) rfl (st (.call (dF (by with_reducible assumption) (by with_reducible assumption)) (.cons (.t rfl) (.cons (.t rfl) .nil))) rfl (st (.mv (.t rfl)) rfl (st (.ext (.t rfl) rfl) rfl (st (.ext (.t rfl) rfl) rfl (st (.ext (.t rfl) rfl) rfl (st (.as (.t rfl)) rfl (st (.as (.t rfl)) rfl (st (.as (.t rfl)) rfl (nl (.thn (k2 _ _ (.cv (Cv.wk (.l [4, 5, 7, 8] rfl)) (.seq fun _ k3 => .region (st (.mv (.t rfl)) rfl (st (.mv (.t rfl)) rfl (st (.as (.t rfl)) rfl (st (.as (.t rfl)) rfl (nl (.thn (k3 _ _ (.ret (rtN (.inl rfl) Tryz.results123 rfl rfl (.tmp (Has.t' rfl ?_) (.tmp (Has.t' rfl ?_) .nil)))))))))))))))))))))))))))))))))
 all_goals (rfl)
theorem nat_Bits {xs : List Nat} (hx : (List.length (zA (val xs))) < 4294967296) : Ctr Tryz.prog 57 [zD xs] (isI ((bitLen (val xs) : Nat) : Int)) := by
 refine Ctr.intro Tryz.func57 rfl (by kernel_rfl) Tryz.ntmps57 rfl fun w0 F0 => .cv (Cv.wk (.l [0] rfl)) (.fact (Has.lenLt (Has.t (t := 0) rfl)) fun lt0 => .fact (Has.okW (Has.t (t := 0) rfl)) fun ok0 => .seq fun _ k1 => .region (st (.as (.cI 0 rfl)) rfl (nl (.thn (k1 _ _ (.seq fun _ k2 => .region (st (.mv (.t rfl)) rfl (st (.call (qb) (.cons (.t rfl) .nil)) rfl (st (.as (.t rfl)) rfl (nl (.thn (k2 _ _ (.seq fun _ k3 => .seq fun _ k4 => .region (st (.mv (.t rfl)) rfl (st (.len sl39 (.t rfl)) rfl (st (.eqI (.t rfl) (.cI 0 rfl)) rfl (nl (.thn (k4 _ _ (.cond (.t rfl) (fun hc1 => ?_) (fun hc1 => ?_)))))))))))))))))))))
 ·have hc1 := BP.t hc1
  refine .seq fun _ k5 => .region (st (.as (.cI 0 rfl)) rfl (nl (.thn (k5 _ _ (.cv (Cv.wk (.l [0, 2] rfl)) (.ret (.thr (rt1 (.inl rfl) Tryz.results57 rfl (.tmp (Has.t' rfl ?_) .nil)))))))))
  all_goals (exact zE (by rw [jZ (A := val xs) (by omega)]; rfl))
 ·have hc1 := BP.f hc1
  have hb := bits_int (A := val xs) (by omega)
  have hd := wM (qR (val xs) ((List.length (zA (val xs))) - 1))
  refine .skip (.thn (k3 _ _ (.cv (Cv.wk (.l [0, 2] rfl)) (.seq fun _ k6 => .region (st (.mv (.t rfl)) rfl (st (.len sl39 (.t rfl)) rfl (st (.subI (.t rfl) (.cI 1 rfl) (by omega) (by omega)) rfl (st (.mulI (.cI 64 rfl) (.t rfl) (by omega) (by omega)) rfl (st (.mv (.t rfl)) rfl (st (.mv (.t rfl)) rfl (st (.len sl39 (.t rfl)) rfl (st (.subI (.t rfl) (.cI 1 rfl) (by omega) (by omega)) rfl (st (.ixP sl39 ty86 (.t rfl) (.t rfl) ⟨by omega, by omega⟩ (getD_some (d := 0) (by omega))) rfl (st (.eq (.loadP1 (.t rfl) ty86) ((show isU _ = isU (dig (val xs) ((List.length (zA (val xs))) - 1)) from zJ (getV (by omega))))) rfl (st (.call (dM) (.cons (.t rfl) .nil)) rfl (st (.addI (.t rfl) (.t rfl) (by omega) (by omega)) rfl (st (.as (.t rfl)) rfl (nl (.thn (k6 _ _ (.cv (Cv.wk (.l [2] rfl)) (.ret (rt1 (.inl rfl) Tryz.results57 rfl (.tmp (Has.t' rfl ?_) .nil))))))))))))))))))))))))
  all_goals (exact zE (by omega))
theorem div_Gcd {xs ys : List Nat} (hx : (List.length (zA (val xs))) < 4294800000) (hy : (List.length (zA (val ys))) < 4294800000) : Ctr Tryz.prog 115 [zD xs, zD ys] (zD (zA (Nat.gcd (val xs) (val ys)))) := by
 refine Ctr.intro Tryz.func115 rfl (by kernel_rfl) Tryz.ntmps115 rfl fun w0 F0 => .cv (Cv.wk (.l [0, 1] rfl)) (.fact (Has.lenLt (Has.t (t := 0) rfl)) fun lt0 => .fact (Has.okW (Has.t (t := 0) rfl)) fun ok0 => .fact (Has.lenLt (Has.t (t := 1) rfl)) fun lt1 => .fact (Has.okW (Has.t (t := 1) rfl)) fun ok1 => .seq fun _ k1 => .region (st (.as (.cW (f := isU))) rfl (nl (.thn (k1 _ _ (.seq fun _ k2 => .region (st (.mv (.t rfl)) rfl (st (.eq (.call (xM (by omega)) (.cons (.t rfl) .nil)) (by rfl)) rfl (st (.mv (.t rfl)) rfl (st (.eq (.call (xM (by omega)) (.cons (.t rfl) .nil)) (by rfl)) rfl (st (.as (.t rfl)) rfl (st (.as (.t rfl)) rfl (nl (.thn (k2 _ _ (.seq fun _ k3 => .block (.loopF [4] (fun (z : { z : Nat × Nat // Nat.gcd z.1 z.2 = Nat.gcd (val xs) (val ys) ∧ (List.length (zA z.1)) < 4294800000 ∧ (List.length (zA z.2)) < 4294800000 }) => match z with | ⟨(p, q), hI⟩ => [(0, zD (zA p)), (1, zD (zA q))]) (fun M => fun (z : { z : Nat × Nat // Nat.gcd z.1 z.2 = Nat.gcd (val xs) (val ys) ∧ (List.length (zA z.1)) < 4294800000 ∧ (List.length (zA z.2)) < 4294800000 }) => match z with | ⟨(p, q), hI⟩ => M) (fun (z : { z : Nat × Nat // Nat.gcd z.1 z.2 = Nat.gcd (val xs) (val ys) ∧ (List.length (zA z.1)) < 4294800000 ∧ (List.length (zA z.2)) < 4294800000 }) => match z with | ⟨(p, q), hI⟩ => q) (⟨(val xs, val ys), rfl, hx, hy⟩) (Cv.mem (.c 0 rfl ?_ (.c 1 rfl ?_ (.l [4] rfl))) ?_) ?_)))))))))))))))))
 ·rfl
 ·rfl
 ·rfl
 rintro ⟨⟨p, q⟩, hI⟩ K4 hK4
 refine .cv (Cv.wk (.l [0, 1, 4] rfl)) ?_
 simp only [] at hI
 obtain ⟨g1, g2, g3⟩ := hI
 refine .seq fun _ k5 => .seq fun _ k6 => .region (st (.mv (.t rfl)) rfl (st (.len sl39 (.t rfl)) rfl (st (.gtI (.t rfl) (.cI 0 rfl)) rfl (nl (.thn (k6 _ _ (.cond (.t rfl) (fun hc1 => ?_) (fun hc1 => ?_))))))))
 ·have hc1 := BP.t hc1
  refine .skip (.thn (k5 _ _ (.block (.seq fun _ k7 => .region (st (.mv (.t rfl)) rfl (st (.mv (.t rfl)) rfl (st (.eq (.call (div_Mod (by simp only [zC]; omega) (by simp only [zC]; omega)) (.cons (.t rfl) (.cons (.t rfl) .nil))) (by simp only [zC]; rfl)) rfl ?_)))))))
  refine st (.mv (.t rfl)) rfl (st (.ext (.t rfl) rfl) rfl (st (.ext (.t rfl) rfl) rfl (st (.as (.t rfl)) rfl (st (.as (.t rfl)) rfl (nl (.thn (k7 _ _ (.region (st (.mv (.t rfl)) rfl (st (.mv (.t rfl)) rfl (st (.as (.t rfl)) rfl (st (.as (.t rfl)) rfl (nl (.bln (.thn ?_)))))))))))))))
  have hq : q ≠ 0 := fun e => by rw [e, zF] at hc1; simp at hc1
  refine hK4 (⟨(q, p % q), gcd_step g1, g3, Nat.lt_of_le_of_lt (ze (Nat.le_of_lt (Nat.mod_lt _ (by omega)))) g3⟩) _ _ ?_ (Cv.mem (.c 0 rfl ?_ (.c 1 rfl ?_ (.l [4] rfl))) ?_)
  ·show p % q < q; exact Nat.mod_lt _ (by omega)
  ·rfl
  ·exact zY (by rw [if_neg hq])
  ·rfl
 ·have hc1 := BP.f hc1
  refine .exit (.the (.the (.blh (.thn (k3 _ _ (.seq fun _ k8 => .region (st (.mv (.t rfl)) rfl (st (.as (.t rfl)) rfl (nl (.thn (k8 _ _ (.cv (Cv.wk (.l [4] rfl)) (.ret (rt1 (.inl rfl) Tryz.results115 rfl (.tmp (Has.t' rfl ?_) .nil)))))))))))))))
  all_goals (obtain rfl : q = 0 := jZ (by omega); exact zY (by rw [← g1, Nat.gcd_zero_right]))
theorem ct (a b : Nat) : Nat.gcd a b ≤ max a b := by
 rcases Nat.eq_zero_or_pos a with h | h
 ·subst h; rw [Nat.gcd_zero_left]; exact Nat.le_max_right _ _
 ·exact Nat.le_trans (Nat.gcd_le_left b h) (Nat.le_max_left _ _)
theorem cb (a b : Nat) : (List.length (zA (max a b))) ≤ max ((List.length (zA a))) ((List.length (zA b))) := by
 rcases Nat.le_total a b with h | h
 ·rw [Nat.max_eq_right h]; omega
 ·rw [Nat.max_eq_left h]; omega
def upW (n : Nat) (xs : List Nat) : List Nat := if xs.length = 0 then [] else List.replicate n 0 ++ xs
theorem upW_nil {n : Nat} {xs : List Nat} (h : xs.length = 0) : [] = upW n xs := by unfold upW; rw [if_pos h]
theorem upW_app {n : Nat} {xs : List Nat} (h : xs.length ≠ 0) : List.replicate n 0 ++ xs = upW n xs := by unfold upW; rw [if_neg h]
theorem eg (n : Nat) (xs : List Nat) : val (upW n xs) = W ^ n * val xs := by
 unfold upW
 split
 ·rename_i h; rw [List.eq_nil_of_length_eq_zero h]; rfl
 ·rw [ve, xK, List.length_replicate, Nat.zero_add]
theorem upW_nw {n : Nat} {xs : List Nat} (h : Ok xs) : (List.length (zA (val (upW n xs)))) ≤ n + xs.length := by
 rw [eg]
 refine wq ?_
 rw [Nat.pow_add]
 exact Nat.mul_lt_mul_of_pos_left (val_lt h) (zW n)
theorem ok_take {xs : List Nat} (h : Ok xs) (n : Nat) : Ok (xs.take n) := fun x hx => h x (List.mem_of_mem_take hx)
theorem ok_drop {xs : List Nat} (h : Ok xs) (n : Nat) : Ok (xs.drop n) := fun x hx => h x (List.mem_of_mem_drop hx)
theorem lowW_nw (a n : Nat) : (List.length (zA (val ((zA a).take n)))) ≤ min n ((List.length (zA a))) := by
 have := aj (ok_take (jy a) n)
 rwa [List.length_take] at this
theorem highW_nw (a n : Nat) : (List.length (zA (val ((zA a).drop n)))) ≤ (List.length (zA a)) - n := by
 have := aj (ok_drop (jy a) n)
 rwa [List.length_drop] at this
theorem halves (a n : Nat) : val ((zA a).take n) + W ^ n * val ((zA a).drop n) = a := by
 rcases Nat.lt_or_ge n (zA a).length with h | h
 ·have e := ve ((zA a).take n) ((zA a).drop n)
  rw [List.take_append_drop, zC, List.length_take, Nat.min_eq_left (Nat.le_of_lt h)] at e
  exact e.symm
 ·rw [List.take_of_length_le h, List.drop_eq_nil_of_le h, zC]; exact Nat.add_zero _
theorem kara (p q r s n : Nat) : p * r + W ^ n * ((p + q) * (r + s) - p * r - q * s) + W ^ (2 * n) * (q * s) = (p + W ^ n * q) * (r + W ^ n * s) := by
 have e : (p + q) * (r + s) - p * r - q * s = p * s + q * r := by
  rw [Nat.add_mul, Nat.mul_add, Nat.mul_add]; omega
 rw [e, Nat.two_mul, Nat.pow_add]
 generalize W ^ n = w
 simp only [Nat.add_mul, Nat.mul_add, Nat.mul_assoc, Nat.mul_left_comm, Nat.mul_comm, Nat.add_assoc, Nat.add_left_comm, Nat.add_comm]
theorem mul_low {xs : List Nat} {n : Nat} : Ctr Tryz.prog 86 [zD xs, isI (n : Int)] (zD (xs.take n)) := by
 refine Ctr.intro Tryz.func86 rfl (by kernel_rfl) Tryz.ntmps86 rfl fun w0 F0 => .cv (Cv.wk (.l [0, 1] rfl)) (.fact (Has.lenLt (Has.t (t := 0) rfl)) fun lt0 => .fact (Has.okW (Has.t (t := 0) rfl)) fun ok0 => .fact (Has.rngI (Has.t (t := 1) rfl)) fun lt1 => .seq fun _ k1 => .region (st (.as (.cW (f := isU))) rfl (nl (.thn (k1 _ _ (.seq fun _ k2 => .seq fun _ k3 => .region (st (.mv (.t rfl)) rfl (st (.len sl39 (.t rfl)) rfl (st (.mv (.t rfl)) rfl (st (.leI (.t rfl) (.t rfl)) rfl (nl (.thn (k3 _ _ (.cond (.t rfl) (fun hc1 => ?_) (fun hc1 => ?_)))))))))))))))
 ·have hc1 := BP.t hc1
  refine .seq fun _ k4 => .region (st (.mv (.t rfl)) rfl (st (.as (.t rfl)) rfl (nl (.thn (k4 _ _ (.cv (Cv.wk (.l [0, 1, 4] rfl)) (.ret (.thr (rt1 (.inl rfl) Tryz.results86 rfl (.tmp (Has.t' rfl ?_) .nil))))))))))
  all_goals (exact zY (List.take_of_length_le (by omega)).symm)
 ·have hc1 := BP.f hc1
  refine .skip (.thn (k2 _ _ (.seq fun _ k5 => .region (st (.mv (.t rfl)) rfl (st (.mv (.t rfl)) rfl (st (.slHM sl39 ty86 (.t rfl) (.t rfl) ⟨by omega, by omega⟩) rfl (st (.as (.t rfl)) rfl (nl (.thn (k5 _ _ (.cv (Cv.wk (.l [4] rfl)) (.ret (rt1 (.inl rfl) Tryz.results86 rfl (.tmp (Has.t' rfl ?_) .nil))))))))))))))
  all_goals (exact zY (by rw [Int.toNat_natCast]))
theorem wH {xs : List Nat} {n : Nat} : Ctr Tryz.prog 87 [zD xs, isI (n : Int)] (zD (xs.drop n)) := by
 refine Ctr.intro Tryz.func87 rfl (by kernel_rfl) Tryz.ntmps87 rfl fun w0 F0 => .cv (Cv.wk (.l [0, 1] rfl)) (.fact (Has.lenLt (Has.t (t := 0) rfl)) fun lt0 => .fact (Has.okW (Has.t (t := 0) rfl)) fun ok0 => .fact (Has.rngI (Has.t (t := 1) rfl)) fun lt1 => .seq fun _ k1 => .region (st (.as (.cW (f := isU))) rfl (nl (.thn (k1 _ _ (.seq fun _ k2 => .seq fun _ k3 => .region (st (.mv (.t rfl)) rfl (st (.len sl39 (.t rfl)) rfl (st (.mv (.t rfl)) rfl (st (.leI (.t rfl) (.t rfl)) rfl (nl (.thn (k3 _ _ (.cond (.t rfl) (fun hc1 => ?_) (fun hc1 => ?_)))))))))))))))
 ·have hc1 := BP.t hc1
  refine .seq fun _ k4 => .region (st (.as (.cW (f := isU))) rfl (nl (.thn (k4 _ _ (.ret (.thr (rt1 (.inl rfl) Tryz.results87 rfl (.tmp (Has.t' rfl ?_) .nil))))))))
  all_goals (exact zY (List.drop_eq_nil_of_le (by omega)).symm)
 ·have hc1 := BP.f hc1
  refine .skip (.thn (k2 _ _ (.seq fun _ k5 => .region (st (.mv (.t rfl)) rfl (st (.mv (.t rfl)) rfl (st (.slLM sl39 ty86 (.t rfl) (.t rfl) ⟨by omega, by omega⟩) rfl (st (.as (.t rfl)) rfl (nl (.thn (k5 _ _ (.cv (Cv.wk (.l [4] rfl)) (.ret (rt1 (.inl rfl) Tryz.results87 rfl (.tmp (Has.t' rfl ?_) .nil))))))))))))))
  all_goals (exact zY (by rw [Int.toNat_natCast]))
theorem mul_less {xs ys : List Nat} (hx : (List.length (zA (val xs))) < 4294967296) : Ctr Tryz.prog 88 [zD xs, zD ys] (zD (zA (val xs - val ys))) := by
 refine Ctr.intro Tryz.func88 rfl (by kernel_rfl) Tryz.ntmps88 rfl fun w0 F0 => .cv (Cv.wk (.l [0, 1] rfl)) (.fact (Has.lenLt (Has.t (t := 0) rfl)) fun lt0 => .fact (Has.okW (Has.t (t := 0) rfl)) fun ok0 => .fact (Has.lenLt (Has.t (t := 1) rfl)) fun lt1 => .fact (Has.okW (Has.t (t := 1) rfl)) fun ok1 => .seq fun _ k1 => .region (st (.as (.cW (f := isU))) rfl (nl (.thn (k1 _ _ (.seq fun _ k2 => .region (st (.mv (.t rfl)) rfl (st (.mv (.t rfl)) rfl (st (.call (nat_Sub (by with_reducible assumption)) (.cons (.t rfl) (.cons (.t rfl) .nil))) rfl (st (.mv (.t rfl)) rfl (st (.ext (.t rfl) rfl) rfl (st (.ext (.t rfl) rfl) rfl (st (.as (.t rfl)) rfl (st (.as (.t rfl)) rfl (nl (.thn (k2 _ _ (.cv (Cv.wk (.l [4, 5] rfl)) (.seq fun _ k3 => .region (st (.mv (.t rfl)) rfl (st (.as (.t rfl)) rfl (nl (.thn (k3 _ _ (.ret (rt1 (.inl rfl) Tryz.results88 rfl (.tmp (Has.t' rfl ?_) .nil)))))))))))))))))))))))))))
 all_goals (rfl)
theorem mul_up {xs : List Nat} {n : Nat} (hn : n + xs.length ≤ 4294967296) : Ctr Tryz.prog 113 [zD xs, isI (n : Int)] (zD (upW n xs)) := by
 refine Ctr.intro Tryz.func113 rfl (by kernel_rfl) Tryz.ntmps113 rfl fun w0 F0 => .cv (Cv.wk (.l [0, 1] rfl)) (.fact (Has.lenLt (Has.t (t := 0) rfl)) fun lt0 => .fact (Has.okW (Has.t (t := 0) rfl)) fun ok0 => .fact (Has.rngI (Has.t (t := 1) rfl)) fun lt1 => .seq fun _ k1 => .region (st (.as (.cW (f := isU))) rfl (nl (.thn (k1 _ _ (.seq fun _ k2 => .seq fun _ k3 => .region (st (.mv (.t rfl)) rfl (st (.len sl39 (.t rfl)) rfl (st (.eqI (.t rfl) (.cI 0 rfl)) rfl (nl (.thn (k3 _ _ (.cond (.t rfl) (fun hc1 => ?_) (fun hc1 => ?_))))))))))))))
 ·have hc1 := BP.t hc1
  refine .seq fun _ k4 => .region (st (.as (.cW (f := isU))) rfl (nl (.thn (k4 _ _ (.ret (.thr (rt1 (.inl rfl) Tryz.results113 rfl (.tmp (Has.t' rfl ?_) .nil))))))))
  all_goals (exact zY (upW_nil (by omega)))
 ·have hc1 := BP.f hc1
  refine .skip (.thn (k2 _ _ (.seq fun _ k5 => .region (st (.mv (.t rfl)) rfl (st (.mv (.t rfl)) rfl (st (.mv (.t rfl)) rfl (st (.len sl39 (.t rfl)) rfl (st (.eq (.addI (.t rfl) (.t rfl) (by omega) (by omega)) ((show isI _ = isI ((n + xs.length : Nat) : Int) from zE (by omega)))) rfl (.make (f := isU) (u := 0) (n := n) (c := n + xs.length) sl39 ty86 vO (fun _ _ => ⟨⟨rfl, by decide⟩, trivial⟩) by86 (Has.t' rfl rfl) (Has.t' rfl rfl) ⟨by omega, by omega⟩ rfl fun b1 => st (.mv (.t rfl)) rfl (.cv (Cv.winGrM (f := isU) (t := 13) (i := 0) (ys := List.replicate n 0) rfl rfl (by simp) (by simp) (by simp)) ?_))))))))))
  refine .memEq (M' := [grM _ _ _]) rfl (.appendG (f := isU) (u := 0) sl39 ty86 vO (fun _ _ => ⟨⟨rfl, by decide⟩, trivial⟩) (fun _ => inferInstance) by86 (.t rfl) (i := 0) rfl (.t rfl) (by rw [List.length_replicate]; exact hn) (by omega) rfl fun gr1 => ?_)
  refine .memEq (M' := [grM _ _ _]) rfl (.cv (Cv.freezeGn (t := 15) (i := 0) (ys := List.replicate n 0 ++ xs) rfl rfl rfl (by simp)) ?_)
  refine .memEq (M' := []) rfl (.cv (Cv.wk (.l [0, 1, 4, 5, 6, 7, 8, 9, 10, 11, 12, 14, 15] rfl)) (st (.as (.t rfl)) rfl (nl (.thn (k5 _ _ (.cv (Cv.wk (.l [4] rfl)) (.ret (rt1 (.inl rfl) Tryz.results113 rfl (.tmp (Has.t' rfl ?_) .nil)))))))))
  all_goals (exact zY (upW_app (by omega)))
theorem mul_joined {xs ys zs : List Nat} {n : Nat} (hx : (List.length (zA (val xs))) ≤ 2100000000) (hn : n ≤ 1000000000) (hy : ys.length ≤ 2000000000) (hz : zs.length ≤ 2000000000) : Ctr Tryz.prog 89 [zD xs, zD ys, zD zs, isI (n : Int)] (zD (zA (val xs + W ^ n * val ys + W ^ (2 * n) * val zs))) := by
 refine Ctr.intro Tryz.func89 rfl (by kernel_rfl) Tryz.ntmps89 rfl fun w0 F0 => .cv (Cv.wk (.l [0, 1, 2, 3] rfl)) (.fact (Has.lenLt (Has.t (t := 0) rfl)) fun lt0 => .fact (Has.okW (Has.t (t := 0) rfl)) fun ok0 => .fact (Has.lenLt (Has.t (t := 1) rfl)) fun lt1 => .fact (Has.okW (Has.t (t := 1) rfl)) fun ok1 => .fact (Has.lenLt (Has.t (t := 2) rfl)) fun lt2 => .fact (Has.okW (Has.t (t := 2) rfl)) fun ok2 => .fact (Has.rngI (Has.t (t := 3) rfl)) fun lt3 => ?_)
 have u1 := upW_nw (n := n) ok1
 have u2 := upW_nw (n := 2 * n) ok2
 have h1 := va (val xs) (val (upW n ys))
 refine .seq fun _ k1 => .region (st (.as (.cW (f := isU))) rfl (nl (.thn (k1 _ _ (.seq fun _ k2 => .region (st (.as (Has.fn (ι := { p : List Nat × Nat // p.2 + p.1.length ≤ 4294967296 }) (As := fun p => [zD p.1.1, isI (p.1.2 : Int)]) (R := fun p => zD (upW p.1.2 p.1.1)) (fun p => mul_up p.2))) rfl (nl (.thn (k2 _ _ (.seq fun _ k3 => .region (st (.mv (.t rfl)) rfl (st (.mv (.t rfl)) rfl (st (.mv (.t rfl)) rfl ?_)))))))))))))
 refine st (.mv (.t rfl)) rfl (st (.callV ⟨(ys, n), by show n + ys.length ≤ _; omega⟩ (.t rfl) (.cons (.t rfl) (.cons (.t rfl) .nil))) rfl ?_)
 refine st (.call (aI (by omega) (by simp only [zC]; omega)) (.cons (.t rfl) (.cons (.t rfl) .nil))) rfl ?_
 refine st (.mv (.t rfl)) rfl (st (.mv (.t rfl)) rfl (st (.mv (.t rfl)) rfl (st (.eq (.mulI (.cI 2 rfl) (.t rfl) (by omega) (by omega)) ((show isI _ = isI ((2 * n : Nat) : Int) from zE (by omega)))) rfl ?_)))
 refine st (.callV ⟨(zs, 2 * n), by show 2 * n + zs.length ≤ _; omega⟩ (.t rfl) (.cons (.t rfl) (.cons (.t rfl) .nil))) rfl ?_
 refine st (.call (aI (by simp only [zC]; omega) (by simp only [zC]; omega)) (.cons (.t rfl) (.cons (.t rfl) .nil))) rfl ?_
 refine st (.as (.t rfl)) rfl (nl (.thn (k3 _ _ (.cv (Cv.wk (.l [8] rfl)) (.ret (rt1 (.inl rfl) Tryz.results89 rfl (.tmp (Has.t' rfl ?_) .nil)))))))
 all_goals (exact zY (by rw [zC, eg, eg]))
theorem bE {xs ys : List Nat} (hx : (List.length (zA (val xs))) ≤ 1000000000) (hy : (List.length (zA (val ys))) ≤ 1000000000) (IH : ∀ us vs : List Nat, max ((List.length (zA (val us)))) ((List.length (zA (val vs)))) < max ((List.length (zA (val xs)))) ((List.length (zA (val ys)))) → (List.length (zA (val us))) ≤ 1000000000 → (List.length (zA (val vs))) ≤ 1000000000 → Ctr Tryz.prog 63 [zD us, zD vs] (zD (zA (val us * val vs)))) : Ctr Tryz.prog 63 [zD xs, zD ys] (zD (zA (val xs * val ys))) := by
 refine Ctr.intro Tryz.func63 rfl (by kernel_rfl) Tryz.ntmps63 rfl fun w0 F0 => .cv (Cv.wk (.l [0, 1] rfl)) (.fact (Has.lenLt (Has.t (t := 0) rfl)) fun lt0 => .fact (Has.okW (Has.t (t := 0) rfl)) fun ok0 => .fact (Has.lenLt (Has.t (t := 1) rfl)) fun lt1 => .fact (Has.okW (Has.t (t := 1) rfl)) fun ok1 => ?_)
 obtain ⟨N, hN⟩ : ∃ N, N = (max ((List.length (zA (val xs)))) ((List.length (zA (val ys)))) + 1) / 2 := ⟨_, rfl⟩
 have kp := lowW_nw (val xs) N
 have kq := highW_nw (val xs) N
 have kr := lowW_nw (val ys) N
 have ks := highW_nw (val ys) N
 have ka := va (val ((zA (val xs)).take N)) (val ((zA (val xs)).drop N))
 have kb := va (val ((zA (val ys)).take N)) (val ((zA (val ys)).drop N))
 have ea := halves (val xs) N
 have eb := halves (val ys) N
 obtain ⟨p, hp⟩ : ∃ p, p = (zA (val xs)).take N := ⟨_, rfl⟩
 obtain ⟨q, hq⟩ : ∃ q, q = (zA (val xs)).drop N := ⟨_, rfl⟩
 obtain ⟨r, hr⟩ : ∃ r, r = (zA (val ys)).take N := ⟨_, rfl⟩
 obtain ⟨s, hs⟩ : ∃ s, s = (zA (val ys)).drop N := ⟨_, rfl⟩
 rw [← hp] at kp ka ea
 rw [← hq] at kq ka ea
 rw [← hr] at kr kb eb
 rw [← hs] at ks kb eb
 have kpr := jQ (val p) (val r)
 have kqs := jQ (val q) (val s)
 have kc := jQ (val p + val q) (val r + val s)
 have kc2 := ze (Nat.sub_le ((val p + val q) * (val r + val s)) (val p * val r))
 have kc3 := ze (Nat.sub_le ((val p + val q) * (val r + val s) - val p * val r) (val q * val s))
 refine .seq fun _ k1 => .region (st (.as (.cW (f := isU))) rfl (nl (.thn (k1 _ _ (.seq fun _ k2 => .region (st (.mv (.t rfl)) rfl (st (.eq (.call (xM (by omega)) (.cons (.t rfl) .nil)) (by rfl)) rfl (st (.mv (.t rfl)) rfl (st (.eq (.call (xM (by omega)) (.cons (.t rfl) .nil)) (by rfl)) rfl (st (.as (.t rfl)) rfl (st (.as (.t rfl)) rfl (nl (.thn (k2 _ _ (.seq fun _ k3 => .seq fun _ k4 => .region (st (.mv (.t rfl)) rfl (st (.len sl39 (.t rfl)) rfl (st (.mv (.t rfl)) rfl (st (.len sl39 (.t rfl)) rfl (st (.minI (.t rfl) (.t rfl)) rfl (st (.leI (.t rfl) (.cI 8 rfl)) rfl (nl (.thn (k4 _ _ (.cv (Cv.wk (.l [0, 1, 4, 22] rfl)) (.cond (.t rfl) (fun hc1 => ?_) (fun hc1 => ?_)))))))))))))))))))))))))))
 ·have hc1 := BP.t hc1
  have HM : (List.length (zA (val xs))) ≤ 8 ∨ (List.length (zA (val ys))) ≤ 8 := (by revert hc1; split <;> intro hc1 <;> omega)
  refine .seq fun _ k5 => .region (st (.mv (.t rfl)) rfl (st (.mv (.t rfl)) rfl (st (.eq (.call (nat_Mul (by simp only [zC]; omega)) (.cons (.t rfl) (.cons (.t rfl) .nil))) (by simp only [zC]; rfl)) rfl ?_)))
  refine st (.as (.t rfl)) rfl (nl (.thn (k5 _ _ (.ret (.thr (rt1 (.inl rfl) Tryz.results63 rfl (.tmp (Has.t' rfl ?_) .nil)))))))
  all_goals (rfl)
 ·have hc1 := BP.f hc1
  have HM : 8 < (List.length (zA (val xs))) ∧ 8 < (List.length (zA (val ys))) := (by revert hc1; split <;> intro hc1 <;> omega)
  refine .skip (.thn (k3 _ _ (.seq fun _ k6 => .region (st (.mv (.t rfl)) rfl (st (.len sl39 (.t rfl)) rfl (st (.mv (.t rfl)) rfl (st (.len sl39 (.t rfl)) rfl (st (.maxI (.t rfl) (.t rfl)) rfl (st (.addI (.t rfl) (.cI 1 rfl) (by omega) (by omega)) rfl (st (.eq (.quoI (.t rfl) (.cI 2 rfl) (by omega) (by omega) (by omega)) ((show isI _ = isI (N : Int) from zE (by rw [hN]; split <;> omega)))) rfl ?_))))))))))
  refine st (.as (.t rfl)) rfl (nl (.thn (k6 _ _ (.cv (Cv.wk (.l [0, 1, 4, 5] rfl)) (.seq fun _ k7 => .region (st (.mv (.t rfl)) rfl (st (.mv (.t rfl)) rfl (st (.eq (.call (mul_low) (.cons (.t rfl) (.cons (.t rfl) .nil))) ((show zD ((zA (val xs)).take N) = zD p from zY hp.symm))) rfl (st (.mv (.t rfl)) rfl (st (.mv (.t rfl)) rfl (st (.eq (.call (wH) (.cons (.t rfl) (.cons (.t rfl) .nil))) ((show zD ((zA (val xs)).drop N) = zD q from zY hq.symm))) rfl (st (.mv (.t rfl)) rfl (st (.mv (.t rfl)) rfl (st (.eq (.call (mul_low) (.cons (.t rfl) (.cons (.t rfl) .nil))) ((show zD ((zA (val ys)).take N) = zD r from zY hr.symm))) rfl (st (.mv (.t rfl)) rfl (st (.mv (.t rfl)) rfl (st (.eq (.call (wH) (.cons (.t rfl) (.cons (.t rfl) .nil))) ((show zD ((zA (val ys)).drop N) = zD s from zY hs.symm))) rfl (st (.as (.t rfl)) rfl (st (.as (.t rfl)) rfl (st (.as (.t rfl)) rfl (st (.as (.t rfl)) rfl (nl (.thn (k7 _ _ (.cv (Cv.wk (.l [4, 5, 6, 7, 8, 9] rfl)) (.seq fun _ k8 => .region (st (.mv (.t rfl)) rfl (st (.mv (.t rfl)) rfl (st (.call (IH _ _ (by omega) (by omega) (by omega)) (.cons (.t rfl) (.cons (.t rfl) .nil))) rfl (st (.mv (.t rfl)) rfl (st (.mv (.t rfl)) rfl (st (.call (IH _ _ (by omega) (by omega) (by omega)) (.cons (.t rfl) (.cons (.t rfl) .nil))) rfl (st (.as (.t rfl)) rfl (st (.as (.t rfl)) rfl (nl (.thn (k8 _ _ (.cv (Cv.wk (.l [4, 5, 6, 7, 8, 9, 10, 11] rfl)) (.seq fun _ k9 => .region (st (.mv (.t rfl)) rfl (st (.mv (.t rfl)) rfl (st (.eq (.call (aI (by omega) (by omega)) (.cons (.t rfl) (.cons (.t rfl) .nil))) ((show zD (zA (val p + val q)) = _ from rfl))) rfl (st (.mv (.t rfl)) rfl (st (.mv (.t rfl)) rfl ?_))))))))))))))))))))))))))))))))))))))))))))
  refine st (.call (aI (by omega) (by omega)) (.cons (.t rfl) (.cons (.t rfl) .nil))) rfl (st (.eq (.call (IH _ _ (by simp only [zC]; omega) (by simp only [zC]; omega) (by simp only [zC]; omega)) (.cons (.t rfl) (.cons (.t rfl) .nil))) ((show zD _ = zD (zA ((val p + val q) * (val r + val s))) from zY (by rw [zC, zC])))) rfl ?_)
  refine st (.mv (.t rfl)) rfl (st (.eq (.call (mul_less (by simp only [zC]; omega)) (.cons (.t rfl) (.cons (.t rfl) .nil))) ((show zD _ = zD (zA ((val p + val q) * (val r + val s) - val p * val r)) from zY (by rw [zC, zC])))) rfl ?_)
  refine st (.mv (.t rfl)) rfl (st (.eq (.call (mul_less (by simp only [zC]; omega)) (.cons (.t rfl) (.cons (.t rfl) .nil))) ((show zD _ = zD (zA ((val p + val q) * (val r + val s) - val p * val r - val q * val s)) from zY (by rw [zC, zC])))) rfl ?_)
  refine st (.as (.t rfl)) rfl (nl (.thn (k9 _ _ (.cv (Cv.wk (.l [4, 5, 10, 11, 12] rfl)) (.seq fun _ k10 => .region (st (.mv (.t rfl)) rfl (st (.mv (.t rfl)) rfl (st (.mv (.t rfl)) rfl (st (.mv (.t rfl)) rfl (st (.call (mul_joined (by simp only [zC]; omega) (by omega) (by omega) (by omega)) (.cons (.t rfl) (.cons (.t rfl) (.cons (.t rfl) (.cons (.t rfl) .nil))))) rfl ?_))))))))))
  refine st (.as (.t rfl)) rfl (nl (.thn (k10 _ _ (.cv (Cv.wk (.l [4] rfl)) (.ret (rt1 (.inl rfl) Tryz.results63 rfl (.tmp (Has.t' rfl ?_) .nil)))))))
  all_goals (exact zY (by simp only [zC]; rw [kara, ea, eb]))
theorem mul_Mul : ∀ {xs ys : List Nat}, (List.length (zA (val xs))) ≤ 1000000000 → (List.length (zA (val ys))) ≤ 1000000000 → Ctr Tryz.prog 63 [zD xs, zD ys] (zD (zA (val xs * val ys))) := by
 have h : ∀ N, ∀ xs ys : List Nat, max ((List.length (zA (val xs)))) ((List.length (zA (val ys)))) ≤ N → (List.length (zA (val xs))) ≤ 1000000000 → (List.length (zA (val ys))) ≤ 1000000000 → Ctr Tryz.prog 63 [zD xs, zD ys] (zD (zA (val xs * val ys))) := by
  intro N
  induction N with
  | zero => intro xs ys h hx hy; exact bE hx hy (fun us vs hl => absurd hl (by omega))
  | succ N ih => intro xs ys h hx hy; exact bE hx hy (fun us vs hl => ih us vs (by omega))
 intro xs ys hx hy
 exact h _ xs ys (Nat.le_refl _) hx hy
theorem qE {xs : List Nat} {m : Bool} (hx : (List.length (zA (val xs))) ≤ 4294967296) : Ctr Tryz.prog 25 [zD xs, isB m] (isZ (zv m xs)) := by
 refine Ctr.intro Tryz.func25 rfl (by kernel_rfl) Tryz.ntmps25 rfl fun w0 F0 => .cv (Cv.wk (.l [0, 1] rfl)) (.fact (Has.lenLt (Has.t (t := 0) rfl)) fun lt0 => .fact (Has.okW (Has.t (t := 0) rfl)) fun ok0 => .seq fun _ k1 => .region (.alloc [isB false, SlM isU []] zG (fun _ _ => ⟨rfl, nilM _ _, trivial⟩) rfl fun b1 => nl (.thn (k1 _ _ (.seq fun _ k2 => .region (st (.mv (.t rfl)) rfl (st (.call (xM (by with_reducible assumption)) (.cons (.t rfl) .nil)) rfl (st (.as (.t rfl)) rfl (nl (.thn (k2 _ _ (.seq fun _ k3 => .region (st (.mv (.t rfl)) rfl (st (.mv (.t rfl)) rfl (stT rfl rfl (fun hg => .mv (.t rfl)) rfl (stT rfl rfl (fun hg => .len sl39 (Has.g rfl hg)) rfl (stT rfl rfl (fun hg => .gtI (Has.g rfl hg) (.cI 0 rfl)) rfl (st (.pickAnd (.t rfl) (fun h => Has.g rfl h)) rfl (st (.mv (.t rfl)) rfl (st (.build [isB false, SlM isU []] pl41 zG (fun _ _ => ⟨rfl, nilM _ _, trivial⟩) (.cons (.t rfl) rfl rfl rfl (.cons (.t rfl) rfl rfl rfl .nil)) (Z'' := [_, _]) rfl) rfl (.store (.t rfl) (.t rfl) (i := 0) rfl ty41 rfl rfl (Ss' := [_, _]) rfl (M' := [(some _, zB [_, _])]) rfl (nl (.thn (k3 _ _ (.cv (Cv.wk (.l [4] rfl)) (.ret (rt1 (.inl rfl) Tryz.results25 rfl (.cell rfl (i := 0) rfl ty41 rfl ?_ .nil))))))))))))))))))))))))))))
 ·exact isZ_of (from_neg m xs) (by rw [vN])
theorem qi {x : Int} : Ctr Tryz.prog 20 [isI x] (isZ x) := by
 refine Ctr.intro Tryz.func20 rfl (by kernel_rfl) Tryz.ntmps20 rfl fun w0 F0 => .cv (Cv.wk (.l [0] rfl)) (.fact (Has.rngI (Has.t (t := 0) rfl)) fun lt0 => .seq fun _ k1 => .region (.alloc [isB false, SlM isU []] zG (fun _ _ => ⟨rfl, nilM _ _, trivial⟩) rfl fun b1 => nl (.thn (k1 _ _ (.seq fun _ k2 => .seq fun _ k3 => .region (st (.mv (.t rfl)) rfl (st (.ltI (.t rfl) (.cI 0 rfl)) rfl (nl (.thn (k3 _ _ (.cond (.t rfl) (fun hc1 => ?_) (fun hc1 => ?_))))))))))))
 ·have hc1 := BP.t hc1
  have hN : x < 0 := hc1
  refine .seq fun _ k4 => .region (st (.mv (.t rfl)) rfl (st (.convIUw un2 un86 (.t rfl)) rfl (st (.eq (.negU (.t rfl) (by omega)) ((show isU _ = isU x.natAbs from zJ (neg_word hc1 (by omega))))) rfl (st (.call (nat_Of) (.cons (.t rfl) .nil)) rfl (st (.call (qE (by simp only [zC]; exact Nat.le_trans (zz (by omega)) (by decide))) (.cons (.t rfl) (.cons (.cB true) .nil))) rfl ?_)))))
  refine .store (.t rfl) (.t rfl) (i := 0) rfl ty41 rfl rfl (Ss' := [_, _]) rfl (M' := [(some _, zB [_, _])]) rfl (nl (.thn (k4 _ _ (.cv (Cv.wk (.l [0, 2] rfl)) (.ret (.thr (rt1 (.inl rfl) Tryz.results20 rfl (.cell rfl (i := 0) rfl ty41 rfl ?_ .nil))))))))
  ·exact zN (by rw [we, if_pos rfl]; omega)
 ·have hc1 := BP.f hc1
  have hN : 0 ≤ x := (by omega)
  refine .skip (.thn (k2 _ _ (.seq fun _ k5 => .region (st (.mv (.t rfl)) rfl (st (.eq (.convIU un2 un86 (.t rfl) (by with_reducible assumption) (by omega)) ((show isU _ = isU x.natAbs from zJ (by omega)))) rfl (st (.call (nat_Of) (.cons (.t rfl) .nil)) rfl (st (.call (qE (by simp only [zC]; exact Nat.le_trans (zz (by omega)) (by decide))) (.cons (.t rfl) (.cons (.cB false) .nil))) rfl ?_)))))))
  refine .store (.t rfl) (.t rfl) (i := 0) rfl ty41 rfl rfl (Ss' := [_, _]) rfl (M' := [(some _, zB [_, _])]) rfl (nl (.thn (k5 _ _ (.cv (Cv.wk (.l [2] rfl)) (.ret (rt1 (.inl rfl) Tryz.results20 rfl (.cell rfl (i := 0) rfl ty41 rfl ?_ .nil)))))))
  ·exact zN (by rw [we, if_neg (by decide)]; omega)
theorem zd {m : Bool} {xs : List Nat} (hx : (List.length (zA (val xs))) < 4294900000) : Ctr Tryz.prog 21 [Flat [isB m, zD xs]] (isI (sgn (zv m xs))) := by
 refine Ctr.intro Tryz.func21 rfl (by kernel_rfl) Tryz.ntmps21 rfl fun w0 F0 => .cv (Cv.wk (.l [0] rfl)) (.fact (Has.okZ (Has.t (t := 0) rfl)) fun okz0 => .seq fun _ k1 => .region (.box (.t rfl) rfl fun b1 => st (.as (.cI 0 rfl)) rfl (nl (.thn (k1 _ _ (.seq fun _ k2 => .block (.seq fun _ k3 => .region (st (.fieldAddr (.t rfl) qA ty39) rfl (st (.load1 (.t rfl) (i := 0) rfl ty39 rfl) rfl (st (.call (nat_Bits (by omega)) (.cons (.t rfl) .nil)) rfl (st (.eqI (.t rfl) (.cI 0 rfl)) rfl (st (.as (.t rfl)) rfl (nl (.thn (k3 _ _ (.cv (Cv.wk (.l [1, 2, 3] rfl)) (.cond (.t rfl) (fun hc1 => ?_) (fun hc1 => ?_))))))))))))))))))
 ·have hc1 := BP.t hc1
  refine .seq fun _ k4 => .region (st (.as (.cI 0 rfl)) rfl (nl (.thn (k4 _ _ (.ret (.blr (.thr (rt1 (.inl rfl) Tryz.results21 rfl (.tmp (Has.t' rfl ?_) .nil)))))))))
  all_goals (exact zE (sgn_zero hc1))
 ·have hc1 := BP.f hc1
  refine .seq fun _ k5 => .region (st (.fieldAddr (.t rfl) qX ty4) rfl (st (.load1 (.t rfl) (i := 0) rfl ty4 rfl) rfl (st (.as (.t rfl)) rfl (nl (.thn (k5 _ _ (.cond (.t rfl) (fun hc2 => ?_) (fun hc2 => ?_))))))))
  ·have hc2 := BP.t hc2
   have HM := hc2
   refine .seq fun _ k6 => .region (st (.as (.cI (-1) rfl)) rfl (nl (.thn (k6 _ _ (.cv (Cv.wk (.l [2] rfl)) (.ret (.blr (.thr (rt1 (.inl rfl) Tryz.results21 rfl (.tmp (Has.t' rfl ?_) .nil))))))))))
   all_goals (exact zE (by rw [← sgn_of hc1, if_pos HM]))
  ·have hc2 := BP.f hc2
   have HM := hc2
   refine .skip (.bln (.thn (k2 _ _ (.cv (Cv.wk (.l [2] rfl)) (.seq fun _ k7 => .region (st (.as (.cI 1 rfl)) rfl (nl (.thn (k7 _ _ (.ret (rt1 (.inl rfl) Tryz.results21 rfl (.tmp (Has.t' rfl ?_) .nil))))))))))))
   all_goals (exact zE (by rw [← sgn_of hc1, if_neg (by rw [HM]; decide)]))
theorem cA {m n : Bool} {xs ys : List Nat} (hx : (List.length (zA (val xs))) < 4294700000) (hy : (List.length (zA (val ys))) < 4294700000) : Ctr Tryz.prog 65 [Flat [isB m, zD xs], Flat [isB n, zD ys]] (isI (cmpZ (zv m xs) (zv n ys))) := by
 refine Ctr.intro Tryz.func65 rfl (by kernel_rfl) Tryz.ntmps65 rfl fun w0 F0 => .cv (Cv.wk (.l [0, 1] rfl)) (.fact (Has.okZ (Has.t (t := 0) rfl)) fun okz0 => .fact (Has.okZ (Has.t (t := 1) rfl)) fun okz1 => .seq fun _ k1 => .region (.box (.t rfl) rfl fun b1 => .box (.t rfl) rfl fun b2 => st (.as (.cI 0 rfl)) rfl (nl (.thn (k1 _ _ (.seq fun _ k2 => .dr (.s [] rfl rfl rfl (.o rfl (.load (.t rfl) (i := 1) rfl ty41 rfl (Ss' := [_, _]) rfl)) (.s [7] rfl rfl rfl (.o rfl (.call (zd (by omega)) (.cons (.t rfl) .nil))) (.s [] rfl rfl rfl (.o rfl (.load (.t rfl) (i := 0) rfl ty41 rfl (Ss' := [_, _]) rfl)) (.fin (n := 3) zR (by kernel_rfl) (by kernel_rfl) (by kernel_rfl) (.cv (Cv.wk (.l [2, 3, 4, 8, 9] rfl)) (st (.call (zd (by omega)) (.cons (.t rfl) .nil)) rfl (st (.as (.t rfl)) rfl (st (.as (.t rfl)) rfl (nl (.thn (k2 _ _ (.seq fun _ k3 => .block (.seq fun _ k4 => .region (st (.mv (.t rfl)) rfl (st (.mv (.t rfl)) rfl (st (.ltI (.t rfl) (.t rfl)) rfl (st (.as (.t rfl)) rfl (nl (.thn (k4 _ _ (.cv (Cv.wk (.l [2, 3, 4, 5, 6, 11] rfl)) ?_)))))))))))))))))))))))))))
 refine .cond (.t rfl) (fun hc1 => ?_) (fun hc1 => ?_)
 ·have hc1 := BP.t hc1
  refine .seq fun _ k5 => .region (st (.as (.cI (-1) rfl)) rfl (nl (.thn (k5 _ _ (.ret (.blr (.thr (rt1 (.inl rfl) Tryz.results65 rfl (.tmp (Has.t' rfl ?_) .nil)))))))))
  all_goals (exact zE (cmpZ_lt hc1))
 ·have hc1 := BP.f hc1
  refine .seq fun _ k6 => .region (st (.mv (.t rfl)) rfl (st (.mv (.t rfl)) rfl (st (.gtI (.t rfl) (.t rfl)) rfl (st (.as (.t rfl)) rfl (nl (.thn (k6 _ _ (.cv (Cv.wk (.l [2, 3, 4, 5, 15] rfl)) (.cond (.t rfl) (fun hc2 => ?_) (fun hc2 => ?_))))))))))
  ·have hc2 := BP.t hc2
   refine .seq fun _ k7 => .region (st (.as (.cI 1 rfl)) rfl (nl (.thn (k7 _ _ (.ret (.blr (.thr (rt1 (.inl rfl) Tryz.results65 rfl (.tmp (Has.t' rfl ?_) .nil)))))))))
   all_goals (exact zE (cmpZ_gt hc2))
  ·have hc2 := BP.f hc2
   refine .seq fun _ k8 => .region (st (.mv (.t rfl)) rfl (st (.ltI (.t rfl) (.cI 0 rfl)) rfl (st (.as (.t rfl)) rfl (nl (.thn (k8 _ _ (.cond (.t rfl) (fun hc3 => ?_) (fun hc3 => ?_))))))))
   ·have hc3 := BP.t hc3
    refine .seq fun _ k9 => .region (st (.fieldAddr (.t rfl) qA ty39) rfl (st (.load1 (.t rfl) (i := 0) rfl ty39 rfl) rfl (st (.fieldAddr (.t rfl) qA ty39) rfl (st (.load1 (.t rfl) (i := 1) rfl ty39 rfl) rfl (st (.call (bW) (.cons (.t rfl) (.cons (.t rfl) .nil))) rfl (st (.as (.t rfl)) rfl (nl (.thn (k9 _ _ (.cv (Cv.wk (.l [2, 3, 4] rfl)) (.ret (.blr (.thr (rt1 (.inl rfl) Tryz.results65 rfl (.tmp (Has.t' rfl ?_) .nil)))))))))))))))
    all_goals (exact zE (cmpZ_neg hc3 (by omega) (by omega)))
   ·have hc3 := BP.f hc3
    refine .skip (.bln (.thn (k3 _ _ (.cv (Cv.wk (.l [2, 3, 4] rfl)) (.seq fun _ k10 => .region (st (.fieldAddr (.t rfl) qA ty39) rfl (st (.load1 (.t rfl) (i := 1) rfl ty39 rfl) rfl (st (.fieldAddr (.t rfl) qA ty39) rfl (st (.load1 (.t rfl) (i := 0) rfl ty39 rfl) rfl (st (.call (bW) (.cons (.t rfl) (.cons (.t rfl) .nil))) rfl (st (.as (.t rfl)) rfl (nl (.thn (k10 _ _ (.cv (Cv.wk (.l [4] rfl)) (.ret (rt1 (.inl rfl) Tryz.results65 rfl (.tmp (Has.t' rfl ?_) .nil))))))))))))))))))
    all_goals (exact zE (cmpZ_pos (by omega) (by omega) (by omega)))
theorem dg {m n : Bool} {xs ys : List Nat} (hx : (List.length (zA (val xs))) < 4294700000) (hy : (List.length (zA (val ys))) < 4294700000) : Ctr Tryz.prog 34 [Flat [isB m, zD xs], Flat [isB n, zD ys]] (isB (decide (zv m xs = zv n ys))) := by
 refine Ctr.intro Tryz.func34 rfl (by kernel_rfl) Tryz.ntmps34 rfl fun w0 F0 => .cv (Cv.wk (.l [0, 1] rfl)) (.fact (Has.okZ (Has.t (t := 0) rfl)) fun okz0 => .fact (Has.okZ (Has.t (t := 1) rfl)) fun okz1 => .seq fun _ k1 => .region (.box (.t rfl) rfl fun b1 => .box (.t rfl) rfl fun b2 => st (.as (.cB false)) rfl (nl (.thn (k1 _ _ (.seq fun _ k2 => .region (st (.load (.t rfl) (i := 1) rfl ty41 rfl (Ss' := [_, _]) rfl) rfl (st (.load (.t rfl) (i := 0) rfl ty41 rfl (Ss' := [_, _]) rfl) rfl (st (.call (cA (by with_reducible assumption) (by with_reducible assumption)) (.cons (.t rfl) (.cons (.t rfl) .nil))) rfl (st (.eqI (.t rfl) (.cI 0 rfl)) rfl (st (.as (.t rfl)) rfl (nl (.thn (k2 _ _ (.cv (Cv.wk (.l [4] rfl)) (.ret (rt1 (.inl rfl) Tryz.results34 rfl (.tmp (Has.t' rfl ?_) .nil))))))))))))))))))
 all_goals (exact zU (cmpZ_eq0 _ _))
theorem xk {m : Bool} {xs : List Nat} (hx : (List.length (zA (val xs))) < 4294900000) : Ctr Tryz.prog 44 [Flat [isB m, zD xs]] (isZ (-(zv m xs))) := by
 refine Ctr.intro Tryz.func44 rfl (by kernel_rfl) Tryz.ntmps44 rfl fun w0 F0 => .cv (Cv.wk (.l [0] rfl)) (.fact (Has.okZ (Has.t (t := 0) rfl)) fun okz0 => .seq fun _ k1 => .region (.box (.t rfl) rfl fun b1 => .alloc [isB false, SlM isU []] zG (fun _ _ => ⟨rfl, nilM _ _, trivial⟩) rfl fun b2 => nl (.thn (k1 _ _ (.seq fun _ k2 => .region (st (.fieldAddr (.t rfl) qA ty39) rfl (st (.load1 (.t rfl) (i := 1) rfl ty39 rfl) rfl (st (.fieldAddr (.t rfl) qX ty4) rfl (st (.load1 (.t rfl) (i := 1) rfl ty4 rfl) rfl (st (.not (.t rfl)) rfl (st (.call (qE (by omega)) (.cons (.t rfl) (.cons (.t rfl) .nil))) rfl (.store (.t rfl) (.t rfl) (i := 0) rfl ty41 rfl rfl (Ss' := [_, _]) rfl (M' := [(some _, zB [_, _]), _]) rfl (nl (.thn (k2 _ _ (.cv (Cv.wk (.l [2] rfl)) (.ret (rt1 (.inl rfl) Tryz.results44 rfl (.cell rfl (i := 0) rfl ty41 rfl ?_ .nil)))))))))))))))))))
 ·exact zN (zv_not m xs)
theorem zint_Abs {m : Bool} {xs : List Nat} (hx : (List.length (zA (val xs))) < 4294900000) : Ctr Tryz.prog 124 [Flat [isB m, zD xs]] (isZ (((zv m xs).natAbs : Nat) : Int)) := by
 refine Ctr.intro Tryz.func124 rfl (by kernel_rfl) Tryz.ntmps124 rfl fun w0 F0 => .cv (Cv.wk (.l [0] rfl)) (.fact (Has.okZ (Has.t (t := 0) rfl)) fun okz0 => .seq fun _ k1 => .region (.box (.t rfl) rfl fun b1 => .alloc [isB false, SlM isU []] zG (fun _ _ => ⟨rfl, nilM _ _, trivial⟩) rfl fun b2 => nl (.thn (k1 _ _ (.seq fun _ k2 => .region (st (.fieldAddr (.t rfl) qA ty39) rfl (st (.load1 (.t rfl) (i := 1) rfl ty39 rfl) rfl (st (.call (qE (by omega)) (.cons (.t rfl) (.cons (.cB false) .nil))) rfl (.store (.t rfl) (.t rfl) (i := 0) rfl ty41 rfl rfl (Ss' := [_, _]) rfl (M' := [(some _, zB [_, _]), _]) rfl (nl (.thn (k2 _ _ (.cv (Cv.wk (.l [2] rfl)) (.ret (rt1 (.inl rfl) Tryz.results124 rfl (.cell rfl (i := 0) rfl ty41 rfl ?_ .nil))))))))))))))))
 ·exact zN (by rw [vN]; exact bt xs)
theorem qt {m n : Bool} {xs ys : List Nat} (hx : (List.length (zA (val xs))) < 4294700000) (hy : (List.length (zA (val ys))) < 4294700000) : Ctr Tryz.prog 42 [Flat [isB m, zD xs], Flat [isB n, zD ys]] (isZ (zv m xs + zv n ys)) := by
 refine Ctr.intro Tryz.func42 rfl (by kernel_rfl) Tryz.ntmps42 rfl fun w0 F0 => .cv (Cv.wk (.l [0, 1] rfl)) (.fact (Has.okZ (Has.t (t := 0) rfl)) fun okz0 => .fact (Has.okZ (Has.t (t := 1) rfl)) fun okz1 => ?_)
 have ha := va (val xs) (val ys)
 have hb := ze (Nat.sub_le (val xs) (val ys))
 have hd := ze (Nat.sub_le (val ys) (val xs))
 refine .seq fun _ k1 => .region (.box (.t rfl) rfl fun b1 => .box (.t rfl) rfl fun b2 => .alloc [isB false, SlM isU []] zG (fun _ _ => ⟨rfl, nilM _ _, trivial⟩) rfl fun b3 => nl (.thn (k1 _ _ (.seq fun _ k2 => .seq fun _ k3 => .region (st (.fieldAddr (.t rfl) qX ty4) rfl (st (.load1 (.t rfl) (i := 2) rfl ty4 rfl) rfl (st (.fieldAddr (.t rfl) qX ty4) rfl (st (.load1 (.t rfl) (i := 1) rfl ty4 rfl) rfl (st (.eqB (du := un4) rfl (.t rfl) (.t rfl)) rfl (nl (.thn (k3 _ _ (.cv (Cv.wk (.l [2, 3, 4, 13] rfl)) (.cond (.t rfl) (fun hc1 => ?_) (fun hc1 => ?_)))))))))))))))
 ·have hc1 := BP.t hc1
  have HM : m = n := eq_of_beq hc1
  refine .seq fun _ k4 => .dr (.s [] rfl rfl rfl (.o rfl (.fieldAddr (.t rfl) qA ty39)) (.s [14] rfl rfl rfl (.o rfl (.load1 (.t rfl) (i := 2) rfl ty39 rfl)) (.s [] rfl rfl rfl (.o rfl (.fieldAddr (.t rfl) qA ty39)) (.s [16] rfl rfl rfl (.o rfl (.load1 (.t rfl) (i := 1) rfl ty39 rfl)) (.s [15, 17] rfl rfl rfl (.o rfl (.call (aI (by omega) (by omega)) (.cons (.t rfl) (.cons (.t rfl) .nil)))) (.s [] rfl rfl rfl (.o rfl (.fieldAddr (.t rfl) qX ty4)) (.s [19] rfl rfl rfl (.o rfl (.load1 (.t rfl) (i := 2) rfl ty4 rfl)) (.fin (n := 7) zR (by kernel_rfl) (by kernel_rfl) (by kernel_rfl) (.cv (Cv.wk (.l [2, 3, 4, 18, 20] rfl)) (st (.call (qE (by simp only [zC, zH]; omega)) (.cons (.t rfl) (.cons (.t rfl) .nil))) rfl ?_))))))))))
  refine .store (.t rfl) (.t rfl) (i := 0) rfl ty41 rfl rfl (Ss' := [_, _]) rfl (M' := [(some _, zB [_, _]), _, _]) rfl (nl (.thn (k4 _ _ (.ret (.thr (rt1 (.inl rfl) Tryz.results42 rfl (.cell rfl (i := 0) rfl ty41 rfl ?_ .nil)))))))
  ·exact zN (zv_add_same HM xs ys).symm
 ·have hc1 := BP.f hc1
  have HM : m ≠ n := fun e => by rw [e] at hc1; simp at hc1
  refine .skip (.thn (k2 _ _ (.seq fun _ k5 => .seq fun _ k6 => .region (st (.fieldAddr (.t rfl) qA ty39) rfl (st (.load1 (.t rfl) (i := 2) rfl ty39 rfl) rfl (st (.fieldAddr (.t rfl) qA ty39) rfl (st (.load1 (.t rfl) (i := 1) rfl ty39 rfl) rfl (st (.call (nat_Sub (by omega)) (.cons (.t rfl) (.cons (.t rfl) .nil))) rfl (st (.mv (.t rfl)) rfl (st (.ext (.t rfl) rfl) rfl (st (.ext (.t rfl) rfl) rfl (st (.as (.t rfl)) rfl (st (.as (.t rfl)) rfl (nl (.thn (k6 _ _ (.cv (Cv.wk (.l [2, 3, 4, 5, 6] rfl)) (.seq fun _ k7 => .region (st (.mv (.t rfl)) rfl (nl (.thn (k7 _ _ (.cond (.t rfl) (fun hc2 => ?_) (fun hc2 => ?_))))))))))))))))))))))))
  ·have hc2 := BP.t hc2
   have HL : val ys ≤ val xs := hc2
   refine .seq fun _ k8 => .region (st (.mv (.t rfl)) rfl (st (.fieldAddr (.t rfl) qX ty4) rfl (st (.load1 (.t rfl) (i := 2) rfl ty4 rfl) rfl (st (.call (qE (by simp only [zC, zH]; omega)) (.cons (.t rfl) (.cons (.t rfl) .nil))) rfl ?_))))
   refine .store (.t rfl) (.t rfl) (i := 0) rfl ty41 rfl rfl (Ss' := [_, _]) rfl (M' := [(some _, zB [_, _]), _, _]) rfl (nl (.thn (k8 _ _ (.cv (Cv.wk (.l [2, 3, 4] rfl)) (.ret (.thr (rt1 (.inl rfl) Tryz.results42 rfl (.cell rfl (i := 0) rfl ty41 rfl ?_ .nil))))))))
   ·exact zN (bu HM HL).symm
  ·have hc2 := BP.f hc2
   have HL : ¬ val ys ≤ val xs := (by omega)
   refine .skip (.thn (k5 _ _ (.seq fun _ k9 => .region (st (.fieldAddr (.t rfl) qA ty39) rfl (st (.load1 (.t rfl) (i := 1) rfl ty39 rfl) rfl (st (.fieldAddr (.t rfl) qA ty39) rfl (st (.load1 (.t rfl) (i := 2) rfl ty39 rfl) rfl (st (.call (nat_Sub (by omega)) (.cons (.t rfl) (.cons (.t rfl) .nil))) rfl (st (.mv (.t rfl)) rfl (st (.ext (.t rfl) rfl) rfl (st (.ext (.t rfl) rfl) rfl (st (.as (.t rfl)) rfl (st (.as (.t rfl)) rfl (nl (.thn (k9 _ _ (.cv (Cv.wk (.l [3, 4, 7] rfl)) (.seq fun _ k10 => .region (st (.mv (.t rfl)) rfl (st (.fieldAddr (.t rfl) qX ty4) rfl (st (.load1 (.t rfl) (i := 1) rfl ty4 rfl) rfl (st (.call (qE (by simp only [zC, zH]; omega)) (.cons (.t rfl) (.cons (.t rfl) .nil))) rfl ?_))))))))))))))))))))))
   refine .store (.t rfl) (.t rfl) (i := 0) rfl ty41 rfl rfl (Ss' := [_, _]) rfl (M' := [(some _, zB [_, _]), _, _]) rfl (nl (.thn (k10 _ _ (.cv (Cv.wk (.l [4] rfl)) (.ret (rt1 (.inl rfl) Tryz.results42 rfl (.cell rfl (i := 0) rfl ty41 rfl ?_ .nil)))))))
   ·exact zN (by rw [Int.add_comm]; exact (bu (fun e => HM e.symm) (by omega)).symm)
theorem vd {m n : Bool} {xs ys : List Nat} (hx : (List.length (zA (val xs))) < 4294700000) (hy : (List.length (zA (val ys))) < 4294700000) : Ctr Tryz.prog 30 [Flat [isB m, zD xs], Flat [isB n, zD ys]] (isZ (zv m xs - zv n ys)) := by
 refine Ctr.intro Tryz.func30 rfl (by kernel_rfl) Tryz.ntmps30 rfl fun w0 F0 => .cv (Cv.wk (.l [0, 1] rfl)) (.fact (Has.okZ (Has.t (t := 0) rfl)) fun okz0 => .fact (Has.okZ (Has.t (t := 1) rfl)) fun okz1 => .seq fun _ k1 => .region (.box (.t rfl) rfl fun b1 => .box (.t rfl) rfl fun b2 => .alloc [isB false, SlM isU []] zG (fun _ _ => ⟨rfl, nilM _ _, trivial⟩) rfl fun b3 => nl (.thn (k1 _ _ (.seq fun _ k2 => .dr (.s [] rfl rfl rfl (.o rfl (.load (.t rfl) (i := 2) rfl ty41 rfl (Ss' := [_, _]) rfl)) (.s [] rfl rfl rfl (.o rfl (.load (.t rfl) (i := 1) rfl ty41 rfl (Ss' := [_, _]) rfl)) (.s [6] rfl rfl rfl (.o rfl (.call (xk (by omega)) (.cons (.t rfl) .nil))) (.fin (n := 3) zR (by kernel_rfl) (by kernel_rfl) (by kernel_rfl) (.cv (Cv.wk (.l [4, 5, 7] rfl)) (st (.call (qt (by omega) (by simp only [zC]; rw [Int.natAbs_neg, vN]; omega)) (.cons (.t rfl) (.cons (.t rfl) .nil))) rfl ?_)))))))))))
 refine .store (.t rfl) (.t rfl) (i := 0) rfl ty41 rfl rfl (Ss' := [_, _]) rfl (M' := [(some _, zB [_, _]), _, _]) rfl (nl (.thn (k2 _ _ (.ret (rt1 (.inl rfl) Tryz.results30 rfl (.cell rfl (i := 0) rfl ty41 rfl ?_ .nil))))))
 ·exact zN (by rw [zH]; omega)
theorem qT {m n : Bool} {xs ys : List Nat} (hx : (List.length (zA (val xs))) ≤ 1000000000) (hy : (List.length (zA (val ys))) ≤ 1000000000) : Ctr Tryz.prog 31 [Flat [isB m, zD xs], Flat [isB n, zD ys]] (isZ (zv m xs * zv n ys)) := by
 refine Ctr.intro Tryz.func31 rfl (by kernel_rfl) Tryz.ntmps31 rfl fun w0 F0 => .cv (Cv.wk (.l [0, 1] rfl)) (.fact (Has.okZ (Has.t (t := 0) rfl)) fun okz0 => .fact (Has.okZ (Has.t (t := 1) rfl)) fun okz1 => ?_)
 have hm := jQ (val xs) (val ys)
 refine .seq fun _ k1 => .region (.box (.t rfl) rfl fun b1 => .box (.t rfl) rfl fun b2 => .alloc [isB false, SlM isU []] zG (fun _ _ => ⟨rfl, nilM _ _, trivial⟩) rfl fun b3 => nl (.thn (k1 _ _ (.seq fun _ k2 => .dr (.s [] rfl rfl rfl (.o rfl (.fieldAddr (.t rfl) qA ty39)) (.s [5] rfl rfl rfl (.o rfl (.load1 (.t rfl) (i := 2) rfl ty39 rfl)) (.s [] rfl rfl rfl (.o rfl (.fieldAddr (.t rfl) qA ty39)) (.s [7] rfl rfl rfl (.o rfl (.load1 (.t rfl) (i := 1) rfl ty39 rfl)) (.s [6, 8] rfl rfl rfl (.o rfl (.call (mul_Mul hx hy) (.cons (.t rfl) (.cons (.t rfl) .nil)))) (.s [] rfl rfl rfl (.o rfl (.fieldAddr (.t rfl) qX ty4)) (.s [10] rfl rfl rfl (.o rfl (.load1 (.t rfl) (i := 2) rfl ty4 rfl)) (.s [] rfl rfl rfl (.o rfl (.fieldAddr (.t rfl) qX ty4)) (.s [12] rfl rfl rfl (.o rfl (.load1 (.t rfl) (i := 1) rfl ty4 rfl)) (.s [11, 13] rfl rfl rfl (.o rfl (.neB (du := un4) rfl (.t rfl) (.t rfl))) (.fin (n := 10) zR (by kernel_rfl) (by kernel_rfl) (by kernel_rfl) (.cv (Cv.wk (.l [4, 9, 14] rfl)) (st (.call (qE (by simp only [zC, zH]; omega)) (.cons (.t rfl) (.cons (.t rfl) .nil))) rfl ?_)))))))))))))))))
 refine .store (.t rfl) (.t rfl) (i := 0) rfl ty41 rfl rfl (Ss' := [_, _]) rfl (M' := [(some _, zB [_, _]), _, _]) rfl (nl (.thn (k2 _ _ (.ret (rt1 (.inl rfl) Tryz.results31 rfl (.cell rfl (i := 0) rfl ty41 rfl ?_ .nil))))))
 ·exact zN (zv_mul m n xs ys).symm
theorem aC {m n : Bool} {xs ys : List Nat} (hx : (List.length (zA (val xs))) < 4294700000) (hy : (List.length (zA (val ys))) < 4294700000) : Ctr Tryz.prog 110 [Flat [isB m, zD xs], Flat [isB n, zD ys]] (zQ [isZ ((zv m xs).tdiv (zv n ys)), isZ (if zv n ys = 0 then 0 else (zv m xs).tmod (zv n ys)), isB (decide (zv n ys ≠ 0))]) := by
 refine Ctr.intro Tryz.func110 rfl (by kernel_rfl) Tryz.ntmps110 rfl fun w0 F0 => .cv (Cv.wk (.l [0, 1] rfl)) (.fact (Has.okZ (Has.t (t := 0) rfl)) fun okz0 => .fact (Has.okZ (Has.t (t := 1) rfl)) fun okz1 => ?_)
 have ha := ze (Nat.div_le_self (val xs) (val ys))
 have hb : (List.length (zA (if val ys = 0 then 0 else val xs % val ys))) ≤ (List.length (zA (val xs))) := ze (by split; exact Nat.zero_le _; exact Nat.mod_le _ _)
 refine .seq fun _ k1 => .region (.box (.t rfl) rfl fun b1 => .box (.t rfl) rfl fun b2 => .alloc [isB false, SlM isU []] zG (fun _ _ => ⟨rfl, nilM _ _, trivial⟩) rfl fun b3 => .alloc [isB false, SlM isU []] zG (fun _ _ => ⟨rfl, nilM _ _, trivial⟩) rfl fun b4 => st (.as (.cB false)) rfl (nl (.thn (k1 _ _ (.seq fun _ k2 => .region (st (.fieldAddr (.t rfl) qA ty39) rfl (st (.load1 (.t rfl) (i := 3) rfl ty39 rfl) rfl (st (.fieldAddr (.t rfl) qA ty39) rfl (st (.load1 (.t rfl) (i := 2) rfl ty39 rfl) rfl (st (.call (dF (by omega) (by omega)) (.cons (.t rfl) (.cons (.t rfl) .nil))) rfl (st (.mv (.t rfl)) rfl (st (.ext (.t rfl) rfl) rfl (st (.ext (.t rfl) rfl) rfl (st (.ext (.t rfl) rfl) rfl (st (.as (.t rfl)) rfl (st (.as (.t rfl)) rfl (st (.as (.t rfl)) rfl (nl (.thn (k2 _ _ (.cv (Cv.wk (.l [2, 3, 4, 5, 6, 7, 8, 9] rfl)) (.seq fun _ k3 => .drh [false, false, true, true] (Ms := [_, _]) rfl (.s [] rfl rfl rfl (.o rfl (.mv (.t rfl))) (.s [] rfl rfl rfl (.o rfl (.fieldAddr (.t rfl) qX ty4)) (.s [20] rfl rfl rfl (.o rfl (.load1 (.t rfl) (i := 1) rfl ty4 rfl)) (.s [] rfl rfl rfl (.o rfl (.fieldAddr (.t rfl) qX ty4)) (.s [22] rfl rfl rfl (.o rfl (.load1 (.t rfl) (i := 0) rfl ty4 rfl)) (.s [21, 23] rfl rfl rfl (.o rfl (.neB (du := un4) rfl (.t rfl) (.t rfl))) (.s [19, 24] rfl rfl rfl (.o rfl (.call (qE (by simp only [zC, zH]; omega)) (.cons (.t rfl) (.cons (.t rfl) .nil)))) ?_)))))))))))))))))))))))))))))
 refine .s [] rfl rfl rfl (.o rfl (.mv (.t rfl))) (.s [] rfl rfl rfl (.o rfl (.fieldAddr (.t rfl) qX ty4)) (.s [27] rfl rfl rfl (.o rfl (.load1 (.t rfl) (i := 1) rfl ty4 rfl)) (.s [26, 28] rfl rfl rfl (.o rfl (.call (qE (by simp only [zC, zH]; omega)) (.cons (.t rfl) (.cons (.t rfl) .nil)))) ?_)))
 refine .s [] rfl rfl rfl (.o rfl (.mv (.t rfl))) (.mid2 (.cons _ (.cons _ (.cons_cons _ (.cons_cons _ .slnil)))) (.st0 [25] rfl rfl (by kernel_rfl) (by kernel_rfl) (StS.store (.t rfl) (.t rfl) (i := 1) rfl ty41 rfl rfl (Ss' := [_, _]) rfl (M' := [_, (some _, zB [_, _]), _, _]) rfl) (.cons _ (.cons _ (.cons_cons _ (.cons_cons _ .slnil)))) (.st0 [29] rfl rfl (by kernel_rfl) (by kernel_rfl) (StS.store (.t rfl) (.t rfl) (i := 0) rfl ty41 rfl rfl (Ss' := [_, _]) rfl (M' := [(some _, zB [_, _]), _, _, _]) rfl) (.cons _ (.cons _ (.cons_cons _ (.cons_cons _ .slnil)))) (.fin0 (n := 14) zR rfl (by kernel_rfl) (by kernel_rfl) (by kernel_rfl) (.cv (Cv.wk (.l [4, 5, 6, 30] rfl)) (st (.as (.t rfl)) rfl (nl (.thn (k3 _ _ (.ret (rtN (.inl rfl) Tryz.results110 rfl rfl (.cell rfl (i := 1) rfl ty41 rfl ?_ (.cell rfl (i := 0) rfl ty41 rfl ?_ (.tmp (Has.t' rfl ?_) .nil))))))))))))))
 ·exact zN (zv_tdiv m n xs ys).symm
 ·exact zN (quo_rest m n xs ys)
 ·exact zU (ne_zv n ys)
theorem aB  : Ctr Tryz.prog 111 [] (isZ 1) := by
 refine Ctr.intro Tryz.func111 rfl (by kernel_rfl) Tryz.ntmps111 rfl fun w0 F0 => .cv (Cv.wk .nil) (.seq fun _ k1 => .region (.alloc [isB false, SlM isU []] zG (fun _ _ => ⟨rfl, nilM _ _, trivial⟩) rfl fun b1 => nl (.thn (k1 _ _ (.seq fun _ k2 => .region (st (.call (qi) (.cons (.cI 1 rfl) .nil)) rfl (.store (.t rfl) (.t rfl) (i := 0) rfl ty41 rfl rfl (Ss' := [_, _]) rfl (M' := [(some _, zB [_, _])]) rfl (nl (.thn (k2 _ _ (.ret (rt1 (.inl rfl) Tryz.results111 rfl (.cell rfl (i := 0) rfl ty41 rfl ?_ .nil)))))))))))))
 all_goals (rfl)
theorem zint_Euclid {m n : Bool} {xs ys : List Nat} (hx : (List.length (zA (val xs))) < 4294700000) (hy : (List.length (zA (val ys))) < 4294700000) : Ctr Tryz.prog 126 [Flat [isB m, zD xs], Flat [isB n, zD ys]] (zQ [isZ (zv m xs / zv n ys), isZ (if zv n ys = 0 then 0 else zv m xs % zv n ys), isB (decide (zv n ys ≠ 0))]) := by
 refine Ctr.intro Tryz.func126 rfl (by kernel_rfl) Tryz.ntmps126 rfl fun w0 F0 => .cv (Cv.wk (.l [0, 1] rfl)) (.fact (Has.okZ (Has.t (t := 0) rfl)) fun okz0 => .fact (Has.okZ (Has.t (t := 1) rfl)) fun okz1 => ?_)
 have ha := vu (zv m xs) (zv n ys)
 have hb := nz_if (zv m xs) (zv n ys)
 have hxx := xZ m xs
 have hyy := xZ n ys
 have h1 := ca
 refine .seq fun _ k1 => .region (.box (.t rfl) rfl fun b1 => .box (.t rfl) rfl fun b2 => .alloc [isB false, SlM isU []] zG (fun _ _ => ⟨rfl, nilM _ _, trivial⟩) rfl fun b3 => .alloc [isB false, SlM isU []] zG (fun _ _ => ⟨rfl, nilM _ _, trivial⟩) rfl fun b4 => st (.as (.cB false)) rfl (nl (.thn (k1 _ _ (.seq fun _ k2 => .region (st (.load (.t rfl) (i := 3) rfl ty41 rfl (Ss' := [_, _]) rfl) rfl (st (.load (.t rfl) (i := 2) rfl ty41 rfl (Ss' := [_, _]) rfl) rfl (st (.call (aC (by with_reducible assumption) (by with_reducible assumption)) (.cons (.t rfl) (.cons (.t rfl) .nil))) rfl (st (.mv (.t rfl)) rfl (st (.ext (.t rfl) rfl) rfl (st (.ext (.t rfl) rfl) rfl (st (.ext (.t rfl) rfl) rfl (.alloc [isB false, SlM isU []] zG (fun _ _ => ⟨rfl, nilM _ _, trivial⟩) rfl fun b5 => .alloc [isB false, SlM isU []] zG (fun _ _ => ⟨rfl, nilM _ _, trivial⟩) rfl fun b6 => .store (.t rfl) (.t rfl) (i := 1) rfl ty41 rfl rfl (Ss' := [_, _]) rfl (M' := [_, (some _, zB [_, _]), _, _, _, _]) rfl (.store (.t rfl) (.t rfl) (i := 0) rfl ty41 rfl rfl (Ss' := [_, _]) rfl (M' := [(some _, zB [_, _]), _, _, _, _, _]) rfl (st (.as (.t rfl)) rfl (nl (.thn (k2 _ _ (.cv (Cv.wk (.l [3, 4, 5, 6, 7, 8, 9] rfl)) (.seq fun _ k3 => .block (.seq fun _ k4 => .region (st (.mv (.t rfl)) rfl (st (.not (.t rfl)) rfl (st (.mv (.t rfl)) rfl (stF rfl rfl (fun hg => .load (.t rfl) (i := 0) rfl ty41 rfl (Ss' := [_, _]) rfl) rfl ?_)))))))))))))))))))))))))
 refine stF rfl rfl (fun hg => have hg' := BP.t hg; OK1.eq (.call (zd (by simp only [zC, zH]; omega)) (.cons (Has.g rfl hg) .nil)) (by simp only [zC, zH]; rfl)) rfl ?_
 refine stF rfl rfl (fun hg => .geI (Has.g rfl hg) (.cI 0 rfl)) rfl (st (.pickOr (.t rfl) (fun h => Has.g rfl (ng h))) rfl (st (.as (.t rfl)) rfl (nl (.thn (k4 _ _ (.cv (Cv.wk (.l [3, 4, 5, 6, 7, 8, 9, 17] rfl)) (.cond (.t rfl) (fun hc1 => ?_) (fun hc1 => ?_))))))))
 ·have hc1 := BP.t hc1
  have HE := euc0 hc1
  refine .seq fun _ k5 => .drh [true, true, false, false, true, true] (Ms := [_, _, _, _]) rfl (.s [] rfl rfl rfl (.o rfl (.load (.t rfl) (i := 1) rfl ty41 rfl (Ss' := [_, _]) rfl)) (.s [] rfl rfl rfl (.o rfl (.load (.t rfl) (i := 0) rfl ty41 rfl (Ss' := [_, _]) rfl)) (.s [] rfl rfl rfl (.o rfl (.mv (.t rfl))) (.mid2 (.cons_cons _ (.cons_cons _ (.cons _ (.cons _ (.cons_cons _ (.cons_cons _ .slnil)))))) (.st0 [25] rfl rfl (by kernel_rfl) (by kernel_rfl) (StS.store (.t rfl) (.t rfl) (i := 3) rfl ty41 rfl rfl (Ss' := [_, _]) rfl (M' := [_, _, _, (some _, zB [_, _]), _, _]) rfl) (.cons_cons _ (.cons_cons _ (.cons _ (.cons _ (.cons_cons _ (.cons_cons _ .slnil)))))) (.st0 [26] rfl rfl (by kernel_rfl) (by kernel_rfl) (StS.store (.t rfl) (.t rfl) (i := 2) rfl ty41 rfl rfl (Ss' := [_, _]) rfl (M' := [_, _, (some _, zB [_, _]), _, _, _]) rfl) (.cons_cons _ (.cons_cons _ (.cons _ (.cons _ (.cons_cons _ (.cons_cons _ .slnil)))))) (.fin0 (n := 5) zR rfl (by kernel_rfl) (by kernel_rfl) (by kernel_rfl) (.cv (Cv.wk (.l [3, 4, 5, 6, 7, 8, 27] rfl)) (st (.as (.t rfl)) rfl (nl (.thn (k5 _ _ (.ret (.blr (.thr (rtN (.inl rfl) Tryz.results126 rfl rfl (.cell rfl (i := 3) rfl ty41 rfl ?_ (.cell rfl (i := 2) rfl ty41 rfl ?_ (.tmp (Has.t' rfl ?_) .nil)))))))))))))))))))
  ·exact zN HE.1
  ·exact zN HE.2
  ·rfl
 ·have hc1 := BP.f hc1
  have HE := hc1
  refine .seq fun _ k6 => .region (st (.load (.t rfl) (i := 4) rfl ty41 rfl (Ss' := [_, _]) rfl) rfl (st (.call (zd (by omega)) (.cons (.t rfl) .nil)) rfl (st (.gtI (.t rfl) (.cI 0 rfl)) rfl (st (.as (.t rfl)) rfl (nl (.thn (k6 _ _ (.cv (Cv.wk (.l [3, 4, 5, 6, 7, 8, 28] rfl)) (.cond (.t rfl) (fun hc2 => ?_) (fun hc2 => ?_))))))))))
  ·have hc2 := BP.t hc2
   have HE2 := euc1 HE hc2
   refine .seq fun _ k7 => .dr (.s [] rfl rfl rfl (.o rfl (.load (.t rfl) (i := 1) rfl ty41 rfl (Ss' := [_, _]) rfl)) (.s [] rfl rfl rfl (.o rfl (.call (aB) .nil)) (.s [32, 33] rfl rfl rfl (.o rfl (.eq (.call (vd (by simp only [zC, zH]; omega) (by simp only [zC, zH]; omega)) (.cons (.t rfl) (.cons (.t rfl) .nil))) (by simp only [zC, zH]; rfl))) ?_)))
   refine .s [] rfl rfl rfl (.o rfl (.load (.t rfl) (i := 0) rfl ty41 rfl (Ss' := [_, _]) rfl)) (.s [] rfl rfl rfl (.o rfl (.load (.t rfl) (i := 4) rfl ty41 rfl (Ss' := [_, _]) rfl)) (.fin (n := 5) zR (by kernel_rfl) (by kernel_rfl) (by kernel_rfl) (.cv (Cv.wk (.l [3, 4, 5, 6, 7, 8, 34, 35, 36] rfl)) (st (.eq (.call (qt (by simp only [zC, zH]; omega) (by with_reducible assumption)) (.cons (.t rfl) (.cons (.t rfl) .nil))) (by simp only [zC, zH]; rfl)) rfl ?_))))
   refine .store (.t rfl) (.t rfl) (i := 3) rfl ty41 rfl rfl (Ss' := [_, _]) rfl (M' := [_, _, _, (some _, zB [_, _]), _, _]) rfl (.store (.t rfl) (.t rfl) (i := 2) rfl ty41 rfl rfl (Ss' := [_, _]) rfl (M' := [_, _, (some _, zB [_, _]), _, _, _]) rfl (st (.as (.cB true)) rfl (nl (.thn (k7 _ _ (.ret (.blr (.thr (rtN (.inl rfl) Tryz.results126 rfl rfl (.cell rfl (i := 3) rfl ty41 rfl ?_ (.cell rfl (i := 2) rfl ty41 rfl ?_ (.tmp (Has.t' rfl ?_) .nil))))))))))))
   ·exact zN HE2.1
   ·exact zN HE2.2
   ·exact zU (decide_eq_true HE.1).symm
  ·have hc2 := BP.f hc2
   have HE2 := euc2 HE hc2
   refine .skip (.bln (.thn (k3 _ _ (.seq fun _ k8 => .dr (.s [] rfl rfl rfl (.o rfl (.load (.t rfl) (i := 1) rfl ty41 rfl (Ss' := [_, _]) rfl)) (.s [] rfl rfl rfl (.o rfl (.call (aB) .nil)) (.s [38, 39] rfl rfl rfl (.o rfl (.eq (.call (qt (by simp only [zC, zH]; omega) (by simp only [zC, zH]; omega)) (.cons (.t rfl) (.cons (.t rfl) .nil))) (by simp only [zC, zH]; rfl))) ?_)))))))
   refine .s [] rfl rfl rfl (.o rfl (.load (.t rfl) (i := 0) rfl ty41 rfl (Ss' := [_, _]) rfl)) (.s [] rfl rfl rfl (.o rfl (.load (.t rfl) (i := 4) rfl ty41 rfl (Ss' := [_, _]) rfl)) (.fin (n := 5) zR (by kernel_rfl) (by kernel_rfl) (by kernel_rfl) (.cv (Cv.wk (.l [4, 5, 6, 40, 41, 42] rfl)) (st (.eq (.call (vd (by simp only [zC, zH]; omega) (by with_reducible assumption)) (.cons (.t rfl) (.cons (.t rfl) .nil))) (by simp only [zC, zH]; rfl)) rfl ?_))))
   refine .store (.t rfl) (.t rfl) (i := 3) rfl ty41 rfl rfl (Ss' := [_, _]) rfl (M' := [_, _, _, (some _, zB [_, _]), _, _]) rfl (.store (.t rfl) (.t rfl) (i := 2) rfl ty41 rfl rfl (Ss' := [_, _]) rfl (M' := [_, _, (some _, zB [_, _]), _, _, _]) rfl (st (.as (.cB true)) rfl (nl (.thn (k8 _ _ (.ret (rtN (.inl rfl) Tryz.results126 rfl rfl (.cell rfl (i := 3) rfl ty41 rfl ?_ (.cell rfl (i := 2) rfl ty41 rfl ?_ (.tmp (Has.t' rfl ?_) .nil))))))))))
   ·exact zN HE2.1
   ·exact zN HE2.2
   ·exact zU (decide_eq_true HE.1).symm
theorem xC {m n : Bool} {xs ys : List Nat} (hx : (List.length (zA (val xs))) < 4294700000) (hy : (List.length (zA (val ys))) < 4294700000) : Ctr Tryz.prog 96 [Flat [isB m, zD xs], Flat [isB n, zD ys]] (zQ [isZ (if zv n ys ≠ 0 ∧ (zv m xs).tmod (zv n ys) = 0 then (zv m xs).tdiv (zv n ys) else 0), isB (decide (zv n ys ≠ 0 ∧ (zv m xs).tmod (zv n ys) = 0))]) := by
 refine Ctr.intro Tryz.func96 rfl (by kernel_rfl) Tryz.ntmps96 rfl fun w0 F0 => .cv (Cv.wk (.l [0, 1] rfl)) (.fact (Has.okZ (Has.t (t := 0) rfl)) fun okz0 => .fact (Has.okZ (Has.t (t := 1) rfl)) fun okz1 => ?_)
 have ha := vu (zv m xs) (zv n ys)
 have hb := nz_if (zv m xs) (zv n ys)
 have hxx := xZ m xs
 have hyy := xZ n ys
 have h1 := ca
 refine .seq fun _ k1 => .region (.box (.t rfl) rfl fun b1 => .box (.t rfl) rfl fun b2 => .alloc [isB false, SlM isU []] zG (fun _ _ => ⟨rfl, nilM _ _, trivial⟩) rfl fun b3 => st (.as (.cB false)) rfl (nl (.thn (k1 _ _ (.seq fun _ k2 => .region (st (.load (.t rfl) (i := 2) rfl ty41 rfl (Ss' := [_, _]) rfl) rfl (st (.load (.t rfl) (i := 1) rfl ty41 rfl (Ss' := [_, _]) rfl) rfl (st (.call (aC (by with_reducible assumption) (by with_reducible assumption)) (.cons (.t rfl) (.cons (.t rfl) .nil))) rfl (st (.mv (.t rfl)) rfl (st (.ext (.t rfl) rfl) rfl (st (.ext (.t rfl) rfl) rfl (st (.ext (.t rfl) rfl) rfl (.alloc [isB false, SlM isU []] zG (fun _ _ => ⟨rfl, nilM _ _, trivial⟩) rfl fun b4 => .alloc [isB false, SlM isU []] zG (fun _ _ => ⟨rfl, nilM _ _, trivial⟩) rfl fun b5 => .store (.t rfl) (.t rfl) (i := 1) rfl ty41 rfl rfl (Ss' := [_, _]) rfl (M' := [_, (some _, zB [_, _]), _, _, _]) rfl (.store (.t rfl) (.t rfl) (i := 0) rfl ty41 rfl rfl (Ss' := [_, _]) rfl (M' := [(some _, zB [_, _]), _, _, _, _]) rfl (st (.as (.t rfl)) rfl (nl (.thn (k2 _ _ (.cv (Cv.wk (.l [4, 5, 6, 7, 8] rfl)) (.seq fun _ k3 => .seq fun _ k4 => .region (st (.mv (.t rfl)) rfl (st (.not (.t rfl)) rfl (st (.mv (.t rfl)) rfl (stF rfl rfl (fun hg => .load (.t rfl) (i := 0) rfl ty41 rfl (Ss' := [_, _]) rfl) rfl ?_))))))))))))))))))))))))
 refine stF rfl rfl (fun hg => have hg' := BP.t hg; OK1.eq (.call (zd (by simp only [zC, zH]; omega)) (.cons (Has.g rfl hg) .nil)) (by simp only [zC, zH]; rfl)) rfl ?_
 refine stF rfl rfl (fun hg => .neI (Has.g rfl hg) (.cI 0 rfl)) rfl (st (.pickOr (.t rfl) (fun h => Has.g rfl (ng h))) rfl (nl (.thn (k4 _ _ (.cv (Cv.wk (.l [4, 5, 6, 22] rfl)) (.cond (.t rfl) (fun hc1 => ?_) (fun hc1 => ?_)))))))
 ·have hc1 := BP.t hc1
  have HE := ex_no hc1
  refine .seq fun _ k5 => .region (st (.eq (.build [isB false, SlM isU []] pl41 zG (fun _ _ => ⟨rfl, nilM _ _, trivial⟩) .nil (Z'' := [_, _]) rfl) (isZ0)) rfl (.store (.t rfl) (.t rfl) (i := 2) rfl ty41 rfl rfl (Ss' := [_, _]) rfl (M' := [_, _, (some _, zB [_, _]), _, _]) rfl (st (.as (.cB false)) rfl (nl (.thn (k5 _ _ (.ret (.thr (rtN (.inl rfl) Tryz.results96 rfl rfl (.cell rfl (i := 2) rfl ty41 rfl ?_ (.tmp (Has.t' rfl ?_) .nil)))))))))))
  ·exact zN (if_neg HE).symm
  ·exact zU (decide_eq_false HE).symm
 ·have hc1 := BP.f hc1
  have HE := ex_yes hc1
  refine .skip (.thn (k3 _ _ (.seq fun _ k6 => .region (st (.load (.t rfl) (i := 1) rfl ty41 rfl (Ss' := [_, _]) rfl) rfl (.store (.t rfl) (.t rfl) (i := 2) rfl ty41 rfl rfl (Ss' := [_, _]) rfl (M' := [_, _, (some _, zB [_, _]), _, _]) rfl (st (.as (.cB true)) rfl (nl (.thn (k6 _ _ (.ret (rtN (.inl rfl) Tryz.results96 rfl rfl (.cell rfl (i := 2) rfl ty41 rfl ?_ (.tmp (Has.t' rfl ?_) .nil)))))))))))))
  ·exact zN (if_pos HE).symm
  ·exact zU (decide_eq_true HE).symm
theorem zint_Gcd {m n : Bool} {xs ys : List Nat} (hx : (List.length (zA (val xs))) < 4294700000) (hy : (List.length (zA (val ys))) < 4294700000) : Ctr Tryz.prog 95 [Flat [isB m, zD xs], Flat [isB n, zD ys]] (isZ ((Nat.gcd (val xs) (val ys) : Nat) : Int)) := by
 refine Ctr.intro Tryz.func95 rfl (by kernel_rfl) Tryz.ntmps95 rfl fun w0 F0 => .cv (Cv.wk (.l [0, 1] rfl)) (.fact (Has.okZ (Has.t (t := 0) rfl)) fun okz0 => .fact (Has.okZ (Has.t (t := 1) rfl)) fun okz1 => ?_)
 have hg := Nat.le_trans (ze (ct (val xs) (val ys))) (cb _ _)
 refine .seq fun _ k1 => .region (.box (.t rfl) rfl fun b1 => .box (.t rfl) rfl fun b2 => .alloc [isB false, SlM isU []] zG (fun _ _ => ⟨rfl, nilM _ _, trivial⟩) rfl fun b3 => nl (.thn (k1 _ _ (.seq fun _ k2 => .region (st (.fieldAddr (.t rfl) qA ty39) rfl (st (.load1 (.t rfl) (i := 2) rfl ty39 rfl) rfl (st (.fieldAddr (.t rfl) qA ty39) rfl (st (.load1 (.t rfl) (i := 1) rfl ty39 rfl) rfl (st (.call (div_Gcd (by omega) (by omega)) (.cons (.t rfl) (.cons (.t rfl) .nil))) rfl (st (.call (qE (by simp only [zC, zH]; omega)) (.cons (.t rfl) (.cons (.cB false) .nil))) rfl ?_))))))))))
 refine .store (.t rfl) (.t rfl) (i := 0) rfl ty41 rfl rfl (Ss' := [_, _]) rfl (M' := [(some _, zB [_, _]), _, _]) rfl (nl (.thn (k2 _ _ (.cv (Cv.wk (.l [4] rfl)) (.ret (rt1 (.inl rfl) Tryz.results95 rfl (.cell rfl (i := 0) rfl ty41 rfl ?_ .nil)))))))
 ·exact zN (by rw [we, if_neg (by decide)])
theorem dR {m n : Bool} {xs ys : List Nat} (hx : (List.length (zA (val xs))) ≤ 100000000) (hy : (List.length (zA (val ys))) ≤ 100000000) : Ctr Tryz.prog 125 [Flat [isB m, zD xs], Flat [isB n, zD ys]] (zQ [isZ (cof (zv m xs) (zv n ys) 1 0).1, isZ (cof (zv m xs) (zv n ys) 1 0).2]) := by
 refine Ctr.intro Tryz.func125 rfl (by kernel_rfl) Tryz.ntmps125 rfl fun w0 F0 => .cv (Cv.wk (.l [0, 1] rfl)) (.fact (Has.okZ (Has.t (t := 0) rfl)) fun okz0 => .fact (Has.okZ (Has.t (t := 1) rfl)) fun okz1 => ?_)
 have hxx := xZ m xs
 have hyy := xZ n ys
 refine .seq fun _ k1 => .region (.box (.t rfl) rfl fun b1 => .box (.t rfl) rfl fun b2 => .alloc [isB false, SlM isU []] zG (fun _ _ => ⟨rfl, nilM _ _, trivial⟩) rfl fun b3 => .alloc [isB false, SlM isU []] zG (fun _ _ => ⟨rfl, nilM _ _, trivial⟩) rfl fun b4 => nl (.thn (k1 _ _ (.seq fun _ k2 => .region (st (.call (aB) .nil) rfl (st (.eq (.build [isB false, SlM isU []] pl41 zG (fun _ _ => ⟨rfl, nilM _ _, trivial⟩) .nil (Z'' := [_, _]) rfl) (isZ0)) rfl (.alloc [isB false, SlM isU []] zG (fun _ _ => ⟨rfl, nilM _ _, trivial⟩) rfl fun b5 => .alloc [isB false, SlM isU []] zG (fun _ _ => ⟨rfl, nilM _ _, trivial⟩) rfl fun b6 => .store (.t rfl) (.t rfl) (i := 1) rfl ty41 rfl rfl (Ss' := [_, _]) rfl (M' := [_, (some _, zB [_, _]), _, _, _, _]) rfl (.store (.t rfl) (.t rfl) (i := 0) rfl ty41 rfl rfl (Ss' := [_, _]) rfl (M' := [(some _, zB [_, _]), _, _, _, _, _]) rfl (nl (.thn (k2 _ _ (.seq fun _ k3 => .dr (.s [] rfl rfl rfl (.o rfl (.fieldAddr (.t rfl) qA ty39)) (.s [13] rfl rfl rfl (.o rfl (.load1 (.t rfl) (i := 5) rfl ty39 rfl)) (.s [] rfl rfl rfl (.o rfl (.fieldAddr (.t rfl) qX ty4)) (.s [15] rfl rfl rfl (.o rfl (.load1 (.t rfl) (i := 5) rfl ty4 rfl)) (.s [14, 16] rfl rfl rfl (.o rfl (.call (qE (by omega)) (.cons (.t rfl) (.cons (.t rfl) .nil)))) (.s [] rfl rfl rfl (.o rfl (.fieldAddr (.t rfl) qA ty39)) (.s [18] rfl rfl rfl (.o rfl (.load1 (.t rfl) (i := 4) rfl ty39 rfl)) (.s [] rfl rfl rfl (.o rfl (.fieldAddr (.t rfl) qX ty4)) (.s [20] rfl rfl rfl (.o rfl (.load1 (.t rfl) (i := 4) rfl ty4 rfl)) (.fin (n := 9) zR (by kernel_rfl) (by kernel_rfl) (by kernel_rfl) (.cv (Cv.wk (.l [2, 3, 4, 5, 6, 7, 17, 19, 21] rfl)) ?_)))))))))))))))))))))))
 refine st (.call (qE (by omega)) (.cons (.t rfl) (.cons (.t rfl) .nil))) rfl (.store (.t rfl) (.t rfl) (i := 5) rfl ty41 rfl rfl (Ss' := [_, _]) rfl (M' := [_, _, _, _, _, (some _, zB [_, _])]) rfl (.store (.t rfl) (.t rfl) (i := 4) rfl ty41 rfl rfl (Ss' := [_, _]) rfl (M' := [_, _, _, _, (some _, zB [_, _]), _]) rfl (nl (.thn (k3 _ _ (.seq fun _ k4 => .block (.loopF [2, 3, 4, 5, 6, 7] (fun (z : { z : Int × Int × Int × Int × Nat × Nat // Cf (zv m xs) (zv n ys) z.1 z.2.1 z.2.2.1 z.2.2.2.1 z.2.2.2.2.1 z.2.2.2.2.2 ∧ cof z.1 z.2.1 z.2.2.1 z.2.2.2.1 = cof (zv m xs) (zv n ys) 1 0 }) => match z with | ⟨(a, b, x, nx, X, Y), hI⟩ => []) (fun M => fun (z : { z : Int × Int × Int × Int × Nat × Nat // Cf (zv m xs) (zv n ys) z.1 z.2.1 z.2.2.1 z.2.2.2.1 z.2.2.2.2.1 z.2.2.2.2.2 ∧ cof z.1 z.2.1 z.2.2.1 z.2.2.2.1 = cof (zv m xs) (zv n ys) 1 0 }) => match z with | ⟨(a, b, x, nx, X, Y), hI⟩ => [zM b6 nx, zM b5 x, (some b4, zB [isB false, SlM isU []]), (some b3, zB [isB false, SlM isU []]), zM b2 b, zM b1 a]) (fun (z : { z : Int × Int × Int × Int × Nat × Nat // Cf (zv m xs) (zv n ys) z.1 z.2.1 z.2.2.1 z.2.2.2.1 z.2.2.2.2.1 z.2.2.2.2.2 ∧ cof z.1 z.2.1 z.2.2.1 z.2.2.2.1 = cof (zv m xs) (zv n ys) 1 0 }) => match z with | ⟨(a, b, x, nx, X, Y), hI⟩ => b.natAbs) (⟨(zv m xs, zv n ys, 1, 0, 1, 0), Cf.start _ _, rfl⟩) (Cv.mem (.l [2, 3, 4, 5, 6, 7] rfl) ?_) ?_)))))))
 ·rfl
 rintro ⟨⟨a, b, x, nx, X, Y⟩, hI⟩ K5 hK5
 refine .cv (Cv.wk (.l [2, 3, 4, 5, 6, 7] rfl)) (.memEq (M' := [zM b6 nx, zM b5 x, (some b4, zB [isB false, SlM isU []]), (some b3, zB [isB false, SlM isU []]), zM b2 b, zM b1 a]) rfl ?_)
 simp only [] at hI
 obtain ⟨hC, hcof⟩ := hI
 have za := Nat.le_trans (ze hC.a1) (cb _ _)
 have zb := ze hC.b1
 have zx := Nat.le_trans (ze (Nat.le_trans hC.x hC.X1)) (cb _ _)
 have zn := ze (Nat.le_trans hC.y hC.Y1)
 have h1 := fC
 have zq := vu a b
 have zr := nz_tmod a b
 refine .seq fun _ k6 => .seq fun _ k7 => .region (st (.load (.t rfl) (i := 4) rfl ty41 rfl (Ss' := [_, _]) rfl) rfl (st (.eq (.call (zd (by simp only [zC, zH]; omega)) (.cons (.t rfl) .nil)) (by simp only [zC, zH]; rfl)) rfl ?_))
 refine st (.neI (.t rfl) (.cI 0 rfl)) rfl (nl (.thn (k7 _ _ (.cond (.t rfl) (fun hc1 => ?_) (fun hc1 => ?_)))))
 ·have hc1 := BP.t hc1
  have hb : b ≠ 0 := fun e => hc1 (by rw [qn]; exact e)
  have zm := qD (a.tdiv b) nx
  refine .skip (.thn (k6 _ _ (.block (.seq fun _ k8 => .region (st (.load (.t rfl) (i := 5) rfl ty41 rfl (Ss' := [_, _]) rfl) rfl (st (.load (.t rfl) (i := 4) rfl ty41 rfl (Ss' := [_, _]) rfl) rfl (st (.eq (.call (aC (by simp only [zC, zH]; omega) (by simp only [zC, zH]; omega)) (.cons (.t rfl) (.cons (.t rfl) .nil))) (by simp only [zC, zH]; rfl)) rfl ?_)))))))
  refine st (.mv (.t rfl)) rfl (st (.ext (.t rfl) rfl) rfl (st (.ext (.t rfl) rfl) rfl (st (.ext (.t rfl) rfl) rfl (.alloc [isB false, SlM isU []] zG (fun _ _ => ⟨rfl, nilM _ _, trivial⟩) rfl fun b7 => .alloc [isB false, SlM isU []] zG (fun _ _ => ⟨rfl, nilM _ _, trivial⟩) rfl fun b8 => .store (.t rfl) (.t rfl) (i := 1) rfl ty41 rfl rfl (Ss' := [_, _]) rfl (M' := [_, (some _, zB [_, _]), _, _, _, _, _, _]) rfl (.store (.t rfl) (.t rfl) (i := 0) rfl ty41 rfl rfl (Ss' := [_, _]) rfl (M' := [(some _, zB [_, _]), _, _, _, _, _, _, _]) rfl (st (.as (.t rfl)) rfl (nl (.thn (k8 _ _ (.seq fun _ k9 => .drh [true, true, true, true, true, true, true, false] (Ms := [_, _, _, _, _, _, _]) rfl (.s [] rfl rfl rfl (.o rfl (.load (.t rfl) (i := 6) rfl ty41 rfl (Ss' := [_, _]) rfl)) (.s [] rfl rfl rfl (.o rfl (.load (.t rfl) (i := 0) rfl ty41 rfl (Ss' := [_, _]) rfl)) (.mid2 (.cons_cons _ (.cons_cons _ (.cons_cons _ (.cons_cons _ (.cons_cons _ (.cons_cons _ (.cons_cons _ (.cons _ .slnil)))))))) (.st0 [33] rfl rfl (by kernel_rfl) (by kernel_rfl) (StS.store (.t rfl) (.t rfl) (i := 7) rfl ty41 rfl rfl (Ss' := [_, _]) rfl (M' := [_, _, _, _, _, _, _, (some _, zB [_, _])]) rfl) (.cons_cons _ (.cons_cons _ (.cons_cons _ (.cons_cons _ (.cons_cons _ (.cons_cons _ (.cons_cons _ (.cons _ .slnil)))))))) (.fin0 (n := 3) zR rfl (by kernel_rfl) (by kernel_rfl) (by kernel_rfl) (.cv (Cv.wk (.l [2, 3, 4, 5, 6, 7, 23, 24, 25, 27, 28, 29, 26, 30, 31, 32, 8, 9, 33, 34] rfl)) (.store (.t rfl) (.t rfl) (i := 6) rfl ty41 rfl rfl (Ss' := [_, _]) rfl (M' := [_, _, _, _, _, _, (some _, zB [_, _]), _]) rfl (nl (.thn (k9 _ _ (.dr (.s [] rfl rfl rfl (.o rfl (.load (.t rfl) (i := 2) rfl ty41 rfl (Ss' := [_, _]) rfl)) (.s [] rfl rfl rfl (.o rfl (.load (.t rfl) (i := 3) rfl ty41 rfl (Ss' := [_, _]) rfl)) (.s [] rfl rfl rfl (.o rfl (.load (.t rfl) (i := 1) rfl ty41 rfl (Ss' := [_, _]) rfl)) (.s [] rfl rfl rfl (.o rfl (.load (.t rfl) (i := 2) rfl ty41 rfl (Ss' := [_, _]) rfl)) (.s [37, 38] rfl rfl rfl (.o rfl (.eq (.call (qT (by simp only [zC, zH]; omega) (by simp only [zC, zH]; omega)) (.cons (.t rfl) (.cons (.t rfl) .nil))) (by simp only [zC, zH]; rfl))) ?_))))))))))))))))))))))))))
  refine .s [36, 39] rfl rfl rfl (.o rfl (.eq (.call (vd (by simp only [zC, zH]; omega) (by simp only [zC, zH]; omega)) (.cons (.t rfl) (.cons (.t rfl) .nil))) (by simp only [zC, zH]; rfl))) ?_
  refine .fin (n := 6) zR (by kernel_rfl) (by kernel_rfl) (by kernel_rfl) (.cv (Cv.wk (.l [2, 3, 4, 5, 6, 7, 23, 24, 25, 27, 28, 29, 26, 30, 31, 32, 8, 9, 33, 34, 35, 36, 37, 38, 39, 40] rfl)) (.store (.t rfl) (.t rfl) (i := 3) rfl ty41 rfl rfl (Ss' := [_, _]) rfl (M' := [_, _, _, (some _, zB [_, _]), _, _, _, _]) rfl (.store (.t rfl) (.t rfl) (i := 2) rfl ty41 rfl rfl (Ss' := [_, _]) rfl (M' := [_, _, (some _, zB [_, _]), _, _, _, _, _]) rfl (nl (.bln (.thn (hK5 (⟨(b, a.tmod b, nx, x - a.tdiv b * nx, Y, X + (a.tdiv b).natAbs * Y), hC.step hb, by rw [← hcof, cof_step hb]⟩) _ _ ?_ (Cv.trans (Cv.drop ((.cons _ (.cons _ (.cons_cons _ (.cons_cons _ (.cons_cons _ (.cons_cons _ (.cons_cons _ (.cons_cons _ .slnil)))))))))) (Cv.mem (.l [2, 3, 4, 5, 6, 7] rfl) ?_)))))))))
  ·show (a.tmod b).natAbs < b.natAbs; rw [Int.natAbs_tmod]; exact Nat.mod_lt _ (by omega)
  ·simp only [if_neg hb]
 ·have hc1 := BP.f hc1
  have hb : b = 0 := (qn _).1 (by omega)
  refine .exit (.the (.the (.blh (.thn (k4 _ _ (.cv (Cv.wk (.l [2, 4, 5, 6] rfl)) (.seq fun _ k10 => .seq fun _ k11 => .region (st (.load (.t rfl) (i := 5) rfl ty41 rfl (Ss' := [_, _]) rfl) rfl (st (.eq (.call (zd (by simp only [zC, zH]; omega)) (.cons (.t rfl) .nil)) (by simp only [zC, zH]; rfl)) rfl ?_)))))))))
  refine st (.ltI (.t rfl) (.cI 0 rfl)) rfl (nl (.thn (k11 _ _ (.cond (.t rfl) (fun hc2 => ?_) (fun hc2 => ?_)))))
  ·have hc2 := BP.t hc2
   have ha : a < 0 := (je _).1 hc2
   refine .seq fun _ k12 => .dr (.s [] rfl rfl rfl (.o rfl (.load (.t rfl) (i := 5) rfl ty41 rfl (Ss' := [_, _]) rfl)) (.s [44] rfl rfl rfl (.o rfl (.eq (.call (xk (by simp only [zC, zH]; omega)) (.cons (.t rfl) .nil)) (by simp only [zC, zH]; rfl))) ?_))
   refine .s [] rfl rfl rfl (.o rfl (.load (.t rfl) (i := 1) rfl ty41 rfl (Ss' := [_, _]) rfl)) (.fin (n := 3) zR (by kernel_rfl) (by kernel_rfl) (by kernel_rfl) (.cv (Cv.wk (.l [2, 4, 5, 6, 45, 46] rfl)) (st (.eq (.call (xk (by simp only [zC, zH]; omega)) (.cons (.t rfl) .nil)) (by simp only [zC, zH]; rfl)) rfl ?_)))
   refine .store (.t rfl) (.t rfl) (i := 3) rfl ty41 rfl rfl (Ss' := [_, _]) rfl (M' := [_, _, _, (some _, zB [_, _]), _, _]) rfl (.store (.t rfl) (.t rfl) (i := 2) rfl ty41 rfl rfl (Ss' := [_, _]) rfl (M' := [_, _, (some _, zB [_, _]), _, _, _]) rfl (nl (.thn (k12 _ _ (.ret (.thr (rtN (.inl rfl) Tryz.results125 rfl rfl (.cell rfl (i := 3) rfl ty41 rfl ?_ (.cell rfl (i := 2) rfl ty41 rfl ?_ .nil)))))))))
   ·subst hb; exact zN (by rw [← hcof, wK, if_pos ha])
   ·subst hb; exact zN (by rw [← hcof, wK, if_pos ha])
  ·have hc2 := BP.f hc2
   have ha : ¬ a < 0 := fun e => by have := (je a).2 e; omega
   refine .skip (.thn (k10 _ _ (.seq fun _ k13 => .drh [true, true, true, false, true, true] (Ms := [_, _, _, _, _]) rfl (.s [] rfl rfl rfl (.o rfl (.load (.t rfl) (i := 4) rfl ty41 rfl (Ss' := [_, _]) rfl)) (.s [] rfl rfl rfl (.o rfl (.load (.t rfl) (i := 1) rfl ty41 rfl (Ss' := [_, _]) rfl)) (.mid2 (.cons_cons _ (.cons_cons _ (.cons_cons _ (.cons _ (.cons_cons _ (.cons_cons _ .slnil)))))) (.st0 [48] rfl rfl (by kernel_rfl) (by kernel_rfl) (StS.store (.t rfl) (.t rfl) (i := 3) rfl ty41 rfl rfl (Ss' := [_, _]) rfl (M' := [_, _, _, (some _, zB [_, _]), _, _]) rfl) (.cons_cons _ (.cons_cons _ (.cons_cons _ (.cons _ (.cons_cons _ (.cons_cons _ .slnil)))))) (.fin0 (n := 3) zR rfl (by kernel_rfl) (by kernel_rfl) (by kernel_rfl) (.cv (Cv.wk (.l [4, 5, 49] rfl)) (.store (.t rfl) (.t rfl) (i := 2) rfl ty41 rfl rfl (Ss' := [_, _]) rfl (M' := [_, _, (some _, zB [_, _]), _, _, _]) rfl (nl (.thn (k13 _ _ (.ret (rtN (.inl rfl) Tryz.results125 rfl rfl (.cell rfl (i := 3) rfl ty41 rfl ?_ (.cell rfl (i := 2) rfl ty41 rfl ?_ .nil)))))))))))))))))
   ·subst hb; exact zN (by rw [← hcof, wK, if_neg ha])
   ·subst hb; exact zN (by rw [← hcof, wK, if_neg ha])
theorem zint_Xgcd {m n : Bool} {xs ys : List Nat} (hx : (List.length (zA (val xs))) ≤ 100000000) (hy : (List.length (zA (val ys))) ≤ 100000000) (hb : zv n ys ≠ 0) : Ctr Tryz.prog 116 [Flat [isB m, zD xs], Flat [isB n, zD ys]] (zQ [isZ ((Nat.gcd (zv m xs).natAbs (zv n ys).natAbs : Nat) : Int), isZ (xg (zv m xs) (zv n ys)), isZ (if zv n ys ≠ 0 ∧ (((Nat.gcd (zv m xs).natAbs (zv n ys).natAbs : Nat) : Int) - xg (zv m xs) (zv n ys) * zv m xs).tmod (zv n ys) = 0 then (((Nat.gcd (zv m xs).natAbs (zv n ys).natAbs : Nat) : Int) - xg (zv m xs) (zv n ys) * zv m xs).tdiv (zv n ys) else 0)]) := by
 refine Ctr.intro Tryz.func116 rfl (by kernel_rfl) Tryz.ntmps116 rfl fun w0 F0 => .cv (Cv.wk (.l [0, 1] rfl)) (.fact (Has.okZ (Has.t (t := 0) rfl)) fun okz0 => .fact (Has.okZ (Has.t (t := 1) rfl)) fun okz1 => ?_)
 have hxx := xZ m xs
 have hyy := xZ n ys
 have h1 := ca
 have hcof := bp (zv m xs) (zv n ys)
 have hg1 := hcof.1
 obtain ⟨g, hge⟩ : ∃ g : Int, g = ((Nat.gcd (zv m xs).natAbs (zv n ys).natAbs : Nat) : Int) := ⟨_, rfl⟩
 have hgn : (List.length (zA g.natAbs)) ≤ 100000000 := by rw [hge, Int.natAbs_natCast]; exact Nat.le_trans (ze (Nat.gcd_le_right _ (by omega))) (by omega)
 obtain ⟨c, hce⟩ : ∃ c, c = (cof (zv m xs) (zv n ys) 1 0).2 := ⟨_, rfl⟩
 have hcn : (List.length (zA c.natAbs)) ≤ 100000000 := by rw [hce]; exact Nat.le_trans (ze hcof.2.2) (Nat.le_trans (cb _ _) (by have := fC; omega))
 obtain ⟨sp, hst⟩ : ∃ sp : Int, sp = ((zv n ys).natAbs : Int) / g := ⟨_, rfl⟩
 have hsp : 0 < sp := by rw [hst, hge]; exact step_pos hb
 have hsn : (List.length (zA sp.natAbs)) ≤ 100000000 := by rw [hst, hge]; exact Nat.le_trans (ze (step_le _ _)) (by omega)
 obtain ⟨x, hxe⟩ : ∃ x, x = xg (zv m xs) (zv n ys) := ⟨_, rfl⟩
 have hxn : (List.length (zA x.natAbs)) ≤ 100000000 := by rw [hxe]; exact Nat.le_trans (ze (xg_le hb)) (by omega)
 have hm := qD x (zv m xs)
 have hs := nz_sub g (x * zv m xs)
 have hx2 : c % sp = x := by rw [hxe, hce, hst, hge]; rfl
 refine .seq fun _ k1 => .region (.box (.t rfl) rfl fun b1 => .box (.t rfl) rfl fun b2 => .alloc [isB false, SlM isU []] zG (fun _ _ => ⟨rfl, nilM _ _, trivial⟩) rfl fun b3 => .alloc [isB false, SlM isU []] zG (fun _ _ => ⟨rfl, nilM _ _, trivial⟩) rfl fun b4 => .alloc [isB false, SlM isU []] zG (fun _ _ => ⟨rfl, nilM _ _, trivial⟩) rfl fun b5 => nl (.thn (k1 _ _ (.seq fun _ k2 => .seq fun _ k3 => .region (st (.load (.t rfl) (i := 3) rfl ty41 rfl (Ss' := [_, _]) rfl) rfl (st (.call (zd (by omega)) (.cons (.t rfl) .nil)) rfl (st (.eqI (.t rfl) (.cI 0 rfl)) rfl (nl (.thn (k3 _ _ (.cond (.t rfl) (fun hc1 => ?_) (fun hc1 => ?_))))))))))))
 ·have hc1 := BP.t hc1
  exact absurd ((qn _).1 hc1) hb
 ·have hc1 := BP.f hc1
  refine .skip (.thn (k2 _ _ (.cv (Cv.wk (.l [2, 3, 4, 5, 6] rfl)) (.seq fun _ k4 => .region (st (.load (.t rfl) (i := 4) rfl ty41 rfl (Ss' := [_, _]) rfl) rfl (st (.load (.t rfl) (i := 3) rfl ty41 rfl (Ss' := [_, _]) rfl) rfl (st (.eq (.call (dR (by with_reducible assumption) (by with_reducible assumption)) (.cons (.t rfl) (.cons (.t rfl) .nil))) ((show zQ [isZ _, isZ _] = zQ [isZ g, isZ c] from by rw [hce, hge, hg1]))) rfl (st (.mv (.t rfl)) rfl (st (.ext (.t rfl) rfl) rfl (st (.ext (.t rfl) rfl) rfl (.alloc [isB false, SlM isU []] zG (fun _ _ => ⟨rfl, nilM _ _, trivial⟩) rfl fun b6 => .alloc [isB false, SlM isU []] zG (fun _ _ => ⟨rfl, nilM _ _, trivial⟩) rfl fun b7 => .store (.t rfl) (.t rfl) (i := 1) rfl ty41 rfl rfl (Ss' := [_, _]) rfl (M' := [_, (some _, zB [_, _]), _, _, _, _, _]) rfl (.store (.t rfl) (.t rfl) (i := 0) rfl ty41 rfl rfl (Ss' := [_, _]) rfl (M' := [(some _, zB [_, _]), _, _, _, _, _, _]) rfl (nl (.thn (k4 _ _ (.cv (Cv.wk (.l [2, 3, 4, 5, 6, 7, 8] rfl)) (.seq fun _ k5 => .drh [true, true, true, true, true, true, true] (Ms := [_, _, _, _, _, _, _]) rfl (.s [] rfl rfl rfl (.o rfl (.load (.t rfl) (i := 5) rfl ty41 rfl (Ss' := [_, _]) rfl)) (.s [29] rfl rfl rfl (.o rfl (.call (zint_Abs (by omega)) (.cons (.t rfl) .nil))) (.s [] rfl rfl rfl (.o rfl (.load (.t rfl) (i := 1) rfl ty41 rfl (Ss' := [_, _]) rfl)) ?_))))))))))))))))))))
  refine .s [30, 31] rfl rfl rfl (.o rfl (.eq (.call (xC (by simp only [zC, zH, Int.natAbs_natCast]; omega) (by simp only [zC, zH]; omega)) (.cons (.t rfl) (.cons (.t rfl) .nil))) ((by simp only [zH]; rw [show (if g ≠ 0 ∧ (((zv n ys).natAbs : Nat) : Int).tmod g = 0 then (((zv n ys).natAbs : Nat) : Int).tdiv g else 0) = sp from by rw [hst, hge, ← hg1]; exact (xg_step hb).trans (by rw [hg1])])))) ?_
  refine .s [32] rfl rfl rfl (.o rfl (.mv (.t rfl))) (.s [28] rfl rfl rfl (.o rfl (.ext (.t rfl) rfl)) (.s [28] rfl rfl rfl (.o rfl (.ext (.t rfl) rfl)) (.als2 (n1 := 8) (ds := [9]) (zs := [[isB false, SlM isU []]]) rfl (.cons rfl rfl zG (fun _ _ => ⟨rfl, nilM _ _, trivial⟩) .nil) (.cons_cons _ (.cons_cons _ (.cons_cons _ (.cons_cons _ (.cons_cons _ (.cons_cons _ (.cons_cons _ .slnil))))))) (Cs := [_]) rfl (.new [33] 0 (Ss' := [_, _]) (Cs' := [zB [_, _]]) rfl (by kernel_rfl) (by kernel_rfl) rfl rfl rfl (by kernel_rfl) rfl (.t rfl) ty41 rfl rfl rfl rfl (.fin (n := 9) zR rfl (by kernel_rfl) (by kernel_rfl) (by kernel_rfl) (fun bs hbs => ?_))))))
  obtain ⟨b8, rfl⟩ := len1 hbs
  refine .memEq (M' := [_, _, _, _, _, _, _, _]) rfl (.cv (Cv.wk (.k 2 rfl (.k 3 rfl (.k 4 rfl (.k 5 rfl (.k 6 rfl (.k 7 rfl (.k 8 rfl (.k 34 rfl (.cons (t := 9) (Has.op rfl) .nil)))))))))) (st (.as (.t rfl)) rfl (nl (.thn (k5 _ _ (.seq fun _ k6 => .region (st (.load (.t rfl) (i := 1) rfl ty41 rfl (Ss' := [_, _]) rfl) rfl (st (.load (.t rfl) (i := 0) rfl ty41 rfl (Ss' := [_, _]) rfl) rfl (st (.eq (.call (zint_Euclid (by simp only [zC, zH]; omega) (by simp only [zC, zH]; omega)) (.cons (.t rfl) (.cons (.t rfl) .nil))) ((by simp only [zH]; rw [if_neg (show ¬ sp = 0 by omega), hx2]))) rfl ?_)))))))))
  refine st (.mv (.t rfl)) rfl (st (.ext (.t rfl) rfl) rfl (st (.ext (.t rfl) rfl) rfl (st (.ext (.t rfl) rfl) rfl (.store (.t rfl) (.t rfl) (i := 1) rfl ty41 rfl rfl (Ss' := [_, _]) rfl (M' := [_, (some _, zB [_, _]), _, _, _, _, _, _]) rfl (nl (.thn (k6 _ _ (.cv (Cv.wk (.l [2, 3, 4, 5, 6, 7, 8] rfl)) (.seq fun _ k7 => .drh [true, true, true, true, true, true, true, true] (Ms := [_, _, _, _, _, _, _, _]) rfl (.s [] rfl rfl rfl (.o rfl (.load (.t rfl) (i := 2) rfl ty41 rfl (Ss' := [_, _]) rfl)) (.s [] rfl rfl rfl (.o rfl (.load (.t rfl) (i := 1) rfl ty41 rfl (Ss' := [_, _]) rfl)) (.s [] rfl rfl rfl (.o rfl (.load (.t rfl) (i := 7) rfl ty41 rfl (Ss' := [_, _]) rfl)) (.s [44, 45] rfl rfl rfl (.o rfl (.eq (.call (qT (by simp only [zC, zH]; omega) (by omega)) (.cons (.t rfl) (.cons (.t rfl) .nil))) (by simp only [zC, zH]; rfl))) ?_)))))))))))))
  refine .s [43, 46] rfl rfl rfl (.o rfl (.eq (.call (vd (by simp only [zC, zH]; omega) (by simp only [zC, zH]; omega)) (.cons (.t rfl) (.cons (.t rfl) .nil))) (by simp only [zC, zH]; rfl))) ?_
  refine .s [] rfl rfl rfl (.o rfl (.load (.t rfl) (i := 6) rfl ty41 rfl (Ss' := [_, _]) rfl)) (.s [47, 48] rfl rfl rfl (.o rfl (.eq (.call (xC (by simp only [zC, zH]; omega) (by omega)) (.cons (.t rfl) (.cons (.t rfl) .nil))) (by simp only [zC, zH]; rfl))) ?_)
  refine .s [49] rfl rfl rfl (.o rfl (.mv (.t rfl))) (.s [42] rfl rfl rfl (.o rfl (.ext (.t rfl) rfl)) (.s [42] rfl rfl rfl (.o rfl (.ext (.t rfl) rfl)) (.als2 (n1 := 11) (ds := [11]) (zs := [[isB false, SlM isU []]]) rfl (.cons rfl rfl zG (fun _ _ => ⟨rfl, nilM _ _, trivial⟩) .nil) (.cons_cons _ (.cons_cons _ (.cons_cons _ (.cons_cons _ (.cons_cons _ (.cons_cons _ (.cons_cons _ (.cons_cons _ .slnil)))))))) (Cs := [_]) rfl (.new [50] 0 (Ss' := [_, _]) (Cs' := [zB [_, _]]) rfl (by kernel_rfl) (by kernel_rfl) rfl rfl rfl (by kernel_rfl) rfl (.t rfl) ty41 rfl rfl rfl rfl (.fin (n := 12) zR rfl (by kernel_rfl) (by kernel_rfl) (by kernel_rfl) (fun bs hbs => ?_))))))
  obtain ⟨b9, rfl⟩ := len1 hbs
  refine .memEq (M' := [_, _, _, _, _, _, _, _, _]) rfl (.cv (Cv.wk (.k 4 rfl (.k 5 rfl (.k 6 rfl (.k 7 rfl (.k 8 rfl (.k 51 rfl (.cons (t := 11) (Has.op rfl) .nil)))))))) (st (.as (.t rfl)) rfl (nl (.thn (k7 _ _ (.seq fun _ k8 => .drh [true, true, true, true, true, false, false, true, true] (Ms := [_, _, _, _, _, _, _]) rfl (.s [] rfl rfl rfl (.o rfl (.load (.t rfl) (i := 3) rfl ty41 rfl (Ss' := [_, _]) rfl)) (.s [] rfl rfl rfl (.o rfl (.load (.t rfl) (i := 2) rfl ty41 rfl (Ss' := [_, _]) rfl)) (.s [] rfl rfl rfl (.o rfl (.load (.t rfl) (i := 0) rfl ty41 rfl (Ss' := [_, _]) rfl)) (.mid2 (.cons_cons _ (.cons_cons _ (.cons_cons _ (.cons_cons _ (.cons_cons _ (.cons _ (.cons _ (.cons_cons _ (.cons_cons _ .slnil))))))))) (.st0 [52] rfl rfl (by kernel_rfl) (by kernel_rfl) (StS.store (.t rfl) (.t rfl) (i := 6) rfl ty41 rfl rfl (Ss' := [_, _]) rfl (M' := [_, _, _, _, _, _, (some _, zB [_, _]), _, _]) rfl) (.cons_cons _ (.cons_cons _ (.cons_cons _ (.cons_cons _ (.cons_cons _ (.cons _ (.cons _ (.cons_cons _ (.cons_cons _ .slnil))))))))) (.st0 [53] rfl rfl (by kernel_rfl) (by kernel_rfl) (StS.store (.t rfl) (.t rfl) (i := 5) rfl ty41 rfl rfl (Ss' := [_, _]) rfl (M' := [_, _, _, _, _, (some _, zB [_, _]), _, _, _]) rfl) (.cons_cons _ (.cons_cons _ (.cons_cons _ (.cons_cons _ (.cons_cons _ (.cons _ (.cons _ (.cons_cons _ (.cons_cons _ .slnil))))))))) (.fin0 (n := 5) zR rfl (by kernel_rfl) (by kernel_rfl) (by kernel_rfl) (.cv (Cv.wk (.l [4, 5, 6, 54] rfl)) (.store (.t rfl) (.t rfl) (i := 4) rfl ty41 rfl rfl (Ss' := [_, _]) rfl (M' := [_, _, _, _, (some _, zB [_, _]), _, _, _, _]) rfl (nl (.thn (k8 _ _ (.ret (rtN (.inl rfl) Tryz.results116 rfl rfl (.cell rfl (i := 6) rfl ty41 rfl ?_ (.cell rfl (i := 5) rfl ty41 rfl ?_ (.cell rfl (i := 4) rfl ty41 rfl ?_ .nil)))))))))))))))))))))))
  ·exact zN hge
  ·exact zN hxe
  ·exact zN (by rw [hge, hxe])
end Go.Proofs.YthmhlblaleahpaaGreat
namespace Go.Proofs.YthmhlblaleahpaaGreat
open Go.En Go.RowKit
set_option maxRecDepth 10000
set_option maxHeartbeats 4000000
open Go.Nt
open Go.Pz
open Go.Mz
theorem jH {n : Int} : Ctr Tryz.prog 45 [isI n] (isB (decide (0 ≤ n) && decide (n ≤ 64))) := by
 refine Ctr.intro Tryz.func45 rfl (by kernel_rfl) Tryz.ntmps45 rfl fun w0 F0 => .cv (Cv.wk (.l [0] rfl)) (.fact (Has.rngI (Has.t (t := 0) rfl)) fun lt0 => .seq fun _ k1 => .region (st (.as (.cB false)) rfl (nl (.thn (k1 _ _ (.seq fun _ k2 => .region (st (.mv (.t rfl)) rfl (st (.geI (.t rfl) (.cI 0 rfl)) rfl (st (.mv (.t rfl)) rfl (stT rfl rfl (fun hg => .mv (.t rfl)) rfl (stT rfl rfl (fun hg => .leI (Has.g rfl hg) (.cI 64 rfl)) rfl (st (.pickAnd (.t rfl) (fun h => Has.g rfl h)) rfl (st (.as (.t rfl)) rfl (nl (.thn (k2 _ _ (.cv (Cv.wk (.l [2] rfl)) (.ret (rt1 (.inl rfl) Tryz.results45 rfl (.tmp (Has.t' rfl ?_) .nil))))))))))))))))))))
 all_goals (rfl)
theorem zh {r c : Int} {xs : List (Bool × List Nat)} : Ctr Tryz.prog 23 [isM r c xs] (isB (xe r c xs.length)) := by
 refine Ctr.intro Tryz.func23 rfl (by kernel_rfl) Tryz.ntmps23 rfl fun w0 F0 => .cv (Cv.wk (.l [0] rfl)) (.seq fun _ k1 => .region (.box (.t rfl) rfl fun b1 => st (.as (.cB false)) rfl (nl (.thn (k1 _ _ (.seq fun _ k2 => .region (st (.fieldAddr (.t rfl) zT ty3) rfl (st (.load1 (.t rfl) (i := 0) rfl ty3 rfl) rfl (st (.call (jH) (.cons (.t rfl) .nil)) rfl (st (.mv (.t rfl)) rfl (stT rfl rfl (fun hg => .fieldAddr (.t rfl) zS ty3) rfl (stT rfl rfl (fun hg => .load1 (Has.g rfl hg) (i := 0) rfl ty3 rfl) rfl (stT rfl rfl (fun hg => .call (jH) (.cons (Has.g rfl hg) .nil)) rfl (st (.pickAnd (.t rfl) (fun h => Has.g rfl h)) rfl (st (.mv (.t rfl)) rfl (stT rfl rfl (fun hg => .fieldAddr (.t rfl) qU ty22) rfl (stT rfl rfl (fun hg => .load1 (Has.g rfl hg) (i := 0) rfl ty22 rfl) rfl (stT rfl rfl (fun hg => .len sl22 (Has.g rfl hg)) rfl (stT rfl rfl (fun hg => .fieldAddr (.t rfl) zT ty3) rfl (stT rfl rfl (fun hg => .load1 (Has.g rfl hg) (i := 0) rfl ty3 rfl) rfl (stT rfl rfl (fun hg => .fieldAddr (.t rfl) zS ty3) rfl (stT rfl rfl (fun hg => .load1 (Has.g rfl hg) (i := 0) rfl ty3 rfl) rfl ?_))))))))))))))))))))))
 refine stT rfl rfl (fun hg => have hg' := BP.t hg; OK1.mulI (Has.g rfl hg) (Has.g rfl hg) (by have := bY ⟨hg'.1, hg'.2⟩; omega) (by have := bY ⟨hg'.1, hg'.2⟩; omega)) rfl ?_
 refine stT rfl rfl (fun hg => .eqI (Has.g rfl hg) (Has.g rfl hg)) rfl (st (.pickAnd (.t rfl) (fun h => Has.g rfl h)) rfl (st (.as (.t rfl)) rfl (nl (.thn (k2 _ _ (.cv (Cv.wk (.l [2] rfl)) (.ret (rt1 (.inl rfl) Tryz.results23 rfl (.tmp (Has.t' rfl ?_) .nil)))))))))
 all_goals (rfl)
theorem vc {r : Int} {C i k : Nat} {xs : List (Bool × List Nat)} (hx : xs.length ≤ 4096) (hl : i * C + k < xs.length) : Ctr Tryz.prog 59 [isM r (C : Int) xs, isI (i : Int), isI (k : Int)] (Flat (zc (xs.getD (i * C + k) (false, [])))) := by
 refine Ctr.intro Tryz.func59 rfl (by kernel_rfl) Tryz.ntmps59 rfl fun w0 F0 => .cv (Cv.wk (.l [0, 1, 2] rfl)) (.fact (Has.rngI (Has.t (t := 1) rfl)) fun lt1 => .fact (Has.rngI (Has.t (t := 2) rfl)) fun lt2 => ?_)
 have hcp : ((i : Int) * (C : Int)) = ((i * C : Nat) : Int) := (Int.natCast_mul i C).symm
 refine .seq fun _ k1 => .region (.box (.t rfl) rfl fun b1 => .alloc [isB false, SlM isU []] zG (fun _ _ => ⟨rfl, nilM _ _, trivial⟩) rfl fun b2 => nl (.thn (k1 _ _ (.seq fun _ k2 => .region (st (.fieldAddr (.t rfl) qU ty22) rfl (st (.load1 (.t rfl) (i := 1) rfl ty22 rfl) rfl (st (.mv (.t rfl)) rfl (st (.fieldAddr (.t rfl) zS ty3) rfl (st (.load1 (.t rfl) (i := 1) rfl ty3 rfl) rfl (st (.eq (.mulI (.t rfl) (.t rfl) (by omega) (by omega)) ((show isI _ = isI ((i * C : Nat) : Int) from zE hcp))) rfl (st (.mv (.t rfl)) rfl (st (.eq (.addI (.t rfl) (.t rfl) (by omega) (by omega)) ((show isI _ = isI ((i * C + k : Nat) : Int) from zE (by omega)))) rfl (st (.ixK sl22 ty41 (.t rfl) (.t rfl) zO ⟨by omega, by omega⟩ (getD_some (d := (false, [])) (by omega))) rfl (st (.loadP (.t rfl) ty41 rfl (Ss' := [_, _]) rfl) rfl (.store (.t rfl) (.t rfl) (i := 0) rfl ty41 rfl rfl (Ss' := [_, _]) rfl (M' := [(some _, zB [_, _]), _]) rfl (nl (.thn (k2 _ _ (.cv (Cv.wk (.l [6] rfl)) (.ret (rt1 (.inl rfl) Tryz.results59 rfl (.cell rfl (i := 0) rfl ty41 rfl ?_ .nil))))))))))))))))))))))
 all_goals (rfl)
theorem zmat_has {r c i : Int} {xs : List (Bool × List Nat)} : Ctr Tryz.prog 58 [isM r c xs, isI i] (isB (decide (0 ≤ i) && decide (i < r))) := by
 refine Ctr.intro Tryz.func58 rfl (by kernel_rfl) Tryz.ntmps58 rfl fun w0 F0 => .cv (Cv.wk (.l [0, 1] rfl)) (.fact (Has.rngI (Has.t (t := 1) rfl)) fun lt1 => .seq fun _ k1 => .region (.box (.t rfl) rfl fun b1 => st (.as (.cB false)) rfl (nl (.thn (k1 _ _ (.seq fun _ k2 => .region (st (.mv (.t rfl)) rfl (st (.geI (.t rfl) (.cI 0 rfl)) rfl (st (.mv (.t rfl)) rfl (stT rfl rfl (fun hg => .mv (.t rfl)) rfl (stT rfl rfl (fun hg => .fieldAddr (.t rfl) zT ty3) rfl (stT rfl rfl (fun hg => .load1 (Has.g rfl hg) (i := 0) rfl ty3 rfl) rfl (stT rfl rfl (fun hg => .ltI (Has.g rfl hg) (Has.g rfl hg)) rfl (st (.pickAnd (.t rfl) (fun h => Has.g rfl h)) rfl (st (.as (.t rfl)) rfl (nl (.thn (k2 _ _ (.cv (Cv.wk (.l [4] rfl)) (.ret (rt1 (.inl rfl) Tryz.results58 rfl (.tmp (Has.t' rfl ?_) .nil))))))))))))))))))))))
 all_goals (rfl)
theorem jI {R C : Nat} {f : Nat → Nat → Bool × List Nat} (hR : R ≤ 64) (hC : C ≤ 64) (hf : ∀ i k, i < R → k < C → (List.length (zA (val (f i k).2))) ≤ 4294967296) : Ctr Tryz.prog 46 [isI (R : Int), isI (C : Int), isAt Tryz.prog R C f] (isMz R C (tab (R * C) C fun i k => zv (f i k).1 (f i k).2)) := by
 refine Ctr.intro Tryz.func46 rfl (by kernel_rfl) Tryz.ntmps46 rfl fun w0 F0 => .cv (Cv.wk (.l [0, 1, 2] rfl)) (.fact (Has.rngI (Has.t (t := 0) rfl)) fun lt0 => .fact (Has.rngI (Has.t (t := 1) rfl)) fun lt1 => ?_)
 have hRC := qL hR hC
 obtain ⟨G, hG⟩ : ∃ G : Nat → Nat → Int, G = fun i k => zv (f i k).1 (f i k).2 := ⟨_, rfl⟩
 rw [← hG]
 refine .seq fun _ k1 => .region (.alloc [isI 0, isI 0, nilS] zg (fun _ _ => ⟨⟨rfl, by decide, by decide⟩, ⟨rfl, by decide, by decide⟩, rfl, trivial⟩) rfl fun b1 => nl (.thn (k1 _ _ (.seq fun _ k2 => .region (st (.mv (.t rfl)) rfl (st (.mv (.t rfl)) rfl (st (.build [isI 0, isI 0, nilS] pl24 zg (fun _ _ => ⟨⟨rfl, by decide, by decide⟩, ⟨rfl, by decide, by decide⟩, rfl, trivial⟩) (.cons (.t rfl) rfl rfl rfl (.cons (.t rfl) rfl rfl rfl .nil)) (Z'' := [_, _, _]) rfl) rfl (.alloc [isI 0, isI 0, nilS] zg (fun _ _ => ⟨⟨rfl, by decide, by decide⟩, ⟨rfl, by decide, by decide⟩, rfl, trivial⟩) rfl fun b2 => .store (.t rfl) (.t rfl) (i := 0) rfl ty24 rfl rfl (Ss' := [_, _, _]) rfl (M' := [(some _, zB [_, _, _]), _]) rfl (nl (.thn (k2 _ _ (.seq fun _ k3 => .seq fun _ k4 => .cv (Cv.growF (Bool × List Nat) (i := 0) (o := 2) rfl rfl rfl) (.memEq (M' := [grMK zc Gr.nil [], _, _]) rfl (.region (st (.mv (.t rfl)) rfl (st (.mv (.cI 0 rfl)) rfl (nl (.thn (k4 _ _ (.block (.loopF [1, 2, 6, 7, 14] (fun (z : { z : Nat × Gr (Bool × List Nat) // z.1 ≤ R }) => match z with | ⟨(i, g), hI⟩ => [(15, isI (i : Int))]) (fun M => fun (z : { z : Nat × Gr (Bool × List Nat) // z.1 ≤ R }) => match z with | ⟨(i, g), hI⟩ => [grMK zc g ((tab (i * C + 0) C G).map nz), (some b2, zB [isI (R : Int), isI (C : Int), isGr g ((tab (i * C + 0) C G).map nz).length]), (some b1, zB [isI 0, isI 0, nilS])]) (fun (z : { z : Nat × Gr (Bool × List Nat) // z.1 ≤ R }) => match z with | ⟨(i, g), hI⟩ => R - i) (⟨(0, Gr.nil), Nat.zero_le _⟩) (Cv.mem (.c 15 rfl ?_ (.l [1, 2, 6, 7, 14] rfl)) ?_) ?_)))))))))))))))))))))
 ·rfl
 ·exact grF_eq (n := 0) (ys := []) (by rw [List.length_map, xG, Nat.zero_mul]) (show [] = (tab (0 * C + 0) C G).map nz by rw [Nat.zero_mul]; rfl)
 rintro ⟨⟨i, g⟩, hI⟩ K5 hK5
 refine .cv (Cv.wk (.l [15, 1, 2, 6, 7, 14] rfl)) (.memEq (M' := [grMK zc g ((tab (i * C + 0) C G).map nz), (some b2, zB [isI (R : Int), isI (C : Int), isGr g ((tab (i * C + 0) C G).map nz).length]), (some b1, zB [isI 0, isI 0, nilS])]) rfl ?_)
 simp only [] at hI
 refine .seq fun _ k6 => .region (st (.ltI (.t rfl) (.t rfl)) rfl (nl (.thn (k6 _ _ (.seq fun _ k7 => .cond (.t rfl) (fun hc1 => ?_) (fun hc1 => ?_))))))
 ·have hc1 := BP.t hc1
  refine .skip (.thn (k7 _ _ (.seq fun _ k8 => .block (.seq fun _ k9 => .region (st (.mv (.t rfl)) rfl (st (.as (.t rfl)) rfl (nl (.thn (k9 _ _ (.seq fun _ k10 => .region (st (.mv (.t rfl)) rfl (st (.mv (.cI 0 rfl)) rfl (nl (.thn (k10 _ _ (.block (.loopF [1, 2, 6, 7, 14, 15, 16, 17, 8, 18] (fun (z : { z : Nat × Gr (Bool × List Nat) // z.1 ≤ C }) => match z with | ⟨(k, g2), hK⟩ => [(19, isI (k : Int))]) (fun M => fun (z : { z : Nat × Gr (Bool × List Nat) // z.1 ≤ C }) => match z with | ⟨(k, g2), hK⟩ => [grMK zc g2 ((tab (i * C + k) C G).map nz), (some b2, zB [isI (R : Int), isI (C : Int), isGr g2 ((tab (i * C + k) C G).map nz).length]), (some b1, zB [isI 0, isI 0, nilS])]) (fun (z : { z : Nat × Gr (Bool × List Nat) // z.1 ≤ C }) => match z with | ⟨(k, g2), hK⟩ => C - k) (⟨(0, g), Nat.zero_le _⟩) (Cv.mem (.c 19 rfl ?_ (.l [1, 2, 6, 7, 14, 15, 16, 17, 8, 18] rfl)) ?_) ?_)))))))))))))))))
  ·rfl
  ·rfl
  rintro ⟨⟨k, g2⟩, hK⟩ K11 hK11
  refine .cv (Cv.wk (.l [19, 1, 2, 6, 7, 14, 15, 16, 17, 8, 18] rfl)) (.memEq (M' := [grMK zc g2 ((tab (i * C + k) C G).map nz), (some b2, zB [isI (R : Int), isI (C : Int), isGr g2 ((tab (i * C + k) C G).map nz).length]), (some b1, zB [isI 0, isI 0, nilS])]) rfl ?_)
  simp only [] at hK
  refine .seq fun _ k12 => .region (st (.ltI (.t rfl) (.t rfl)) rfl (nl (.thn (k12 _ _ (.seq fun _ k13 => .cond (.t rfl) (fun hc2 => ?_) (fun hc2 => ?_))))))
  ·have hc2 := BP.t hc2
   refine .skip (.thn (k13 _ _ (.seq fun _ k14 => .block (.seq fun _ k15 => .region (st (.mv (.t rfl)) rfl (st (.as (.t rfl)) rfl (nl (.thn (k15 _ _ (.seq fun _ k16 => .region (st (.mv (.t rfl)) rfl (st (.mv (.t rfl)) rfl (st (.mv (.t rfl)) rfl (st (.callV ⟨(i, k), by omega, by omega⟩ (.t rfl) (.cons (.t rfl) (.cons (.t rfl) .nil))) rfl (.alloc [isB false, SlM isU []] zG (fun _ _ => ⟨rfl, nilM _ _, trivial⟩) rfl fun b3 => .store (.t rfl) (.t rfl) (i := 0) rfl ty41 rfl rfl (Ss' := [_, _]) rfl (M' := [(some _, zB [_, _]), _, _, _]) rfl (nl (.thn (k16 _ _ (.dr (.s [] rfl rfl rfl (.o rfl (.fieldAddr (.t rfl) qU ty22)) (.s [26] rfl rfl rfl (.o rfl (.load1 (.t rfl) (i := 2) rfl ty22 rfl)) (.s [] rfl rfl rfl (.o rfl (.fieldAddr (.t rfl) qA ty39)) (.s [28] rfl rfl rfl (.o rfl (.load1 (.t rfl) (i := 0) rfl ty39 rfl)) (.s [] rfl rfl rfl (.o rfl (.fieldAddr (.t rfl) qX ty4)) (.s [30] rfl rfl rfl (.o rfl (.load1 (.t rfl) (i := 0) rfl ty4 rfl)) (.s [29, 31] rfl rfl rfl (.o rfl (.eq (.call (qE (hf i k (by omega) (by omega))) (.cons (.t rfl) (.cons (.t rfl) .nil))) ((show isZ _ = Flat (zc (nz (G i k))) from zN (by rw [hG]))))) (.s [32] rfl rfl rfl (.o rfl (.buildS [isB false, SlM isU []] sl22 ty41 zG (fun _ _ => ⟨rfl, nilM _ _, trivial⟩) rfl rfl (.cons (.t rfl) rfl rfl rfl .nil) rfl (S := SlK 2 zc [nz (G i k)]) rfl)) (.fin (n := 8) zR (by kernel_rfl) (by kernel_rfl) (by kernel_rfl) (.cv (Cv.wk (.l [1, 2, 6, 7, 14, 15, 16, 17, 8, 18, 19, 20, 21, 9, 22, 23, 24, 25, 10, 26, 27, 28, 29, 30, 31, 32, 33] rfl)) (.appendGK (fk := zc) (u := (false, [])) zO (by decide) (fun _ => inferInstance) sl22 ty41 zG (fun _ _ => ⟨rfl, nilM _ _, trivial⟩) by41 (.t rfl) (i := 1) rfl (.t rfl) (by have hpl := qG (show i < R by omega) (show k < C by omega); rw [List.length_map, xG]; show i * C + k + 1 ≤ _; omega) (by simp) rfl fun gr1 => ?_))))))))))))))))))))))))))))))
   refine .memEq (M' := [_, grMK _ _ _, _, _]) rfl (st (.fieldAddr (.t rfl) qU ty22) rfl (.store (.t rfl) (.t rfl) (i := 2) rfl ty22 rfl rfl (Ss' := [_, _, _]) rfl (M' := [_, _, (some _, zB [_, _, _]), _]) rfl (nl (.bln (.thn (k14 _ _ (.region (st (.addI (.t rfl) (.cI 1 rfl) (by omega) (by omega)) rfl (st (.mv (.t rfl)) rfl (nl (.thn ?_)))))))))))
   have hpl := qG (show i < R by omega) (show k < C by omega)
   refine hK11 (⟨(k + 1, gr1), by show k + 1 ≤ C; omega⟩) _ _ ?_ (Cv.trans (Cv.drop ((.cons _ (.cons_cons _ (.cons_cons _ (.cons_cons _ .slnil)))))) (Cv.mem (.c 19 rfl ?_ (.l [1, 2, 6, 7, 14, 15, 16, 17, 8, 18] rfl)) ?_))
   ·show C - (k + 1) < C - k; omega
   ·exact zE (by omega)
   ·exact grF_eq (by rw [← cD G (show k < C by omega), List.map_append, List.length_append]; rfl) (by rw [← cD G (show k < C by omega), List.map_append]; rfl)
  ·have hc2 := BP.f hc2
   refine .exit (.the (.the (.blh (.bln (.thn (k8 _ _ (.region (st (.addI (.t rfl) (.cI 1 rfl) (by omega) (by omega)) rfl (st (.mv (.t rfl)) rfl (nl (.thn ?_)))))))))))
   have hkC : k = C := by omega
   subst hkC
   refine hK5 (⟨(i + 1, g2), by show i + 1 ≤ R; omega⟩) _ _ ?_ (Cv.mem (.c 15 rfl ?_ (.l [1, 2, 6, 7, 14] rfl)) ?_)
   ·show R - (i + 1) < R - i; omega
   ·exact zE (by omega)
   ·exact grF_eq (by rw [cE]) (by rw [cE])
 ·have hc1 := BP.f hc1
  refine .exit (.the (.the (.blh (.thn (k3 _ _ (.cv (Cv.wk (.l [6, 7] rfl)) (.seq fun _ k17 => .cv (Cv.freezeF (k := 2) (i := 0) (j := 0) (o := 2) rfl rfl rfl rfl (aO zO) (wJ zO) (Ss' := [_, _, SlK 2 zc ((tab (i * C + 0) C G).map nz)]) rfl) (.memEq (M' := [(some _, zB [_, _, SlK 2 zc ((tab (i * C + 0) C G).map nz)]), _]) rfl (.cv (Cv.wk (.l [6, 7] rfl)) (.region (st (.load (.t rfl) (i := 0) rfl ty24 rfl (Ss' := [_, _, _]) rfl) rfl (.store (.t rfl) (.t rfl) (i := 1) rfl ty24 rfl rfl (Ss' := [_, _, _]) rfl (M' := [_, (some _, zB [_, _, _])]) rfl (nl (.thn (k17 _ _ (.ret (rt1 (.inl rfl) Tryz.results46 rfl (.cell rfl (i := 1) rfl ty24 rfl ?_ .nil))))))))))))))))))
  all_goals (rw [Nat.add_zero, show i = R by omega])
end Go.Proofs.YthmhlblaleahpaaGreat
