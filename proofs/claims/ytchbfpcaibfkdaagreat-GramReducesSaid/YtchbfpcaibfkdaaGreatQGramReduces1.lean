/- Rules and contracts, part 1 of 6. -/
import Derived.WalkKit
import Derived.Deep.LoopGhost
import Derived.Orders
import Derived.KernelRfl
import Derived.Laws.CopyRow
import Derived.Laws.MathBits
import Derived.Laws.AppendOwn
import Derived.Laws.Small
set_option linter.unusedVariables false
namespace Go.En
open Go.RowKit
abbrev Blk := Nat→Prop
structure VP where
 h:World→Blk→Value→Prop
 mono:∀(w w':World) (F F':Blk) (v:Value),h w F v→(∀b,F b→w'.heap[b]?=w.heap[b]?)→(∀b,F b→F' b)→h w' F' v
abbrev Ctx := List (Nat×VP)
def zR : Ctx→Nat→Option VP
  | [],_=>none
  | (k,S)::r,t=>match Nat.beq k t with
    | true=>some S
    | false=>zR r t
structure MP where
 h:World→Blk→Obj→Prop
 mono:∀(w w':World) (F F':Blk) (o:Obj),h w F o→(∀b,F b→w'.heap[b]?=w.heap[b]?)→(∀b,F b→F' b)→h w' F' o
abbrev Mem := List (Option Nat×MP)
structure Keep (W:List Nat) (w w':World):Prop where
 os:w'.os=w.os
 tape:w'.tape=w.tape
 output:w'.output=w.output
 size:w.heap.size≤w'.heap.size
 block:∀k,k<w.heap.size→k∉W→w'.heap[k]?=w.heap[k]?
theorem Keep.refl (W:List Nat) (w:World):Keep W w w:=⟨rfl,rfl,rfl,Nat.le_refl _,fun _ _ _=>rfl⟩
theorem Keep.trans {W:List Nat} {a b c:World} (h:Keep W a b) (k:Keep W b c):Keep W a c:=
 ⟨k.os.trans h.os,k.tape.trans h.tape,k.output.trans h.output,Nat.le_trans h.size k.size,
 fun i hi hw=>(k.block i (Nat.lt_of_lt_of_le hi h.size) hw).trans (h.block i hi hw)⟩
theorem Keep.below {w w':World} (h:Keep [] w w'):Below w.heap.size w w':=
 ⟨h.os,h.tape,h.output,h.size,fun k hk=>h.block k hk (by simp)⟩
theorem Keep.wide {W W':List Nat} {w w':World} (h:Keep W w w') (hs:∀b,b∈W→b∈W'):Keep W' w w':=
 ⟨h.os,h.tape,h.output,h.size,fun k hk hn=>h.block k hk (fun hb=>hn (hs k hb))⟩
theorem Keep.drew (W:List Nat) (w:World):Keep W w { w with drawn:=w.drawn+1 }:=⟨rfl,rfl,rfl,Nat.le_refl _,fun _ _ _=>rfl⟩
theorem Keep.alloc (W:List Nat) (w:World) (o:Obj):Keep W w { w with heap:=w.heap.push o }:=
 ⟨rfl,rfl,rfl,by simp,fun k hk _=>by simp[Array.getElem?_push,Nat.ne_of_lt hk]⟩
def aE (F:Blk) (w w':World):Blk:=fun b=>F b∨(w.heap.size≤b∧b<w'.heap.size)
def All2 : List VP→World→Blk→List Value→Prop
 | [],_,_,[]=>True
 | S::Ss,w,F,v::vs=>S.h w F v∧All2 Ss w F vs
 | _,_,_,_=>False
theorem All2.mono {w w':World} {F F':Blk} (hb:∀b,F b→w'.heap[b]?=w.heap[b]?) (hf:∀b,F b→F' b):
  ∀(Ss:List VP) (vs:List Value),All2 Ss w F vs→All2 Ss w' F' vs
 | [],[],_=>trivial
 | S::Ss,v::vs,h=>⟨S.mono _ _ _ _ _ h.1 hb hf,All2.mono hb hf Ss vs h.2⟩
 | [],_::_,h=>h.elim
 | _::_,[],h=>h.elim
theorem All2.len : ∀{Ss:List VP} {w:World} {F:Blk} {vs:List Value},All2 Ss w F vs→Ss.length=vs.length
 | [],_,_,[],_=>rfl
 | _::_,_,_,_::_,h=>congrArg (·+1) (All2.len h.2)
 | [],_,_,_::_,h=>h.elim
 | _::_,_,_,[],h=>h.elim
theorem All2.get : ∀{Ss:List VP} {w:World} {F:Blk} {vs:List Value},All2 Ss w F vs→∀(i:Nat) (S:VP),Ss[i]?=some S→∃v,vs[i]?=some v∧S.h w F v
 | [],_,_,[],_,i,S,hi=>by simp at hi
 | S0::Ss,_,_,v::vs,h,0,S,hi=>by simp at hi;subst hi;exact⟨v,rfl,h.1⟩
 | S0::Ss,_,_,v::vs,h,i+1,S,hi=>by simpa using All2.get h.2 i S (by simpa using hi)
 | [],_,_,_::_,h,_,_,_=>h.elim
 | _::_,_,_,[],h,_,_,_=>h.elim
structure Env where
 w0:World
 F0:Blk
 W:List Nat
 n:Nat
structure MemOK (E:Env) (M:Mem) (w:World) (F:Blk):Prop where
 apart:M.Pairwise (fun x y=>x.1=none∨x.1≠y.1)
 each:∀(b:Nat) (C:MP),(some b,C)∈M→(E.w0.heap.size≤b∨b∈E.W)∧b<w.heap.size∧¬F b∧∃o,w.heap[b]?=some o∧C.h w F o
structure Sat (E:Env) (Γ:Ctx) (M:Mem) (a:Act) (w:World) (F:Blk):Prop where
 defers:a.defers=[]
 size:a.tmps.size=E.n
 keep:Keep E.W E.w0 w
 f0:∀b,E.F0 b→F b
 fnew:∀b,F b→E.F0 b∨(E.w0.heap.size≤b∧b<w.heap.size)
 flt:∀b,F b→b<w.heap.size
 slots:∀t S,zR Γ t=some S→S.h w F (a.tmps.getD t undef)
 mem:MemOK E M w F
structure Adv (w:World) (F:Blk) (w':World) (F':Blk):Prop where
 keep:Keep [] w w'
 sub:∀b,F b→F' b
 new:∀b,F' b→F b∨(w.heap.size≤b∧b<w'.heap.size)
theorem Adv.refl (w:World) (F:Blk):Adv w F w F:=⟨Keep.refl _ _,fun _ h=>h,fun _ h=>.inl h⟩
theorem Adv.drew (w:World) (F:Blk):Adv w F { w with drawn:=w.drawn+1 } F:=⟨Keep.drew _ _,fun _ h=>h,fun _ h=>.inl h⟩
theorem Adv.trans {w w' w'':World} {F F' F'':Blk} (h:Adv w F w' F') (k:Adv w' F' w'' F''):Adv w F w'' F'':=
 ⟨h.keep.trans k.keep,fun b hb=>k.sub b (h.sub b hb),fun b hb=>by
  rcases k.new b hb with h1|h1
  ·rcases h.new b h1 with h2|h2
   ·exact .inl h2
   ·exact .inr ⟨h2.1,Nat.lt_of_lt_of_le h2.2 k.keep.size⟩
  ·exact .inr ⟨Nat.le_trans h.keep.size h1.1,h1.2⟩⟩
theorem Adv.same {w w':World} {F F':Blk} (h:Adv w F w' F') (flt:∀b,F b→b<w.heap.size):∀b,F b→w'.heap[b]?=w.heap[b]?:=
 fun b hb=>h.keep.block b (flt b hb) (by simp)
theorem MemOK.adv {E:Env} {M:Mem} {w w':World} {F F':Blk} (h:MemOK E M w F) (ad:Adv w F w' F') (flt:∀b,F b→b<w.heap.size):MemOK E M w' F':=
 ⟨h.apart,fun b C hb=>by
  obtain⟨h1,h2,h3,o,h4,h5⟩:=h.each b C hb
  refine⟨h1,Nat.lt_of_lt_of_le h2 ad.keep.size,fun hF=>?_,o,(ad.keep.block b h2 (by simp)).trans h4,C.mono _ _ _ _ _ h5 (ad.same flt) ad.sub⟩
  rcases ad.new b hF with h6|h6
  ·exact h3 h6
  ·omega⟩
theorem Sat.adv {E:Env} {Γ:Ctx} {M:Mem} {a:Act} {w w':World} {F F':Blk} (s:Sat E Γ M a w F) (ad:Adv w F w' F'):Sat E Γ M a w' F':=
 {defers:=s.defers,size:=s.size,keep:=s.keep.trans (ad.keep.wide (by simp)),f0:=fun b h=>ad.sub b (s.f0 b h),
  fnew:=fun b h=>by
   rcases ad.new b h with h1|h1
   ·rcases s.fnew b h1 with h2|h2
    ·exact .inl h2
    ·exact .inr ⟨h2.1,Nat.lt_of_lt_of_le h2.2 ad.keep.size⟩
   ·exact .inr ⟨Nat.le_trans s.keep.size h1.1,h1.2⟩
  flt:=fun b h=>by
   rcases ad.new b h with h1|h1
   ·exact Nat.lt_of_lt_of_le (s.flt b h1) ad.keep.size
   ·exact h1.2
  slots:=fun t S h=>S.mono _ _ _ _ _ (s.slots t S h) (ad.same s.flt) ad.sub
  mem:=s.mem.adv ad s.flt }
theorem jI {a:Act} {d t:Nat} {v:Value} (hd:d<a.tmps.size):(a.put (some d) v).tmps.getD t undef=if d=t then v else a.tmps.getD t undef:=by
 simp only[Act.put,Array.getD_eq_getD_getElem?,Array.getElem?_setIfInBounds]
 by_cases h:d=t
 ·subst h;simp[hd]
 ·simp[h]
theorem Sat.put {E:Env} {Γ:Ctx} {M:Mem} {a:Act} {w:World} {F:Blk} (s:Sat E Γ M a w F) {d:Nat} (hd:d<E.n) {v:Value} {S:VP} (hv:S.h w F v):
  Sat E ((d,S)::Γ) M (a.put (some d) v) w F:=
 {defers:=s.defers,size:=by simp[Act.put,s.size],keep:=s.keep,f0:=s.f0,fnew:=s.fnew,flt:=s.flt,mem:=s.mem,
  slots:=fun t S' h=>by
   rw[jI (by rw[s.size];exact hd)]
   simp only[zR] at h
   cases hb:Nat.beq d t with
   | true=>rw[hb] at h;simp at h;subst h;rw[if_pos (Nat.eq_of_beq_eq_true hb)];exact hv
   | false=>rw[hb] at h;simp at h;rw[if_neg (Nat.ne_of_beq_eq_false hb)];exact s.slots t S' h }
def Has (E:Env) (Γ:Ctx) (M:Mem) (x:Operand) (S:VP):Prop:=∀a w F,Sat E Γ M a w F→S.h w F (a.eval x)
section
variable {E : Env} {P : Program} {Γ : Ctx} {M : Mem}
theorem Has.t {t:Nat} {S:VP} (h:zR Γ t=some S):Has E Γ M (.tmp t) S:=fun _ _ _ s=>s.slots t S h
theorem Has.t' {t:Nat} {S S':VP} (h:zR Γ t=some S) (e:S=S'):Has E Γ M (.tmp t) S':=e▸Has.t h
def OK1 (E:Env) (P:Program) (Γ:Ctx) (M:Mem) (o:Oper) (S:VP):Prop:=
  ∀a w F,Sat E Γ M a w F→∀(K:Act→World→Prop) (Q:Exit→Act→World→Prop),
    (∀v w' F',Adv w F w' F'→S.h w' F' v→K (a.put o.dst v) w')→o.wp P a w K Q
theorem OK1.run {o:Oper} {S:VP} (h:∀a w F,Sat E Γ M a w F→∃v,(execOp a.eval o).run P w=.ok (.value v) w∧S.h w F v):OK1 E P Γ M o S:=by
 intro a w F s K Q hK
 obtain⟨v,hr,hv⟩:=h a w F s
 unfold Oper.wp
 rw[hr]
 exact hK v w F (Adv.refl _ _) hv
def Ops (E:Env) (P:Program) (ops:Array Oper) (Q:Exit→Act→World→Prop) (rest:List Oper) (Γ:Ctx) (M:Mem):Prop:=
 ∀a w F,Sat E Γ M a w F→wpList P ops Q rest a w
def At (E:Env) (Γ:Ctx) (M:Mem) (Q:Exit→Act→World→Prop) (e:Exit):Prop:=∀a w F,Sat E Γ M a w F→Q e a w
def iV (E:Env) (Γ:Ctx) (M:Mem) (K:Act→World→Prop):Prop:=∀a w F,Sat E Γ M a w F→K a w
def Tri (E:Env) (P:Program) (c:Code) (Γ:Ctx) (M:Mem) (Q:Exit→Act→World→Prop):Prop:=∀a w F,Sat E Γ M a w F→c.wp P Q a w
variable {ops : Array Oper} {Q : Exit → Act → World → Prop} {rest : List Oper}
theorem st {d:Nat} {op:Op} {ty:TypeId} {pos:String} {after:Array Edge} {S:VP}
  (h:OK1 E P Γ M ⟨some d,op,ty,pos,after,none⟩ S) (hd:Nat.blt d E.n=true) (k:Ops E P ops Q rest ((d,S)::Γ) M):
  Ops E P ops Q (⟨some d,op,ty,pos,after,none⟩::rest) Γ M:=by
 intro a w F s
 refine wpList_plain rfl fun K hK=>h a w F s K Q ?_
 intro v w' F' ad hv
 have hd':d<E.n:=by simpa [Nat.blt_eq] using hd
 exact hK _ _ (k _ _ _ ((s.adv ad).put hd' hv))
theorem nl (h:At E Γ M Q .normal):Ops E P ops Q [] Γ M:=fun a w F s=>wpList_nil (h a w F s)
theorem Tri.region {id:Nat} {l:List Oper} (h:Ops E P l.toArray Q l Γ M):Tri E P (.region id l.toArray false) Γ M Q:=
 fun a w F s=>wp_region_lit (h a w F s)
theorem Tri.seq {x y:Code} (h:∀K:Act→World→Prop,(∀Γ' M',Tri E P y Γ' M' Q→iV E Γ' M' K)→Tri E P x Γ M (Exit.then K Q)):Tri E P (.seq x y) Γ M Q:=
 fun a w F s=>wp_seq_k fun K hK=>h K (fun Γ' M' ht a w F s=>hK a w (ht a w F s)) a w F s
theorem Tri.block {id:Nat} {c:Code} (h:Tri E P c Γ M (Exit.inBlock id Q)):Tri E P (.block id c) Γ M Q:=fun a w F s=>wp_block (h a w F s)
theorem Tri.ret (h:At E Γ M Q .ret):Tri E P .ret Γ M Q:=fun a w F s=>wp_ret (h a w F s)
theorem Tri.skip (h:At E Γ M Q .normal):Tri E P .skip Γ M Q:=fun a w F s=>wp_skip (h a w F s)
theorem Tri.exit {id:Nat} (h:At E Γ M Q (.exit id)):Tri E P (.exit id) Γ M Q:=fun a w F s=>wp_exit (h a w F s)
theorem At.thn {K:Act→World→Prop} (h:iV E Γ M K):At E Γ M (Exit.then K Q) .normal:=h
theorem At.nk {K:Act→World→Prop} {y:Code} (k:∀Γ' M',Tri E P y Γ' M' Q→iV E Γ' M' K) (h:Tri E P y Γ M Q):At E Γ M (Exit.then K Q) .normal:=At.thn (k _ _ h)
theorem nkQ {K:Act→World→Prop} {y:Code} (k:∀Γ' M',Tri E P y Γ' M' Q→iV E Γ' M' K) (h:Tri E P y Γ M Q):Ops E P ops (Exit.then K Q) [] Γ M:=nl (At.nk k h)
theorem Tri.sq {x y:Code} (h:∀{K:Act→World→Prop},(∀Γ' M',Tri E P y Γ' M' Q→iV E Γ' M' K)→Tri E P x Γ M (Exit.then K Q)):Tri E P (.seq x y) Γ M Q:=.seq fun _ k=>h k
theorem Tri.sr {id:Nat} {l:List Oper} {y:Code} (h:∀{K:Act→World→Prop},(∀Γ' M',Tri E P y Γ' M' Q→iV E Γ' M' K)→Ops E P l.toArray (Exit.then K Q) l Γ M):Tri E P (.seq (.region id l.toArray false) y) Γ M Q:=.seq fun _ k=>.region (h k)
theorem At.thr {K:Act→World→Prop} (h:At E Γ M Q .ret):At E Γ M (Exit.then K Q) .ret:=h
theorem At.the {K:Act→World→Prop} {id:Nat} (h:At E Γ M Q (.exit id)):At E Γ M (Exit.then K Q) (.exit id):=h
theorem At.bln {id:Nat} (h:At E Γ M Q .normal):At E Γ M (Exit.inBlock id Q) .normal:=h
theorem At.blr {id:Nat} (h:At E Γ M Q .ret):At E Γ M (Exit.inBlock id Q) .ret:=h
theorem At.blh {id:Nat} (h:At E Γ M Q .normal):At E Γ M (Exit.inBlock id Q) (.exit id):=fun a w F s=>by simp only[Exit.inBlock,if_true];exact h a w F s
theorem At.blm {id id':Nat} (hne:Nat.beq id' id=false) (h:At E Γ M Q (.exit id')):At E Γ M (Exit.inBlock id Q) (.exit id'):=fun a w F s=>by
 simp only[Exit.inBlock,if_neg (Nat.ne_of_beq_eq_false hne)];exact h a w F s
def VP.pure (p:Value→Prop):VP:=⟨fun _ _ v=>p v,fun _ _ _ _ _ h _ _=>h⟩
abbrev rng (k:IntKind) (z:Int):Prop:=k.min≤z∧z≤k.max
def isK (k:IntKind) (z:Int):VP:=.pure fun v=>v=.int k z∧rng k z
def isU (n:Nat):VP:=.pure fun v=>v=.int .u64 (n:Int)∧n<2^64
def isI (z:Int):VP:=.pure fun v=>v=.int .i64 z ∧ -2^63≤z∧z<2^63
def isB (b:Bool):VP:=.pure fun v=>v=.bool b
def G (g:Bool) (S:VP):VP:=⟨fun w F v=>if g=true then S.h w F v else v=undef,fun w w' F F' v h h1 h2=>by
 by_cases hg:g=true
 ·rw[if_pos hg] at *;exact S.mono _ _ _ _ _ h h1 h2
 ·rw[if_neg hg] at *;exact h⟩
theorem Has.g {t:Nat} {S:VP} {g:Bool} (h:zR Γ t=some (G g S)) (hg:g=true):Has E Γ M (.tmp t) S:=fun a w F s=>by
 have h1:=s.slots t _ h
 have h2:(G g S).h w F (a.tmps.getD t undef)=S.h w F (a.tmps.getD t undef):=by show (if g=true then _ else _)=_;rw[if_pos hg]
 exact h2▸h1
theorem Has.cU (n:Nat) (h:Nat.blt n 18446744073709551616=true):Has E Γ M (.const (.int .u64 (n:Int))) (isU n):=fun _ _ _ _=>⟨rfl,by simpa [Nat.blt_eq] using h⟩
theorem Has.cI (z:Int) (h:decide (-2^63≤z∧z<2^63)=true):Has E Γ M (.const (.int .i64 z)) (isI z):=fun _ _ _ _=>⟨rfl,of_decide_eq_true h⟩
theorem Has.cB (b:Bool):Has E Γ M (.const (.bool b)) (isB b):=fun _ _ _ _=>rfl
theorem Tri.cond {c:Operand} {x y:Code} {b:Bool} (hc:Has E Γ M c (isB b)) (h1:b=true→Tri E P x Γ M Q) (h2:b=false→Tri E P y Γ M Q):Tri E P (.cond c x y) Γ M Q:=
 fun a w F s=>wp_cond_split (hc a w F s) (fun hb=>h1 hb a w F s) (fun hb=>h2 hb a w F s)
theorem Tri.fact {c:Code} {p:Prop} (hp:∀a w F,Sat E Γ M a w F→p) (h:p→Tri E P c Γ M Q):Tri E P c Γ M Q:=fun a w F s=>h (hp a w F s) a w F s
theorem Ops.fact {p:Prop} (hp:∀a w F,Sat E Γ M a w F→p) (h:p→Ops E P ops Q rest Γ M):Ops E P ops Q rest Γ M:=fun a w F s=>h (hp a w F s) a w F s
theorem Has.ltU {x:Operand} {n:Nat} (h:Has E Γ M x (isU n)):∀a w F,Sat E Γ M a w F→n<18446744073709551616:=fun a w F s=>(h a w F s).2
theorem Has.rngI {x:Operand} {z:Int} (h:Has E Γ M x (isI z)):∀a w F,Sat E Γ M a w F → -9223372036854775808≤z∧z<9223372036854775808:=fun a w F s=>(h a w F s).2
class BP (b:Bool) (T F:outParam Prop):Prop where
 t:b=true→T
 f:b=false→F
instance (priority:=50) {b:Bool}:BP b (b=true) (b=false):=⟨id,id⟩
instance (priority:=100) {p:Prop} {i:Decidable p}:BP (@decide p i) p (¬p):=⟨of_decide_eq_true,of_decide_eq_false⟩
instance {m n:Nat} {i:Decidable (m<n)}:BP (@decide (m<n) i) (m<n) (n≤m):=⟨of_decide_eq_true,fun h=>Nat.le_of_not_lt (of_decide_eq_false h)⟩
instance {m n:Nat} {i:Decidable (m≤n)}:BP (@decide (m≤n) i) (m≤n) (n<m):=⟨of_decide_eq_true,fun h=>Nat.lt_of_not_le (of_decide_eq_false h)⟩
instance {m n:Int} {i:Decidable (m<n)}:BP (@decide (m<n) i) (m<n) (n≤m):=⟨of_decide_eq_true,fun h=>Int.not_lt.1 (of_decide_eq_false h)⟩
instance {m n:Int} {i:Decidable (m≤n)}:BP (@decide (m≤n) i) (m≤n) (n<m):=⟨of_decide_eq_true,fun h=>Int.not_le.1 (of_decide_eq_false h)⟩
instance {b:Bool} {T F:Prop} [h:BP b T F]:BP (!b) F T:=⟨fun e=>h.f (by cases b <;> simp_all),fun e=>h.t (by cases b <;> simp_all)⟩
instance {b c:Bool} {T F T' F':Prop} [h:BP b T F] [k:BP c T' F']:BP (b&&c) (T∧T') (F∨F'):=
 ⟨fun e=>by rw[Bool.and_eq_true] at e;exact⟨h.t e.1,k.t e.2⟩,fun e=>by rw[Bool.and_eq_false_iff] at e;exact e.imp h.f k.f⟩
instance {b c:Bool} {T F T' F':Prop} [h:BP b T F] [k:BP c T' F']:BP (b||c) (T∨T') (F∧F'):=
 ⟨fun e=>by rw[Bool.or_eq_true] at e;exact e.imp h.t k.t,fun e=>by rw[Bool.or_eq_false_iff] at e;exact⟨h.f e.1,k.f e.2⟩⟩
instance (priority:=2000) {b:Bool} {T F:Prop} [h:BP b T F]:BP (true&&b) T F:=⟨fun e=>h.t (by simpa using e),fun e=>h.f (by simpa using e)⟩
instance (priority:=2000) {b:Bool} {T F:Prop} [h:BP b T F]:BP (false||b) T F:=⟨fun e=>h.t (by simpa using e),fun e=>h.f (by simpa using e)⟩
instance (priority:=2000) {b:Bool} {T F:Prop} [h:BP b T F]:BP ((!true)||b) T F:=⟨fun e=>h.t (by simpa using e),fun e=>h.f (by simpa using e)⟩
def Cv (E:Env) (Γ:Ctx) (M:Mem) (Γ':Ctx) (M':Mem):Prop:=∀a w F,Sat E Γ M a w F→∃F',Sat E Γ' M' a w F'
theorem Tri.cv {c:Code} {Γ':Ctx} {M':Mem} (h:Cv E Γ M Γ' M') (k:Tri E P c Γ' M' Q):Tri E P c Γ M Q:=fun a w F s=>let ⟨F',s'⟩:=h a w F s;k a w F' s'
theorem Ops.cv {Γ':Ctx} {M':Mem} (h:Cv E Γ M Γ' M') (k:Ops E P ops Q rest Γ' M'):Ops E P ops Q rest Γ M:=fun a w F s=>let ⟨F',s'⟩:=h a w F s;k a w F' s'
theorem At.cv {Γ':Ctx} {M':Mem} {e:Exit} (h:Cv E Γ M Γ' M') (k:At E Γ' M' Q e):At E Γ M Q e:=fun a w F s=>let ⟨F',s'⟩:=h a w F s;k a w F' s'
inductive Wk (E:Env) (Γ:Ctx) (M:Mem):Ctx→Prop
 | nil:Wk E Γ M []
 | cons {t:Nat} {S:VP} {r:Ctx}:Has E Γ M (.tmp t) S→Wk E Γ M r→Wk E Γ M ((t,S)::r)
theorem Wk.k {E:Env} {Γ Γ':Ctx} {M:Mem} {S:VP} (t:Nat) (h:zR Γ t=some S) (w:Wk E Γ M Γ'):Wk E Γ M ((t,S)::Γ'):=.cons (Has.t h) w
def kE (Γ:Ctx):List Nat→Option Ctx
  | []=>some []
  | t::ts=>match zR Γ t with
    | none=>none
    | some S=>match kE Γ ts with
      | none=>none
      | some r=>some ((t,S)::r)
theorem Wk.l {E:Env} {Γ:Ctx} {M:Mem}:∀(ts:List Nat) {Γ':Ctx},kE Γ ts=some Γ'→Wk E Γ M Γ'
  | [],Γ',h=>by cases h;exact .nil
  | t::ts,Γ',h=>by
    unfold kE at h
    split at h
    · cases h
    · next S hS=>
      split at h
      · cases h
      · next r hr=>cases h;exact .cons (Has.t hS) (Wk.l ts hr)
theorem Wk.c {E:Env} {Γ Γ':Ctx} {M:Mem} {S S':VP} (t:Nat) (h:zR Γ t=some S) (e:S=S') (w:Wk E Γ M Γ'):Wk E Γ M ((t,S')::Γ'):=.cons (Has.t' h e) w
theorem Wk.has {Γ':Ctx} (h:Wk E Γ M Γ'):∀t S,zR Γ' t=some S→Has E Γ M (.tmp t) S:=by
  induction h with
  | nil=>intro t S h;simp[zR] at h
  | @cons t0 S0 r h0 _ ih=>
    intro t S h
    simp only[zR] at h
    cases hb:Nat.beq t0 t with
    | true=>rw[hb] at h;simp at h;subst h;rw[←Nat.eq_of_beq_eq_true hb];exact h0
    | false=>rw[hb] at h;exact ih t S h
theorem Cv.wk {Γ':Ctx} (h:Wk E Γ M Γ'):Cv E Γ M Γ' M:=fun a w F s=>
 ⟨F,{ defers:=s.defers,size:=s.size,keep:=s.keep,f0:=s.f0,fnew:=s.fnew,flt:=s.flt,mem:=s.mem,slots:=fun t S ht=>h.has t S ht a w F s }⟩
theorem Tri.w {c:Code} {Γ':Ctx} (ts:List Nat) (h:kE Γ ts=some Γ') (k:Tri E P c Γ' M Q):Tri E P c Γ M Q:=.cv (.wk (.l ts h)) k
theorem Ops.w {Γ':Ctx} (ts:List Nat) (h:kE Γ ts=some Γ') (k:Ops E P ops Q rest Γ' M):Ops E P ops Q rest Γ M:=.cv (.wk (.l ts h)) k
theorem Cv.drop {M':Mem} (h:M'.Sublist M):Cv E Γ M Γ M':=fun a w F s=>
  ⟨F, { defers := s.defers, size := s.size, keep := s.keep, f0 := s.f0, fnew := s.fnew, flt := s.flt, slots := s.slots,
        mem:=⟨s.mem.apart.sublist h,fun b C hb=>s.mem.each b C (h.subset hb)⟩ }⟩
theorem Cv.trans {Γ' Γ'':Ctx} {M' M'':Mem} (h:Cv E Γ M Γ' M') (k:Cv E Γ' M' Γ'' M''):Cv E Γ M Γ'' M'':=fun a w F s=>
 let ⟨F',s'⟩:=h a w F s;k a w F' s'
theorem Cv.refl : Cv E Γ M Γ M:=fun _ _ F s=>⟨F,s⟩
theorem Tri.loop {τ:Type} {c:Code} (I:τ→Ctx) (J:τ→Mem) (μ:τ→Nat) (x0:τ) (h0:Cv E Γ M (I x0) (J x0))
  (mM:∀x,∀K:Act→World→Prop,(∀y Γ' M',μ y<μ x→Cv E Γ' M' (I y) (J y)→iV E Γ' M' K)→Tri E P c (I x) (J x) (Exit.then K Q)):Tri E P (.loop c) Γ M Q:=by
 intro a w F s
 obtain⟨F',s'⟩:=h0 a w F s
 refine wp_loop_ghost (fun n a w=>∃x F,μ x=n∧Sat E (I x) (J x) a w F) (μ x0) ⟨x0,F',rfl,s'⟩ ?_
 rintro n a w ⟨x,F,rfl,s⟩
 refine mM x _ ?_ a w F s
 intro y Γ' M' hlt hcv a w F s
 obtain⟨F',s'⟩:=hcv a w F s
 exact⟨μ y,hlt,y,F',rfl,s'⟩
theorem Tri.cut {τ:Type} {x y:Code} (I:τ→Ctx) (J:τ→Mem)
  (h1:∀K:Act→World→Prop,(∀y Γ' M',Cv E Γ' M' (I y) (J y)→iV E Γ' M' K)→Tri E P x Γ M (Exit.then K Q))
  (h2:∀z,Tri E P y (I z) (J z) Q):Tri E P (.seq x y) Γ M Q:=by
 intro a w F s
 refine wp_seq_k fun K hK=>h1 K ?_ a w F s
 intro z Γ' M' hcv a w F s
 obtain⟨F',s'⟩:=hcv a w F s
 exact hK a w (h2 z a w F' s')
def qh : List Nat→Ctx→Ctx
  | [],_=>[]
  | t::ts,Γ=>match zR Γ t with
    | some S=>(t,S)::qh ts Γ
    | none=>qh ts Γ
def setAt (M:Mem) (i:Nat) (C:MP):Mem:=match M,i with
 | [],_=>[]
 | (k,_)::r,0=>(k,C)::r
 | x::r,i+1=>x::setAt r i C
theorem Tri.loopF {τ:Type} {c:Code} (ts:List Nat) (I:τ→Ctx) (J:Mem→τ→Mem) (μ:τ→Nat) (x0:τ) (h0:Cv E Γ M (I x0++qh ts Γ) (J M x0))
  (mM:∀x,∀K:Act→World→Prop,(∀y Γ' M',μ y<μ x→Cv E Γ' M' (I y++qh ts Γ) (J M y)→iV E Γ' M' K)→Tri E P c (I x++qh ts Γ) (J M x) (Exit.then K Q)):Tri E P (.loop c) Γ M Q:=
 Tri.loop (fun x=>I x++qh ts Γ) (J M) μ x0 h0 mM
theorem Tri.cutF {τ:Type} {x y:Code} (ts:List Nat) (I:τ→Ctx) (J:Mem→τ→Mem)
  (h1:∀K:Act→World→Prop,(∀z Γ' M',Cv E Γ' M' (I z++qh ts Γ) (J M z)→iV E Γ' M' K)→Tri E P x Γ M (Exit.then K Q))
  (h2:∀z,Tri E P y (I z++qh ts Γ) (J M z) Q):Tri E P (.seq x y) Γ M Q:=Tri.cut _ _ h1 h2
def Ret (w:World) (F:Blk) (R:VP):Ending→World→Prop:=fun e w'=>∃v,e=.returned v∧Keep [] w w'∧R.h w' (aE F w w') v
def iE (P : Program) (f : FuncId) : Prop := ∃ fn, P.funcs[f]? = some fn ∧ fn.body.isSome = true ∧ (fn.name == "runtime.NumGoroutine") = false
def Ctr (P:Program) (f:FuncId) (Ss:List VP) (R:VP):Prop:=
 iE P f∧∀(w:World) (F:Blk) (vs:List Value),(∀b,F b→b<w.heap.size)→All2 Ss w F vs→Calls P f vs.toArray w (Ret w F R)
def jD : Nat→List VP→Ctx
 | _,[]=>[]
 | i,S::Ss=>(i,S)::jD (i+1) Ss
theorem aC : ∀(Ss:List VP) (i t:Nat) (S:VP),zR (jD i Ss) t=some S→i≤t∧Ss[t-i]?=some S
  | [],i,t,S,h=>by simp[jD,zR] at h
  | S0::Ss,i,t,S,h=>by
    simp only[jD,zR] at h
    cases hb:Nat.beq i t with
    | true=>rw[hb] at h;have:=Nat.eq_of_beq_eq_true hb;subst this;simpa using h
    | false=>
      rw[hb] at h
      have hne:=Nat.ne_of_beq_eq_false hb
      obtain⟨h1,h2⟩:=aC Ss (i+1) t S h
      refine⟨by omega,?_⟩
      rw[show t-i=(t-(i+1))+1 by omega]
      simpa using h2
theorem Ctr.intro {f : FuncId} {fn : Func} {c : Code} {Ss : List VP} {R : VP} (hf : P.funcs[f]? = some fn) (hb : fn.body = some c) (hn : (fn.name == "runtime.NumGoroutine") = false) {nt : Nat} (hnt : fn.ntmps = nt)
  (hsz:Nat.ble Ss.length nt=true)
  (h:∀w F,Tri ⟨w,F,[],nt⟩ P c (jD 0 Ss) [] (bodyPost P fn (Ret w F R))):Ctr P f Ss R:=by
 subst hnt
 refine⟨⟨fn,hf,by simp[hb],hn⟩,fun w F vs hF hargs=>?_⟩
 have hlen:=hargs.len
 have hsz':Ss.length≤fn.ntmps:=by simpa using Nat.le_of_ble_eq_true hsz
 refine calls_of_wp hf hb (h w F _ w F ?_)
 refine { defers:=rfl,size:=?_,keep:=Keep.refl _ _,f0:=fun _ h=>h,fnew:=fun _ h=>.inl h,flt:=hF,slots:=?_,mem:=⟨List.Pairwise.nil,by simp⟩ }
 ·simp;omega
 ·intro t S ht
  obtain⟨_,h2⟩:=aC Ss 0 t S ht
  obtain⟨v,hv,hS⟩:=hargs.get t S (by simpa using h2)
  have:(vs.toArray++Array.replicate (fn.ntmps-vs.toArray.size) undef).getD t undef=v:=by
   have hlt:t<vs.length:=by
    rcases Nat.lt_or_ge t vs.length with h|h
    ·exact h
    ·simp[List.getElem?_eq_none h] at hv
   have e:vs[t]=v:=by rw[List.getElem?_eq_getElem hlt] at hv;exact Option.some.inj hv
   simp[Array.getElem?_append,hlt,e]
  rw[this];exact hS
theorem Ctr.i {f:FuncId} {fn:Func} {c:Code} {Ss:List VP} {R:VP} {nt:Nat} (hf:P.funcs[f]?=some fn) (hb:fn.body=some c) (hnt:fn.ntmps=nt)
    (h : ∀ w F, Tri ⟨w, F, [], nt⟩ P c (jD 0 Ss) [] (bodyPost P fn (Ret w F R))) (hn : (fn.name == "runtime.NumGoroutine") = false := by kernel_rfl) (hsz : Nat.ble Ss.length nt = true := by exact rfl) : Ctr P f Ss R := .intro hf hb hn hnt hsz h
theorem Tri.cd {E:Env} {P:Program} {Γ:Ctx} {M:Mem} {Q:Exit→Act→World→Prop} {t:Nat} {x y:Code} {b:Bool} {T F:Prop} [bp:BP b T F] (hc:zR Γ t=some (isB b)) (h1:T→Tri E P x Γ M Q) (h2:F→Tri E P y Γ M Q):Tri E P (.cond (.tmp t) x y) Γ M Q:=.cond (Has.t hc) (fun h=>h1 (bp.t h)) fun h=>h2 (bp.f h)
end
end Go.En
namespace Go.En
open Go.RowKit
section
variable {E : Env} {P : Program} {Γ : Ctx} {M : Mem} {d : Option Tmp} {ty : TypeId} {pos : String} {after : Array Edge} {gd : Option (Nat × Bool)}
theorem OK1.mv {x:Operand} {S:VP} (h:Has E Γ M x S):OK1 E P Γ M ⟨d,.move x,ty,pos,after,gd⟩ S:=
 .run fun a w F s=>⟨_,rfl,h a w F s⟩
theorem OK1.as {x:Operand} {S:VP} (h:Has E Γ M x S):OK1 E P Γ M ⟨d,.assign x,ty,pos,after,gd⟩ S:=
 .run fun a w F s=>⟨_,rfl,h a w F s⟩
def mvO (n:Nat) (Γ:Ctx) (o:Oper):Option (Nat×VP):=match o.dst,o.op,o.guard with
  | some d,.move (.tmp t),none=>match Nat.blt d n with
    | true=>(zR Γ t).map fun S=>(d,S)
    | false=>none
  | some d,.assign (.tmp t),none=>match Nat.blt d n with
    | true=>(zR Γ t).map fun S=>(d,S)
    | false=>none
  | _,_,_=>none
theorem bA {n d:Nat} {S:VP} {o:Oper} (h:mvO n Γ o=some (d,S)):o.dst=some d∧o.guard=none∧Nat.blt d n=true∧∃t,zR Γ t=some S∧(o.op=.move (.tmp t)∨o.op=.assign (.tmp t)):=by
  unfold mvO at h
  split at h
  · next d' t h1 h2 h3=>
    split at h
    · next hb=>cases hl:zR Γ t with
      | none=>rw[hl] at h;cases h
      | some S'=>rw[hl] at h;cases h;exact⟨h1,h3,hb,t,hl,.inl h2⟩
    · cases h
  · next d' t h1 h2 h3=>
    split at h
    · next hb=>cases hl:zR Γ t with
      | none=>rw[hl] at h;cases h
      | some S'=>rw[hl] at h;cases h;exact⟨h1,h3,hb,t,hl,.inr h2⟩
    · cases h
  · cases h
theorem OK1.mvo {n d:Nat} {S:VP} {o:Oper} (h:mvO n Γ o=some (d,S)):OK1 E P Γ M o S:=by
  obtain⟨h1,h2,h3,t,h4,h5⟩:=bA h
  obtain⟨dst,op,ty,pos,after,guard⟩:=o
  subst h1 h2
  rcases h5 with h5|h5 <;> subst h5
  · exact .mv (Has.t h4)
  · exact .as (Has.t h4)
theorem stM {ops:Array Oper} {Q:Exit→Act→World→Prop} {rest:List Oper} {o:Oper} {d:Nat} {S:VP} (h:mvO E.n Γ o=some (d,S)) (k:Ops E P ops Q rest ((d,S)::Γ) M):Ops E P ops Q (o::rest) Γ M:=by
  have h0:=OK1.mvo (E:=E) (P:=P) (M:=M) h
  obtain⟨h1,h2,h3,-⟩:=bA h
  obtain⟨dst,op,ty,pos,after,guard⟩:=o
  subst h1 h2
  exact st h0 h3 k
def obO (n:Nat) (l:List Oper) (i:Nat):Option (Oper×Nat):=match l[i]? with
  | none=>none
  | some o=>match o.dst,o.guard with
    | some d,none=>match Nat.blt d n with
      | true=>some (o,d)
      | false=>none
    | _,_=>none
theorem dC {n d i:Nat} {l:List Oper} {o:Oper} (h:obO n l i=some (o,d)):l[i]?=some o∧o.dst=some d∧Nat.blt d n=true∧o.guard=none:=by
  unfold obO at h
  split at h
  · cases h
  · next o' h1=>
    split at h
    · next d' h2 h3=>
      split at h
      · next hb=>cases h;exact⟨h1,h2,hb,h3⟩
      · cases h
    · cases h
def omO (n:Nat) (Γ:Ctx) (l:List Oper) (i:Nat):Option (Oper×Nat×VP):=match l[i]? with
  | none=>none
  | some o=>match mvO n Γ o with
    | none=>none
    | some p=>some (o,p)
theorem gC {n d i:Nat} {S:VP} {l:List Oper} {o:Oper} (h:omO n Γ l i=some (o,d,S)):l[i]?=some o∧mvO n Γ o=some (d,S):=by
  unfold omO at h
  split at h
  · cases h
  · next o' h1=>
    split at h
    · cases h
    · next p h2=>cases h;exact⟨h1,h2⟩
theorem zCK {k:IntKind} {z:Int} (h:rng k z):k.wrap z=z:=by
 obtain⟨h1,h2⟩:=h
 cases k <;> simp[IntKind.wrap,IntKind.min,IntKind.max,IntKind.signed,IntKind.bits] at*<;> (try split) <;> omega
theorem xl (z:Int):IntKind.u64.wrap z=z%18446744073709551616:=by simp[IntKind.wrap,IntKind.signed,IntKind.bits]
theorem vO {z:Int} (h : -9223372036854775808≤z) (h':z<9223372036854775808):IntKind.i64.wrap z=z:=
 zCK (k:=.i64) ⟨by simp[IntKind.min,IntKind.signed,IntKind.bits];omega,by simp[IntKind.max,IntKind.signed,IntKind.bits];omega⟩
theorem OK1.bin {op:BinOp} {T T':TypeId} {x y:Operand} {k:IntKind} {m n:Int} {v:Value} {S:VP}
  (hx:∀a w F,Sat E Γ M a w F→a.eval x=.int k m) (hy:∀a w F,Sat E Γ M a w F→a.eval y=.int k n)
  (hr:∀w,(binOp op T (.int k m) (.int k n)).run P w=.ok v w) (hS:∀w F,S.h w F v):OK1 E P Γ M ⟨d,.binOp op T x y T',ty,pos,after,gd⟩ S:=
 .run fun a w F s=>⟨v,by
  have h1:=hx a w F s
  have h2:=hy a w F s
  have h3:=hr w
  simp only[execOp,h1,h2]
  simp[go_sem,h3],hS w F⟩
theorem evU {x:Operand} {n:Nat} (h:Has E Γ M x (isU n)):∀a w F,Sat E Γ M a w F→a.eval x=.int .u64 n:=fun a w F s=>(h a w F s).1
theorem evI {x:Operand} {n:Int} (h:Has E Γ M x (isI n)):∀a w F,Sat E Γ M a w F→a.eval x=.int .i64 n:=fun a w F s=>(h a w F s).1
theorem evK {k:IntKind} {x:Operand} {n:Int} (h:Has E Γ M x (isK k n)):∀a w F,Sat E Γ M a w F→a.eval x=.int k n:=fun a w F s=>(h a w F s).1
theorem ve {n:Nat} {z:Int} (h:z=(n:Int)) (h2:n<18446744073709551616) (w:World) (F:Blk):(isU n).h w F (.int .u64 z):=⟨by rw[h],h2⟩
theorem wb {z:Int} (h1 : -9223372036854775808≤z) (h2:z<9223372036854775808) (w:World) (F:Blk):(isI z).h w F (.int .i64 z):=⟨rfl,h1,h2⟩
section
variable {T T' : TypeId} {x y : Operand} {m n : Nat} {i j : Int}
theorem cq (k:IntKind) (m n:Int) (w:World):(binOp .add T (.int k m) (.int k n)).run P w=.ok (.int k (k.wrap (m+n))) w:=by simp[binOp,Op.intArith,go_sem]
theorem eh (k:IntKind) (m n:Int) (w:World):(binOp .sub T (.int k m) (.int k n)).run P w=.ok (.int k (k.wrap (m-n))) w:=by simp[binOp,Op.intArith,go_sem]
theorem el (k:IntKind) (m n:Int) (w:World):(binOp .mul T (.int k m) (.int k n)).run P w=.ok (.int k (k.wrap (m*n))) w:=by simp[binOp,Op.intArith,go_sem]
theorem rE (k:IntKind) (m n:Int) (h:n≠0) (w:World):(binOp .quo T (.int k m) (.int k n)).run P w=.ok (.int k (k.wrap (m.tdiv n))) w:=by simp[binOp,Op.intDiv,go_sem,h]
theorem rD (k:IntKind) (m n:Int) (h:n≠0) (w:World):(binOp .rem T (.int k m) (.int k n)).run P w=.ok (.int k (m.tmod n)) w:=by simp[binOp,Op.intDiv,go_sem,h]
theorem OK1.addU (hx:Has E Γ M x (isU m)) (hy:Has E Γ M y (isU n)):OK1 E P Γ M ⟨d,.binOp .add T x y T',ty,pos,after,gd⟩ (isU ((m+n)%18446744073709551616)):=
 .bin (evU hx) (evU hy) (cq _ _ _) (fun w F=>ve (by rw[xl];omega) (by omega) w F)
theorem OK1.addU' (hx:Has E Γ M x (isU m)) (hy:Has E Γ M y (isU n)) (h:m+n<18446744073709551616):OK1 E P Γ M ⟨d,.binOp .add T x y T',ty,pos,after,gd⟩ (isU (m+n)):=
 .bin (evU hx) (evU hy) (cq _ _ _) (fun w F=>ve (by rw[xl];omega) (by omega) w F)
theorem OK1.subU (hx:Has E Γ M x (isU m)) (hy:Has E Γ M y (isU n)) (hn:n<18446744073709551616):OK1 E P Γ M ⟨d,.binOp .sub T x y T',ty,pos,after,gd⟩ (isU ((m+(18446744073709551616-n))%18446744073709551616)):=
 .bin (evU hx) (evU hy) (eh _ _ _) (fun w F=>ve (by rw[xl];omega) (by omega) w F)
theorem OK1.subU' (hx:Has E Γ M x (isU m)) (hy:Has E Γ M y (isU n)) (h:n≤m) (h2:m<18446744073709551616):OK1 E P Γ M ⟨d,.binOp .sub T x y T',ty,pos,after,gd⟩ (isU (m-n)):=
 .bin (evU hx) (evU hy) (eh _ _ _) (fun w F=>ve (by rw[xl];omega) (by omega) w F)
theorem OK1.mulU (hx:Has E Γ M x (isU m)) (hy:Has E Γ M y (isU n)):OK1 E P Γ M ⟨d,.binOp .mul T x y T',ty,pos,after,gd⟩ (isU (m*n%18446744073709551616)):=
 .bin (evU hx) (evU hy) (el _ _ _) (fun w F=>ve (by rw[xl,←Int.natCast_mul];rfl) (Nat.mod_lt _ (by decide)) w F)
theorem OK1.mulU' (hx:Has E Γ M x (isU m)) (hy:Has E Γ M y (isU n)) (h:m*n<18446744073709551616):OK1 E P Γ M ⟨d,.binOp .mul T x y T',ty,pos,after,gd⟩ (isU (m*n)):=
 .bin (evU hx) (evU hy) (el _ _ _) (fun w F=>ve (by rw[xl,←Int.natCast_mul];omega) h w F)
theorem OK1.quoU (hx:Has E Γ M x (isU m)) (hy:Has E Γ M y (isU n)) (h:n≠0) (h2:m<18446744073709551616):OK1 E P Γ M ⟨d,.binOp .quo T x y T',ty,pos,after,gd⟩ (isU (m/n)):=
 have hlt:m/n<18446744073709551616:=Nat.lt_of_le_of_lt (Nat.div_le_self _ _) h2
 .bin (evU hx) (evU hy) (rE _ _ _ (by omega)) (fun w F=>ve (by
  rw[xl,Int.tdiv_eq_ediv_of_nonneg (by omega),←Int.natCast_ediv];generalize m/n=q at *;omega) hlt w F)
theorem OK1.remU (hx:Has E Γ M x (isU m)) (hy:Has E Γ M y (isU n)) (h:n≠0) (h2:m<18446744073709551616):OK1 E P Γ M ⟨d,.binOp .rem T x y T',ty,pos,after,gd⟩ (isU (m%n)):=
 have hlt:m%n<18446744073709551616:=Nat.lt_of_le_of_lt (Nat.mod_le _ _) h2
 .bin (evU hx) (evU hy) (rD _ _ _ (by omega)) (fun w F=>ve (by
  rw[Int.tmod_eq_emod_of_nonneg (by omega),←Int.natCast_emod]) hlt w F)
theorem OK1.addI (hx:Has E Γ M x (isI i)) (hy:Has E Γ M y (isI j)) (h1 : -9223372036854775808≤i+j) (h2:i+j<9223372036854775808):OK1 E P Γ M ⟨d,.binOp .add T x y T',ty,pos,after,gd⟩ (isI (i+j)):=
 .bin (evI hx) (evI hy) (cq _ _ _) (fun w F=>by rw[vO h1 h2];exact wb h1 h2 w F)
theorem OK1.subI (hx:Has E Γ M x (isI i)) (hy:Has E Γ M y (isI j)) (h1 : -9223372036854775808≤i-j) (h2:i-j<9223372036854775808):OK1 E P Γ M ⟨d,.binOp .sub T x y T',ty,pos,after,gd⟩ (isI (i-j)):=
 .bin (evI hx) (evI hy) (eh _ _ _) (fun w F=>by rw[vO h1 h2];exact wb h1 h2 w F)
theorem OK1.mulI (hx:Has E Γ M x (isI i)) (hy:Has E Γ M y (isI j)) (h1 : -9223372036854775808≤i*j) (h2:i*j<9223372036854775808):OK1 E P Γ M ⟨d,.binOp .mul T x y T',ty,pos,after,gd⟩ (isI (i*j)):=
 .bin (evI hx) (evI hy) (el _ _ _) (fun w F=>by rw[vO h1 h2];exact wb h1 h2 w F)
theorem OK1.quoI (hx:Has E Γ M x (isI i)) (hy:Has E Γ M y (isI j)) (h:0≤i) (h':0<j) (h2:i<9223372036854775808):OK1 E P Γ M ⟨d,.binOp .quo T x y T',ty,pos,after,gd⟩ (isI (i/j)):=
 have h3:i/j≤i:=Int.ediv_le_self _ h
 have h4:0≤i/j:=Int.ediv_nonneg h (by omega)
 .bin (evI hx) (evI hy) (rE _ _ _ (by omega)) (fun w F=>by rw[Int.tdiv_eq_ediv_of_nonneg h,vO (by omega) (by omega)];exact wb (by omega) (by omega) w F)
theorem OK1.remI (hx:Has E Γ M x (isI i)) (hy:Has E Γ M y (isI j)) (h:0≤i) (h':0<j) (h2:i<9223372036854775808):OK1 E P Γ M ⟨d,.binOp .rem T x y T',ty,pos,after,gd⟩ (isI (i%j)):=
 have h3:0≤i%j:=Int.emod_nonneg _ (by omega)
 have h4:i%j≤i:=by have:=Int.emod_add_mul_ediv i j;have:0≤j*(i/j):=Int.mul_nonneg (by omega) (Int.ediv_nonneg h (by omega));omega
 .bin (evI hx) (evI hy) (rD _ _ _ (by omega)) (fun w F=>by rw[Int.tmod_eq_emod_of_nonneg h];exact wb (by omega) (by omega) w F)
def eQ (op:BinOp) (m n:Int):Bool:=match op with|.eql=>m==n|.neq=>m != n|.lss=>m<n|.leq=>m≤n|.gtr=>m>n|_=>m≥n
theorem vY (op:BinOp) (k:IntKind) (m n:Int) (b:Bool) (hop:eQ op m n=b) (hne:op=.eql∨op=.neq∨op=.lss∨op=.leq∨op=.gtr∨op=.geq) (w:World):
  (binOp op T (.int k m) (.int k n)).run P w=.ok (.bool b) w:=by
 rcases hne with rfl|rfl|rfl|rfl|rfl|rfl <;> simp only[eQ] at hop <;> simp[binOp,Op.intCmp,go_sem] <;> exact hop
theorem OK1.ltU (hx:Has E Γ M x (isU m)) (hy:Has E Γ M y (isU n)):OK1 E P Γ M ⟨d,.binOp .lss T x y T',ty,pos,after,gd⟩ (isB (decide (m<n))):=
 .bin (evU hx) (evU hy) (vY .lss _ _ _ _ (by simp[eQ]) (by simp)) (fun w F=>rfl)
theorem OK1.leU (hx:Has E Γ M x (isU m)) (hy:Has E Γ M y (isU n)):OK1 E P Γ M ⟨d,.binOp .leq T x y T',ty,pos,after,gd⟩ (isB (decide (m≤n))):=
 .bin (evU hx) (evU hy) (vY .leq _ _ _ _ (by simp[eQ]) (by simp)) (fun w F=>rfl)
theorem OK1.gtU (hx:Has E Γ M x (isU m)) (hy:Has E Γ M y (isU n)):OK1 E P Γ M ⟨d,.binOp .gtr T x y T',ty,pos,after,gd⟩ (isB (decide (n<m))):=
 .bin (evU hx) (evU hy) (vY .gtr _ _ _ _ (by simp[eQ]) (by simp)) (fun w F=>rfl)
theorem OK1.geU (hx:Has E Γ M x (isU m)) (hy:Has E Γ M y (isU n)):OK1 E P Γ M ⟨d,.binOp .geq T x y T',ty,pos,after,gd⟩ (isB (decide (n≤m))):=
 .bin (evU hx) (evU hy) (vY .geq _ _ _ _ (by simp[eQ]) (by simp)) (fun w F=>rfl)
theorem sQ (m n:Nat):((m:Int)==(n:Int))=decide (m=n):=by
 by_cases h:m=n
 ·subst h;simp
 ·have:¬((m:Int)=n):=by omega
  simp[h,this]
theorem OK1.eqU (hx:Has E Γ M x (isU m)) (hy:Has E Γ M y (isU n)):OK1 E P Γ M ⟨d,.binOp .eql T x y T',ty,pos,after,gd⟩ (isB (decide (m=n))):=
 .bin (evU hx) (evU hy) (vY .eql _ _ _ _ (by simp only[eQ,sQ]) (by simp)) (fun w F=>rfl)
theorem OK1.neU (hx:Has E Γ M x (isU m)) (hy:Has E Γ M y (isU n)):OK1 E P Γ M ⟨d,.binOp .neq T x y T',ty,pos,after,gd⟩ (isB (!decide (m=n))):=
 .bin (evU hx) (evU hy) (vY .neq _ _ _ _ (by simp only[eQ,bne,sQ]) (by simp)) (fun w F=>rfl)
theorem OK1.ltI (hx:Has E Γ M x (isI i)) (hy:Has E Γ M y (isI j)):OK1 E P Γ M ⟨d,.binOp .lss T x y T',ty,pos,after,gd⟩ (isB (decide (i<j))):=
 .bin (evI hx) (evI hy) (vY .lss _ _ _ _ rfl (by simp)) (fun w F=>rfl)
theorem OK1.leI (hx:Has E Γ M x (isI i)) (hy:Has E Γ M y (isI j)):OK1 E P Γ M ⟨d,.binOp .leq T x y T',ty,pos,after,gd⟩ (isB (decide (i≤j))):=
 .bin (evI hx) (evI hy) (vY .leq _ _ _ _ rfl (by simp)) (fun w F=>rfl)
theorem OK1.gtI (hx:Has E Γ M x (isI i)) (hy:Has E Γ M y (isI j)):OK1 E P Γ M ⟨d,.binOp .gtr T x y T',ty,pos,after,gd⟩ (isB (decide (j<i))):=
 .bin (evI hx) (evI hy) (vY .gtr _ _ _ _ rfl (by simp)) (fun w F=>rfl)
theorem OK1.geI (hx:Has E Γ M x (isI i)) (hy:Has E Γ M y (isI j)):OK1 E P Γ M ⟨d,.binOp .geq T x y T',ty,pos,after,gd⟩ (isB (decide (j≤i))):=
 .bin (evI hx) (evI hy) (vY .geq _ _ _ _ rfl (by simp)) (fun w F=>rfl)
theorem OK1.eqI (hx:Has E Γ M x (isI i)) (hy:Has E Γ M y (isI j)):OK1 E P Γ M ⟨d,.binOp .eql T x y T',ty,pos,after,gd⟩ (isB (decide (i=j))):=
 .bin (evI hx) (evI hy) (vY .eql _ _ _ _ rfl (by simp)) (fun w F=>rfl)
theorem OK1.neI (hx:Has E Γ M x (isI i)) (hy:Has E Γ M y (isI j)):OK1 E P Γ M ⟨d,.binOp .neq T x y T',ty,pos,after,gd⟩ (isB (!decide (i=j))):=
 .bin (evI hx) (evI hy) (vY .neq _ _ _ _ rfl (by simp)) (fun w F=>rfl)
theorem OK1.not {b:Bool} (hx:Has E Γ M x (isB b)):OK1 E P Γ M ⟨d,.unOp .not T x,ty,pos,after,gd⟩ (isB (!b)):=
 .run fun a w F s=>⟨.bool (!b),by
  have h1:a.eval x=.bool b:=hx a w F s
  simp only[execOp,h1];simp[Op.unary,go_sem],rfl⟩
theorem OK1.pickAnd {c:Operand} {b e:Bool} (hc:Has E Γ M c (isB b)) (hx:b=true→Has E Γ M x (isB e)):OK1 E P Γ M ⟨d,.pick c x (.const (.bool false)),ty,pos,after,gd⟩ (isB (b&&e)):=
 .run fun a w F s=>⟨.bool (b&&e),by
  have h1:a.eval c=.bool b:=hc a w F s
  simp only[execOp,h1]
  cases hb:b with
  | true=>have h2:a.eval x=.bool e:=hx hb a w F s;rw[h2];simp[asBool,go_sem]
  | false=>simp[asBool,go_sem,Act.eval],rfl⟩
theorem OK1.pickOr {c:Operand} {b e:Bool} (hc:Has E Γ M c (isB b)) (hx:b=false→Has E Γ M x (isB e)):OK1 E P Γ M ⟨d,.pick c (.const (.bool true)) x,ty,pos,after,gd⟩ (isB (b||e)):=
 .run fun a w F s=>⟨.bool (b||e),by
  have h1:a.eval c=.bool b:=hc a w F s
  simp only[execOp,h1]
  cases hb:b with
  | false=>have h2:a.eval x=.bool e:=hx hb a w F s;rw[h2];simp[asBool,go_sem]
  | true=>simp[asBool,go_sem,Act.eval],rfl⟩
end
def zZ (Ss:List VP):VP:=⟨fun w F v=>∃vs,v=.tuple (List.toArray vs)∧All2 Ss w F vs,fun w w' F F' v h h1 h2=>by
 obtain⟨vs,e,h⟩:=h;exact⟨vs,e,All2.mono h1 h2 _ _ h⟩⟩
def zk (Ss:List VP):VP:=⟨fun w F v=>∃vs,v=.agg (List.toArray vs)∧All2 Ss w F vs,fun w w' F F' v h h1 h2=>by
 obtain⟨vs,e,h⟩:=h;exact⟨vs,e,All2.mono h1 h2 _ _ h⟩⟩
theorem OK1.ext {x:Operand} {Ss:List VP} {S:VP} {i:Nat} (hx:Has E Γ M x (zZ Ss)) (hi:Ss[i]?=some S):OK1 E P Γ M ⟨d,.extract x i,ty,pos,after,gd⟩ S:=
 .run fun a w F s=>by
  obtain⟨vs,e,h⟩:=hx a w F s
  obtain⟨v,hv,hS⟩:=h.get i S hi
  exact⟨v,by simp only[execOp,e];simp[Instr.extract,hv,go_sem],hS⟩
inductive HasL (E:Env) (Γ:Ctx) (M:Mem):List Operand→List VP→Prop
 | nil:HasL E Γ M [] []
 | cons {x:Operand} {S:VP} {xs:List Operand} {Ss:List VP}:Has E Γ M x S→HasL E Γ M xs Ss→HasL E Γ M (x::xs) (S::Ss)
theorem HasL.all {xs:List Operand} {Ss:List VP} (h:HasL E Γ M xs Ss) {a:Act} {w:World} {F:Blk} (s:Sat E Γ M a w F):All2 Ss w F (xs.map a.eval):=by
 induction h with
 | nil=>trivial
 | cons h1 _ ih=>exact⟨h1 a w F s,ih⟩
theorem jh {f:FuncId} (hf:iE P f) (args:Array Value) (w:World):(callFunc f args).run P w=.ok (.enter f args) w:=by
 obtain⟨fn,h1,h2,h3⟩:=hf
 have h3' : ¬ fn.name = "runtime.NumGoroutine" := by simpa using h3
 have h4:¬fn.body=none:=by intro hb;simp[hb] at h2
 simp[callFunc,go_sem,h1,h3',h4]
theorem OK1.call {f:FuncId} {xs:List Operand} {ts:Array TypeId} {Ss:List VP} {R:VP} (hf:Ctr P f Ss R) (hx:HasL E Γ M xs Ss):
  OK1 E P Γ M ⟨d,.call ⟨.value (.func f),xs.toArray,ts⟩,ty,pos,after,gd⟩ R:=by
 intro a w F s K Q hK
 unfold Oper.wp
 have hr:(execOp a.eval (⟨d,.call ⟨.value (.func f),xs.toArray,ts⟩,ty,pos,after,gd⟩:Oper)).run P w=.ok (.enter f (xs.map a.eval).toArray) w:=by
  have:=jh hf.1 (xs.map a.eval).toArray w
  simpa [go_sem] using this
 rw[hr]
 refine (hf.2 w F _ s.flt (hx.all s)).mono ?_
 rintro e w' ⟨v,rfl,hk,hv⟩
 exact hK v w' _ ⟨hk,fun b hb=>.inl hb,fun b hb=>hb⟩ hv
end
end Go.En
namespace Go.En
open Go.RowKit
class One (S:VP):Prop where
 one:∀w F v,S.h w F v→v.oneCell'=true
class Ones (Ss:List VP):Prop where
 ones:∀S∈Ss,One S
instance : Ones []:=⟨by simp⟩
instance {S:VP} {Ss:List VP} [a:One S] [b:Ones Ss]:Ones (S::Ss):=⟨fun x hx=>by
 rcases List.mem_cons.1 hx with rfl|h
 ·exact a
 ·exact b.ones x h⟩
instance {k:IntKind} {z:Int}:One (isK k z):=⟨fun w F v h=>by rw[h.1];rfl⟩
instance {n:Nat}:One (isU n):=⟨fun w F v h=>by rw[h.1];rfl⟩
instance {z:Int}:One (isI z):=⟨fun w F v h=>by rw[h.1];rfl⟩
instance {b:Bool}:One (isB b):=⟨fun w F v h=>by rw[show v=.bool b from h];rfl⟩
theorem All2.one : ∀{Ss:List VP} {w:World} {F:Blk} {vs:List Value},All2 Ss w F vs→(∀S∈Ss,One S)→∀v∈vs,v.oneCell'=true
  | [],_,_,[],_,_,v,hv=>by simp at hv
  | S::Ss,_,_,u::vs,h,ho,v,hv=>by
    rcases List.mem_cons.1 hv with rfl|hv
    · exact (ho S (by simp)).one _ _ _ h.1
    · exact All2.one h.2 (fun x hx=>ho x (by simp[hx])) v hv
  | [],_,_,_::_,h,_,_,_=>h.elim
  | _::_,_,_,[],h,_,_,_=>h.elim
class Shape (S:VP) (Ss:outParam (List VP)):Prop where
 cells:∀w F v,S.h w F v→All2 Ss w F v.cells.toList
instance {Ss:List VP}:Shape (zk Ss) Ss:=⟨fun w F v ⟨vs,e,h⟩=>by subst e;simpa [Value.cells] using h⟩
theorem Shape.of_one {S:VP} (h:One S):Shape S [S]:=⟨fun w F v hv=>by
 have:=h.one w F v hv
 cases v <;> simp[Value.oneCell'] at this <;> exact⟨hv,trivial⟩⟩
instance {k:IntKind} {z:Int}:Shape (isK k z) [isK k z]:=.of_one inferInstance
instance {n:Nat}:Shape (isU n) [isU n]:=.of_one inferInstance
instance {z:Int}:Shape (isI z) [isI z]:=.of_one inferInstance
instance {b:Bool}:Shape (isB b) [isB b]:=.of_one inferInstance
def qX (b off:Nat):VP:=.pure fun v=>v=.pointer (some ⟨b,off,none⟩)
instance {b o:Nat}:One (qX b o):=⟨fun w F v h=>by rw[show v=_ from h];rfl⟩
instance {b o:Nat}:Shape (qX b o) [qX b o]:=.of_one inferInstance
def zC (Ss:List VP):MP:=⟨fun w F o=>∃vs ty,o=.cells (List.toArray vs) ty (0,0)∧All2 Ss w F vs,fun w w' F F' o h h1 h2=>by
 obtain⟨vs,ty,e,h⟩:=h;exact⟨vs,ty,e,All2.mono h1 h2 _ _ h⟩⟩
def tyB (P:Program) (T:TypeId):Option (Nat×Bool):=
 (P.info? T).bind fun i=>(P.underlying T).map fun d=>(i.size,match d with|.struct _|.array _ _=>true|_=>false)
def qe (P:Program) (T:TypeId):Option Value:=(P.info? T).bind (·.zero)
def jb (P:Program) (T:TypeId) (i:Nat):Option (Nat×TypeId):=(P.underlying T).bind fun d=>match d with
 | .struct fs=>(fs[i]?).map fun f=>(f.offset,f.type)
 | _=>none
def slB (P:Program) (T:TypeId):Option TypeId:=(P.underlying T).bind fun d=>match d with
 | .slice e=>some e
 | _=>none
section
variable {P : Program} {T : TypeId} {n : Nat} {w : World}
theorem qV {g:Bool} (h:tyB P T=some (n,g)):(sizeOf T).run P w=.ok n w:=by
  unfold tyB at h
  cases hi:P.info? T with
  | none=>simp[hi] at h
  | some i=>
    cases hu:P.underlying T with
    | none=>simp[hi,hu] at h
    | some dd=>simp[hi,hu] at h;simp[sizeOf,typeInfo,go_sem,hi,h.1]
theorem vt {g:Bool} (h:tyB P T=some (n,g)):(isAgg T).run P w=.ok g w:=by
  unfold tyB at h
  cases hi:P.info? T with
  | none=>simp[hi] at h
  | some i=>
    cases hu:P.underlying T with
    | none=>simp[hi,hu] at h
    | some dd=>
      simp only[hi,hu,Option.bind_some,Option.map_some,Option.some.injEq,Prod.mk.injEq] at h
      obtain⟨_,h2⟩:=h
      have hr:(underlying T).run P w=.ok dd w:=by simp[underlying,go_sem,hu]
      simp only[isAgg,Sem.run_bind,hr,Result.andThen_ok]
      rw[←h2]
      cases dd <;> simp[go_sem]
theorem wu {z:Value} (h:qe P T=some z):(zeroValue T).run P w=.ok z w:=by
 unfold qe at h
 cases hi:P.info? T with
 | none=>simp[hi] at h
 | some i=>simp[hi] at h;simp[zeroValue,typeInfo,go_sem,hi,h]
theorem qd {dd:TypeDesc} (h:P.underlying T=some dd):(underlying T).run P w=.ok dd w:=by simp[underlying,go_sem,h]
end
section
variable {E : Env} {P : Program} {Γ : Ctx} {M : Mem} {ty : TypeId} {pos : String} {after : Array Edge} {gd : Option (Nat × Bool)}
 {ops : Array Oper} {Q : Exit → Act → World → Prop} {rest : List Oper}
theorem Sat.alloc {a:Act} {w:World} {F:Blk} (s:Sat E Γ M a w F) {cells:List Value} {T:TypeId} {Ss:List VP} (h:All2 Ss w F cells):
  Sat E Γ ((some w.heap.size,zC Ss)::M) a { w with heap:=w.heap.push (.cells cells.toArray T) } F:=
 have ad:Adv w F { w with heap:=w.heap.push (.cells cells.toArray T) } F:=⟨Keep.alloc _ _ _,fun _ h=>h,fun _ h=>.inl h⟩
 have s':=s.adv ad
 {s' with mem:=⟨by
   refine List.Pairwise.cons ?_ s'.mem.apart
   intro x hx
   obtain⟨k,C⟩:=x
   cases k with
   | none=>exact .inr (by simp)
   | some k=>exact .inr (by have:=(s.mem.each k C hx).2.1;simp;omega),by
   intro b C hb
   rcases List.mem_cons.1 hb with e|hb
   ·obtain⟨rfl,rfl⟩:b=w.heap.size∧C=zC Ss:=by simpa using e
    refine⟨.inl s.keep.size,by simp,fun hF=>absurd (s.flt _ hF) (by omega),_,by simp,cells,T,rfl,All2.mono (fun b hb=>ad.same s.flt b hb) (fun _ h=>h) _ _ h⟩
   ·exact s'.mem.each b C hb⟩ }
theorem Ops.box {d:Nat} {T:TypeId} {x:Operand} {S:VP} {Ss:List VP} [sh:Shape S Ss] (hx:Has E Γ M x S) (hd:Nat.blt d E.n=true)
  (k:∀b,Ops E P ops Q rest ((d,qX b 0)::Γ) ((some b,zC Ss)::M)):Ops E P ops Q (⟨some d,.box T x,ty,pos,after,none⟩::rest) Γ M:=by
 intro a w F s
 refine wpList_plain rfl fun K hK=>?_
 unfold Oper.wp
 have hr:(execOp a.eval (⟨some d,.box T x,ty,pos,after,none⟩:Oper)).run P w=.ok (.value (.pointer (some ⟨w.heap.size,0,none⟩))) { w with heap:=w.heap.push (.cells (a.eval x).cells T) }:=by
  simp[execOp,Instr.box,newVar,newRow,newObj,go_sem];rfl
 rw[hr]
 have s1:=s.alloc (T:=T) (sh.cells _ _ _ (hx a w F s))
 have hd':d<E.n:=by simpa [Nat.blt_eq] using hd
 exact hK _ _ (k w.heap.size _ _ F (s1.put hd' rfl))
theorem Ops.alloc {d:Nat} {T:TypeId} {z:Value} (Ss:List VP) (hz:qe P T=some z) (hs:∀w F,All2 Ss w F z.cells.toList) (hd:Nat.blt d E.n=true)
  (k:∀b,Ops E P ops Q rest ((d,qX b 0)::Γ) ((some b,zC Ss)::M)):Ops E P ops Q (⟨some d,.alloc T,ty,pos,after,none⟩::rest) Γ M:=by
 intro a w F s
 refine wpList_plain rfl fun K hK=>?_
 unfold Oper.wp
 have hr:(execOp a.eval (⟨some d,.alloc T,ty,pos,after,none⟩:Oper)).run P w=.ok (.value (.pointer (some ⟨w.heap.size,0,none⟩))) { w with heap:=w.heap.push (.cells z.cells T) }:=by
  have:=wu (w:=w) hz
  simp only[execOp,Instr.alloc,newVar,newRow,newObj,Sem.run_bind,this,Result.andThen_ok]
  simp[go_sem];rfl
 rw[hr]
 have s1:=s.alloc (T:=T) (hs w F)
 have hd':d<E.n:=by simpa [Nat.blt_eq] using hd
 exact hK _ _ (k w.heap.size _ _ F (s1.put hd' rfl))
end
end Go.En
namespace Go.En
open Go.RowKit
section
variable {E : Env} {P : Program} {Γ : Ctx} {M : Mem} {ty : TypeId} {pos : String} {after : Array Edge} {gd : Option (Nat × Bool)} {d : Option Tmp}
 {ops : Array Oper} {Q : Exit → Act → World → Prop} {rest : List Oper}
theorem add_zero (b off:Nat):(⟨b,off,none⟩:Addr).add 0=⟨b,off,none⟩:=rfl
theorem xN (b off j:Nat):(⟨b,off,none⟩:Addr).add j=⟨b,off+j,none⟩:=by unfold Addr.add;split <;> simp_all
theorem All2.take : ∀{Ss:List VP} {w:World} {F:Blk} {vs:List Value} (n:Nat),All2 Ss w F vs→All2 (Ss.take n) w F (vs.take n)
 | _,_,_,_,0,_=>by simp[All2]
 | [],_,_,[],n+1,_=>trivial
 | S::Ss,_,_,v::vs,n+1,h=>⟨h.1,All2.take n h.2⟩
 | [],_,_,_::_,_+1,h=>h.elim
 | _::_,_,_,[],_+1,h=>h.elim
theorem All2.drop : ∀{Ss:List VP} {w:World} {F:Blk} {vs:List Value} (n:Nat),All2 Ss w F vs→All2 (Ss.drop n) w F (vs.drop n)
 | _,_,_,_,0,h=>h
 | [],_,_,[],n+1,_=>trivial
 | S::Ss,_,_,v::vs,n+1,h=>All2.drop n h.2
 | [],_,_,_::_,_+1,h=>h.elim
 | _::_,_,_,[],_+1,h=>h.elim
theorem All2.append : ∀{Ss Ts:List VP} {w:World} {F:Blk} {vs us:List Value},All2 Ss w F vs→All2 Ts w F us→All2 (Ss++Ts) w F (vs++us)
 | [],_,_,_,[],_,_,h=>h
 | S::Ss,_,_,_,v::vs,_,h,k=>⟨h.1,All2.append h.2 k⟩
 | [],_,_,_,_::_,_,h,_=>h.elim
 | _::_,_,_,_,[],_,h,_=>h.elim
theorem wv {w:World} {b off n:Nat} {vs:List Value} {T:TypeId} {fr:Nat×Nat} (hb:w.heap[b]?=some (.cells vs.toArray T fr)) (hn:off+n≤vs.length):
  (loadCells ⟨b,off,none⟩ n).run P w=.ok ((vs.drop off).take n).toArray w:=by
 have hl:((vs.drop off).take n).length=n:=by simp;omega
 have:=run_loadCells_list (P:=P) w ⟨b,off,none⟩ ((vs.drop off).take n) (fun j v hj=>by
  rw[xN]
  have hj':j<n:=by
   rcases Nat.lt_or_ge j n with h|h
   ·exact h
   ·rw[List.getElem?_take_eq_none h] at hj;cases hj
  simp only[World.cell?,hb]
  rw[List.getElem?_take_of_lt hj',List.getElem?_drop] at hj
  simpa using hj)
 rw[hl] at this
 exact this
theorem wZ {a:Act} {w:World} {F:Blk} (s:Sat E Γ M a w F) {i b:Nat} {C:MP} (hM:M[i]?=some (some b,C)):∃o,w.heap[b]?=some o∧C.h w F o:=
 (s.mem.each b C (List.mem_of_getElem? hM)).2.2.2
theorem OK1.load {x:Operand} {b off n i:Nat} {T:TypeId} {Ss Ss':List VP} (hx:Has E Γ M x (qX b off)) (hM:M[i]?=some (some b,zC Ss)) (hT:tyB P T=some (n,true))
  (hn:Nat.ble (off+n) Ss.length=true) (hS:(Ss.drop off).take n=Ss'):OK1 E P Γ M ⟨d,.load T x,ty,pos,after,gd⟩ (zk Ss'):=
 .run fun a w F s=>by
  obtain⟨o,hb,vs,T',rfl,hv⟩:=wZ s hM
  have h1:a.eval x=.pointer (some ⟨b,off,none⟩):=hx a w F s
  have hl:=hv.len
  have hn':=Nat.le_of_ble_eq_true hn
  refine⟨.agg ((vs.drop off).take n).toArray,?_,_,rfl,hS▸(hv.drop off).take n⟩
  simp only[execOp,h1,Instr.loadAt,Instr.sureAddr,loadVar,Sem.run_bind,Sem.run_pure,Result.andThen_ok,vt hT,qV hT,if_true]
  rw[wv (P:=P) (n:=n) hb (by omega)]
  rfl
theorem OK1.load1 {x:Operand} {b off i:Nat} {T:TypeId} {Ss:List VP} {S:VP} (hx:Has E Γ M x (qX b off)) (hM:M[i]?=some (some b,zC Ss)) (hT:tyB P T=some (1,false))
  (hS:Ss[off]?=some S):OK1 E P Γ M ⟨d,.load T x,ty,pos,after,gd⟩ S:=
 .run fun a w F s=>by
  obtain⟨o,hb,vs,T',rfl,hv⟩:=wZ s hM
  have h1:a.eval x=.pointer (some ⟨b,off,none⟩):=hx a w F s
  obtain⟨v,hv1,hv2⟩:=hv.get off S hS
  have hc:w.cell? ⟨b,off,none⟩=some v:=by simp[World.cell?,hb,hv1]
  refine⟨v,?_,hv2⟩
  simp only[execOp,h1,Instr.loadAt,Instr.sureAddr,loadVar,Sem.run_bind,Sem.run_pure,Result.andThen_ok,vt hT]
  simp[hc]
theorem OK1.fieldAddr {x:Operand} {b off i o n:Nat} {g:Bool} {T T':TypeId} (hx:Has E Γ M x (qX b off)) (hf:jb P T i=some (o,T')) (ht:tyB P T'=some (n+1,g)):
    OK1 E P Γ M ⟨d,.fieldAddr T x i,ty,pos,after,gd⟩ (qX b (off+o)):=
  .run fun a w F s=>by
    have h1:a.eval x=.pointer (some ⟨b,off,none⟩):=hx a w F s
    refine⟨_,?_,rfl⟩
    unfold jb at hf
    cases hu:P.underlying T with
    | none=>simp[hu] at hf
    | some dd=>
      rw[hu] at hf
      cases dd <;> simp at hf
      rename_i fs
      obtain⟨f,hf1,hf2,hf3⟩:=hf
      subst hf2 hf3
      simp only[execOp,h1,Instr.fieldAt,Instr.sureAddr,fieldPlace,Sem.run_bind,Sem.run_pure,Result.andThen_ok,qd hu,qV ht,hf1]
      simp[xN]
theorem Sat.write {a:Act} {w w':World} {F:Blk} (s:Sat E Γ M a w F) {i b:Nat} {C C':MP} (hM:M[i]?=some (some b,C))
  (hos:w'.os=w.os) (htape:w'.tape=w.tape) (hout:w'.output=w.output) (hsize:w'.heap.size=w.heap.size)
  (hne:∀k,k≠b→w'.heap[k]?=w.heap[k]?) {o:Obj} (ho:w'.heap[b]?=some o) (hC:C'.h w' F o):Sat E Γ (M.set i (some b,C')) a w' F:=by
 obtain⟨h1,h2,h3,o1,h4,h5⟩:=s.mem.each b C (List.mem_of_getElem? hM)
 have hF:∀k,F k→w'.heap[k]?=w.heap[k]?:=fun k hk=>hne k (fun e=>h3 (e▸hk))
 have hi:i<M.length:=by
  rcases Nat.lt_or_ge i M.length with h|h
  ·exact h
  ·rw[List.getElem?_eq_none h] at hM;cases hM
 have hMi:M[i]=(some b,C):=by rw[List.getElem?_eq_getElem hi] at hM;exact Option.some.inj hM
 refine { s with keep:=?_,fnew:=?_,flt:=?_,slots:=?_,mem:=⟨?_,?_⟩ }
 ·refine⟨hos.trans s.keep.os,htape.trans s.keep.tape,hout.trans s.keep.output,by rw[hsize];exact s.keep.size,fun k hk hW=>?_⟩
  rw[hne k (fun e=>by subst e;rcases h1 with h|h;omega;exact hW h)]
  exact s.keep.block k hk hW
 ·intro k hk;rw[hsize];exact s.fnew k hk
 ·intro k hk;rw[hsize];exact s.flt k hk
 ·exact fun t S h=>S.mono _ _ _ _ _ (s.slots t S h) hF (fun _ h=>h)
 ·rw[List.pairwise_iff_getElem]
  intro j k hj hk hjk
  have hp:=List.pairwise_iff_getElem.1 s.mem.apart j k (by simpa using hj) (by simpa using hk) hjk
  simp only[List.getElem_set]
  by_cases e1:i=j
  ·subst e1
   have:¬i=k:=by omega
   simp only[if_true,this,if_false]
   rw[hMi] at hp;exact hp
  ·by_cases e2:i=k
   ·subst e2
    simp only[e1,if_true,if_false]
    rw[hMi] at hp;exact hp
   ·simp only[e1,e2,if_false];exact hp
 ·intro k D hk
  obtain⟨j,hj,he⟩:=List.mem_iff_getElem.1 hk
  simp only[List.getElem_set] at he
  by_cases e1:i=j
  ·subst e1
   simp only[if_true] at he
   obtain⟨rfl,rfl⟩:b=k∧C'=D:=by simpa using he
   exact⟨h1,by rw[hsize];exact h2,h3,o,ho,hC⟩
  ·simp only[e1,if_false] at he
   have hjl:j<M.length:=by simpa using hj
   obtain⟨g1,g2,g3,o2,g4,g5⟩:=s.mem.each k D (he▸List.getElem_mem hjl)
   have hkb:k≠b:=by
    intro e;subst e
    rcases Nat.lt_or_gt_of_ne e1 with hlt|hlt
    ·have hp:=List.pairwise_iff_getElem.1 s.mem.apart i j hi hjl hlt
     rw[hMi,he] at hp;simp at hp
    ·have hp:=List.pairwise_iff_getElem.1 s.mem.apart j i hjl hi hlt
     rw[hMi,he] at hp;simp at hp
   exact⟨g1,by rw[hsize];exact g2,g3,o2,(hne k hkb).trans g4,D.mono _ _ _ _ _ g5 hF (fun _ h=>h)⟩
theorem xo (w:World) (g:Nat) (cs:Array Value) (k:Nat) (h:k≠g):(w.setRow g cs).heap[k]?=w.heap[k]?:=by
 simp only[World.setRow,Array.getElem?_modify]
 rw[if_neg (fun e=>h e.symm)]
theorem jF (w:World) (g:Nat) (cs:Array Value):(w.setRow g cs).heap.size=w.heap.size:=by simp[World.setRow]
theorem Ops.store {x y:Operand} {b off i n:Nat} {g:Bool} {T:TypeId} {Ss Ss1:List VP} {S:VP} [sh:Shape S Ss1] [o1:Ones Ss1] (hx:Has E Γ M x (qX b off)) (hy:Has E Γ M y S)
  (hM:M[i]?=some (some b,zC Ss)) (hT:tyB P T=some (n,g)) (hn:Nat.beq Ss1.length n=true) (hl:Nat.ble (off+n) Ss.length=true) {Ss':List VP} {M':Mem} (hS:Ss.take off++Ss1++Ss.drop (off+n)=Ss')
  (hM':M.set i (some b,zC Ss')=M') (k:Ops E P ops Q rest Γ M'):Ops E P ops Q (⟨none,.store T x y,ty,pos,after,none⟩::rest) Γ M:=by
 intro a w F s
 refine wpList_plain rfl fun K hK=>?_
 obtain⟨o,hb,vs,T',rfl,hv⟩:=wZ s hM
 have h1:a.eval x=.pointer (some ⟨b,off,none⟩):=hx a w F s
 have hy':=sh.cells _ _ _ (hy a w F s)
 have hn':Ss1.length=n:=Nat.eq_of_beq_eq_true hn
 have hl':=Nat.le_of_ble_eq_true hl
 have e1:=hv.len
 have e2:=hy'.len
 have hcs:(a.eval y).cells.size=n:=by rw[←Array.length_toList,←e2,hn']
 unfold Oper.wp
 have hr:(execOp a.eval (⟨none,.store T x y,ty,pos,after,none⟩:Oper)).run P w=.ok .skip (w.setRow b (vs.take off++(a.eval y).cells.toList++vs.drop (off+n)).toArray):=by
  have h2:=run_storeCells_at P b off T' (a.eval y).cells.toList 0 vs.toArray w hb (by simp;omega) (hy'.one o1.ones)
  simp only[Nat.add_zero,Array.length_toList,hcs] at h2
  simp only[execOp,h1,Instr.storeAt,Instr.sureAddr,storeVar,Sem.run_bind,Sem.run_pure,Result.andThen_ok,qV hT,hcs]
  simp only[ne_eq,not_true_eq_false,if_false,h2,Result.andThen_ok]
 rw[hr]
 refine hK _ _ (k _ _ F ?_)
 rw[←hM']
 refine s.write hM rfl rfl rfl (jF _ _ _) (fun k hk=>xo _ _ _ _ hk) (setRow_heap _ _ _ _ _ _ hb) ⟨_,T',rfl,?_⟩
 have hF:∀k,F k→(w.setRow b (vs.take off++(a.eval y).cells.toList++vs.drop (off+n)).toArray).heap[k]?=w.heap[k]?:=fun k hk=>xo _ _ _ _ (fun e=>by
  subst e;exact (s.mem.each k _ (List.mem_of_getElem? hM)).2.2.1 hk)
 refine All2.mono hF (fun _ h=>h) _ _ ?_
 rw[←hS]
 exact ((hv.take off).append hy').append (hv.drop _)
end
end Go.En
namespace Go.En
open Go.RowKit
theorem gl {g c:Bool} (h:(g&&c)=true):g=true:=by cases g <;> simp_all
theorem gr {g c:Bool} (h:(g&&c)=true):c=true:=by cases g <;> simp_all
theorem ng {b:Bool} (h:b=false):(!b)=true:=by rw[h];rfl
theorem ga {g c:Bool} (h:g=true) (k:c=true):(g&&c)=true:=by rw[h,k];rfl
section
variable {E : Env} {P : Program} {Γ : Ctx} {M : Mem} {ty : TypeId} {pos : String} {after : Array Edge}
 {ops : Array Oper} {Q : Exit → Act → World → Prop} {rest : List Oper}
theorem zAM {a:Act} {t:Nat} {b:Bool} (h:a.tmps.getD t undef=.bool b):a.tmps[t]?=some (.bool b):=by
 simp only[Array.getD_eq_getD_getElem?] at h
 cases e:a.tmps[t]? with
 | none=>rw[e] at h;simp[undef] at h
 | some v=>rw[e] at h;simp at h;rw[h]
theorem tZ {a:Act} {t:Nat} (h:a.tmps.getD t undef=undef):a.tmps[t]?=none∨a.tmps[t]?=some undef:=by
 simp only[Array.getD_eq_getD_getElem?] at h
 cases e:a.tmps[t]? with
 | none=>exact .inl rfl
 | some v=>rw[e] at h;simp at h;rw[h];exact .inr rfl
theorem kX {a:Act} {j dj:Nat} {b:Bool} (hj:(ops[j]?).bind (·.dst)=some dj) (h:a.tmps.getD dj undef=.bool b):yielded ops a.tmps j=some b:=by
 simp[yielded,hj,zAM h]
theorem iG {a:Act} {j dj:Nat} (hj:(ops[j]?).bind (·.dst)=some dj) (h:a.tmps.getD dj undef=undef):yielded ops a.tmps j=none:=by
 rcases tZ h with e|e <;> simp[yielded,hj,e,undef]
theorem iZ {a:Act} {w:World} {F:Blk} (s:Sat E Γ M a w F) {o:Oper} {j dj:Nat} {want g c:Bool} (hg:o.guard=some (j,want)) (hj:(ops[j]?).bind (·.dst)=some dj)
    (hs:(G g (isB c)).h w F (a.tmps.getD dj undef)):Region.wanted o (yielded ops a.tmps)=(g&&(c==want)):=by
  simp only[Region.wanted,hg]
  cases hgb:g with
  | true=>
    have:a.tmps.getD dj undef=.bool c:=by simpa [G,hgb,isB,VP.pure] using hs
    rw[kX hj this];cases c <;> cases want <;> rfl
  | false=>
    have:a.tmps.getD dj undef=undef:=by simpa [G,hgb] using hs
    rw[iG hj this];cases want <;> rfl
theorem stG {d:Nat} {op:Op} {S:VP} {j dj:Nat} {want g c:Bool} (hj:(ops[j]?).bind (·.dst)=some dj) (hs:∀a w F,Sat E Γ M a w F→(G g (isB c)).h w F (a.tmps.getD dj undef))
  (h:(g&&(c==want))=true→OK1 E P Γ M ⟨some d,op,ty,pos,after,some (j,want)⟩ S) (hd:Nat.blt d E.n=true) (k:Ops E P ops Q rest ((d,G (g&&(c==want)) S)::Γ) M):
  Ops E P ops Q (⟨some d,op,ty,pos,after,some (j,want)⟩::rest) Γ M:=by
 intro a w F s
 have hd':d<E.n:=by simpa [Nat.blt_eq] using hd
 refine wpList_step fun K hK=>?_
 rw[iZ s rfl hj (hs a w F s)]
 by_cases hw:(g&&(c==want))=true
 ·rw[if_pos hw]
  refine h hw a w F s K Q ?_
  intro v w' F' ad hv
  exact hK _ _ (k _ _ _ ((s.adv ad).put hd' (by show (if _ then _ else _);rw[if_pos hw];exact hv)))
 ·rw[if_neg hw]
  exact hK _ _ (k _ _ _ (s.put hd' (by show (if _ then _ else _);rw[if_neg hw])))
theorem rp {c:Bool} {dj:Nat} (h:zR Γ dj=some (isB c)):∀a w F,Sat E Γ M a w F→(G true (isB c)).h w F (a.tmps.getD dj undef):=fun a w F s=>s.slots dj _ h
theorem hasG1 {g c:Bool} {dj:Nat} (h:zR Γ dj=some (G g (isB c))):∀a w F,Sat E Γ M a w F→(G g (isB c)).h w F (a.tmps.getD dj undef):=fun a w F s=>s.slots dj _ h
theorem e1 {c:Bool}:(true&&(c==true))=c:=by cases c <;> rfl
theorem e2 {c:Bool}:(true&&(c==false))=!c:=by cases c <;> rfl
theorem e3 {g c:Bool}:(g&&(c==true))=(g&&c):=by cases c <;> cases g <;> rfl
theorem e4 {g c:Bool}:(g&&(c==false))=(g&&!c):=by cases c <;> cases g <;> rfl
theorem stT {d:Nat} {op:Op} {S:VP} {j dj:Nat} {c:Bool} (hj:(ops[j]?).bind (·.dst)=some dj) (hs:zR Γ dj=some (isB c))
  (h:c=true→OK1 E P Γ M ⟨some d,op,ty,pos,after,some (j,true)⟩ S) (hd:Nat.blt d E.n=true) (k:Ops E P ops Q rest ((d,G c S)::Γ) M):
  Ops E P ops Q (⟨some d,op,ty,pos,after,some (j,true)⟩::rest) Γ M:=by
 refine stG (S:=S) hj (rp hs) (fun hw=>h (by rwa [e1] at hw)) hd ?_
 rw[e1];exact k
theorem stF {d:Nat} {op:Op} {S:VP} {j dj:Nat} {c:Bool} (hj:(ops[j]?).bind (·.dst)=some dj) (hs:zR Γ dj=some (isB c))
  (h:(!c)=true→OK1 E P Γ M ⟨some d,op,ty,pos,after,some (j,false)⟩ S) (hd:Nat.blt d E.n=true) (k:Ops E P ops Q rest ((d,G (!c) S)::Γ) M):
  Ops E P ops Q (⟨some d,op,ty,pos,after,some (j,false)⟩::rest) Γ M:=by
 refine stG (S:=S) hj (rp hs) (fun hw=>h (by rwa [e2] at hw)) hd ?_
 rw[e2];exact k
theorem km {d:Nat} {op:Op} {S:VP} {j dj:Nat} {g c:Bool} (hj:(ops[j]?).bind (·.dst)=some dj) (hs:zR Γ dj=some (G g (isB c)))
  (h:(g&&c)=true→OK1 E P Γ M ⟨some d,op,ty,pos,after,some (j,true)⟩ S) (hd:Nat.blt d E.n=true) (k:Ops E P ops Q rest ((d,G (g&&c) S)::Γ) M):
  Ops E P ops Q (⟨some d,op,ty,pos,after,some (j,true)⟩::rest) Γ M:=by
 refine stG (S:=S) hj (hasG1 hs) (fun hw=>h (by rwa [e3] at hw)) hd ?_
 rw[e3];exact k
/-! ### drawn orders -/
def lK (ms:List Nat) (o:Oper):Nat:=o.after.toList.foldl (fun acc e=>match Region.binds .any e with
 | true=>acc|||2^e.on|||ms.getD e.on 0
 | false=>acc) 0
def qZ : List Oper→List Nat→List Nat
 | [],ms=>ms
 | o::r,ms=>qZ r (ms++[lK ms o])
theorem xY : ∀(l:List Oper) (ms:List Nat),(qZ l ms).length=ms.length+l.length
 | [],ms=>by simp[qZ]
 | o::r,ms=>by rw[qZ,xY r];simp;omega
theorem dt : ∀(l:List Oper) (ms:List Nat) (i:Nat),i<ms.length→(qZ l ms)[i]?=ms[i]?
 | [],ms,i,h=>rfl
 | o::r,ms,i,h=>by rw[qZ,dt r _ i (by simp;omega),List.getElem?_append_left h]
theorem mm : ∀(l:List Oper) (ms:List Nat) (i:Nat) (o:Oper),l[i]?=some o→∃ms',ms'.length=ms.length+i∧(∀j,j<ms'.length→ms'[j]?=(qZ l ms)[j]?)∧(qZ l ms)[ms.length+i]?=some (lK ms' o)
  | [],ms,i,o,h=>by simp at h
  | o'::r,ms,0,o,h=>by
    simp at h;subst h
    refine⟨ms,by simp,fun j hj=>?_,?_⟩
    · rw[qZ,dt _ _ _ (by simp;omega),List.getElem?_append_left hj]
    · rw[qZ,dt _ _ _ (by simp)];simp
  | o'::r,ms,i+1,o,h=>by
    simp at h
    obtain⟨ms',h1,h2,h3⟩:=mm r (ms++[lK ms o']) i o h
    refine⟨ms',by simp at h1;omega,h2,?_⟩
    rw[qZ,←h3];simp;congr 1;omega
theorem nR (ms:List Nat) (j:Nat):∀(es:List Edge) (acc:Nat),(es.foldl (fun acc e=>match Region.binds .any e with
    | true=>acc|||2^e.on|||ms.getD e.on 0
    | false=>acc) acc).testBit j=true→acc.testBit j=true∨∃e∈es,Region.binds .any e=true∧(e.on=j∨(ms.getD e.on 0).testBit j=true)
  | [],acc,h=>.inl h
  | e::es,acc,h=>by
    rcases nR ms j es _ h with h1|⟨e',h1,h2,h3⟩
    · cases hb:Region.binds .any e with
      | false=>simp only[hb] at h1;exact .inl h1
      | true=>
        simp only[hb] at h1
        simp only[Nat.testBit_or,Bool.or_eq_true,Nat.testBit_two_pow] at h1
        rcases h1 with (h1|h1)|h1
        · exact .inl h1
        · exact .inr ⟨e,by simp,hb,.inl (by simpa using h1)⟩
        · exact .inr ⟨e,by simp,hb,.inr h1⟩
    · exact .inr ⟨e',by simp[h1],h2,h3⟩
def wI (l:List Oper) (L:Nat→Prop):Prop:=∀i o,l[i]?=some o→L i→∀e∈o.after,Region.binds .any e=true→L e.on
theorem wx {l:List Oper} {L:Nat→Prop} (hc:wI l L):∀(i:Nat) (o:Oper),l[i]?=some o→(∀e∈o.after,Region.binds .any e=true→L e.on)→∀j m,(qZ l [])[i]?=some m→m.testBit j=true→L j:=by
  intro i
  induction i using Nat.strongRecOn with
  | _ i ih=>
    intro o ho hd j m hm hj
    obtain⟨ms',h1,h2,h3⟩:=mm l [] i o ho
    simp at h1 h3
    rw[hm] at h3
    obtain rfl:m=lK ms' o:=Option.some.inj h3
    rcases nR ms' j _ _ hj with h|⟨e,he,hb,h⟩
    · simp at h
    · have hL:=hd e (by simpa using he) hb
      rcases h with rfl|h
      · exact hL
      · have hlt:e.on<ms'.length:=by
          rcases Nat.lt_or_ge e.on ms'.length with h'|h'
          · exact h'
          · simp[List.getD,List.getElem?_eq_none h'] at h
        have hol:e.on<l.length:=by
          have:i<l.length:=by
            rcases Nat.lt_or_ge i l.length with h'|h'
            · exact h'
            · rw[List.getElem?_eq_none h'] at ho;cases ho
          omega
        refine ih e.on (by omega) _ (List.getElem?_eq_getElem hol) (fun e' he' hb'=>hc e.on _ (List.getElem?_eq_getElem hol) hL e' he' hb') j (ms'.getD e.on 0) ?_ h
        rw[←h2 e.on hlt];simp[List.getD,List.getElem?_eq_getElem hlt]
def wC : List Oper→List VP→Ctx
  | o::r,S::Ss=>match o.dst with
    | some d=>(d,S)::wC r Ss
    | none=>wC r Ss
  | _,_=>[]
def OKG (E:Env) (P:Program) (ops:Array Oper) (Γ:Ctx) (M:Mem) (o:Oper) (S:VP):Prop:=
  ∀a w F,Sat E Γ M a w F→∀(K:Act→World→Prop) (Q:Exit→Act→World→Prop),(∀v w' F',Adv w F w' F'→S.h w' F' v→K (a.put o.dst v) w')→
    if Region.wanted o (yielded ops a.tmps) then o.wp P a w K Q∨(o.asks P a w∧LetsOut Q) else K (a.put o.dst undef) w
theorem OKG.o {o:Oper} {S:VP} (hg:o.guard=none) (h:OK1 E P Γ M o S):OKG E P ops Γ M o S:=by
 intro a w F s K Q hK
 rw[if_pos (by simp[Region.wanted,hg])]
 exact .inl (h a w F s K Q hK)
theorem OKG.gd {o:Oper} {S:VP} {j dj:Nat} {want g c:Bool} (hg:o.guard=some (j,want)) (hj:(ops[j]?).bind (·.dst)=some dj) (hs:∀a w F,Sat E Γ M a w F→(G g (isB c)).h w F (a.tmps.getD dj undef))
  (h:(g&&(c==want))=true→OK1 E P Γ M o S):OKG E P ops Γ M o (G (g&&(c==want)) S):=by
 intro a w F s K Q hK
 rw[iZ s hg hj (hs a w F s)]
 by_cases hw:(g&&(c==want))=true
 ·rw[if_pos hw]
  exact .inl (h hw a w F s K Q fun v w' F' ad hv=>hK v w' F' ad (by show (if _ then _ else _);rw[if_pos hw];exact hv))
 ·rw[if_neg hw]
  exact hK undef w F (Adv.refl _ _) (by show (if _ then _ else _);rw[if_neg hw])
theorem OKG.T {o:Oper} {S:VP} {j dj:Nat} {c:Bool} (hg:o.guard=some (j,true)) (hj:(ops[j]?).bind (·.dst)=some dj) (hs:zR Γ dj=some (isB c)) (h:c=true→OK1 E P Γ M o S):OKG E P ops Γ M o (G c S):=by
 have:=OKG.gd (S:=S) hg hj (rp hs) (fun hw=>h (by rwa [e1] at hw));rwa [e1] at this
theorem OKG.F {o:Oper} {S:VP} {j dj:Nat} {c:Bool} (hg:o.guard=some (j,false)) (hj:(ops[j]?).bind (·.dst)=some dj) (hs:zR Γ dj=some (isB c)) (h:(!c)=true→OK1 E P Γ M o S):OKG E P ops Γ M o (G (!c) S):=by
 have:=OKG.gd (S:=S) hg hj (rp hs) (fun hw=>h (by rwa [e2] at hw));rwa [e2] at this
structure AdvX (E:Env) (M:Mem) (a:Act) (w:World) (F:Blk) (w':World) (F':Blk):Prop where
 same:∀b,F b→w'.heap[b]?=w.heap[b]?
 sub:∀b,F b→F' b
 adv:∀Γ M',M.Sublist M'→Sat E Γ M' a w F→Sat E Γ M' a w' F'
def OKX (E:Env) (P:Program) (ops:Array Oper) (Γ:Ctx) (M:Mem) (o:Oper) (S:VP):Prop:=
  ∀a w F,Sat E Γ M a w F→∀(K:Act→World→Prop) (Q:Exit→Act→World→Prop),(∀v w' F',AdvX E M a w F w' F'→S.h w' F' v→K (a.put o.dst v) w')→
    if Region.wanted o (yielded ops a.tmps) then o.wp P a w K Q∨(o.asks P a w∧LetsOut Q) else K (a.put o.dst undef) w
theorem OKG.x {o:Oper} {S:VP} (h:OKG E P ops Γ M o S):OKX E P ops Γ M o S:=fun a w F s K Q hK=>h a w F s K Q fun v w' F' ad hv=>hK v w' F' ⟨ad.same s.flt,ad.sub,fun _ _ _ s'=>s'.adv ad⟩ hv
inductive DrO (E:Env) (l:List Oper) (Γ:Ctx) (ok:Ctx→Oper→VP→Prop):Nat→List VP→Prop
 | nil:DrO E l Γ ok 0 []
 | snoc {i d:Nat} {Ss:List VP} {S:VP} {o:Oper} (Δ:Ctx):DrO E l Γ ok i Ss→l[i]?=some o→o.dst=some d→Nat.blt d E.n=true→
   (∀t S,zR Δ t=some S→(∃(j:Nat) (oj:Oper),(((qZ l [])[i]?).getD 0).testBit j=true∧l[j]?=some oj∧oj.dst=some t∧Ss[j]?=some S)∨zR Γ t=some S)→
   ok Δ o S→DrO E l Γ ok (i+1) (Ss++[S])
abbrev DrW (E:Env) (P:Program) (l:List Oper) (Γ:Ctx) (M:Mem):Nat→List VP→Prop:=DrO E l Γ fun Δ o S=>OKX E P l.toArray Δ M o S
theorem zg : ∀(A B:Ctx) (t:Nat),zR (A++B) t=(zR A t).or (zR B t)
  | [],B,t=>by simp[zR]
  | (k,S)::A,B,t=>by
    simp only[List.cons_append,zR]
    cases Nat.beq k t with
    | true=>rfl
    | false=>exact zg A B t
def Done (l:List Oper) (Ss:List VP) (L:Nat→Prop) (a:Act) (w:World) (F:Blk):Prop:=
 ∀j o d S,L j→l[j]?=some o→o.dst=some d→Ss[j]?=some S→S.h w F (a.tmps.getD d undef)
theorem vx : ∀(l:List Oper) (Ss:List VP) (t:Nat) (S:VP),zR (wC l Ss) t=some S→∃(j:Nat) (o:Oper),l[j]?=some o∧o.dst=some t∧Ss[j]?=some S
  | [],Ss,t,S,h=>by simp[wC,zR] at h
  | o::r,[],t,S,h=>by simp[wC,zR] at h
  | o::r,S0::Ss,t,S,h=>by
    simp only[wC] at h
    cases hd:o.dst with
    | none=>rw[hd] at h;obtain⟨j,o',a,b,c⟩:=vx r Ss t S h;exact⟨j+1,o',by simpa using a,b,by simpa using c⟩
    | some d=>
      rw[hd] at h
      simp only[zR] at h
      cases hb:Nat.beq d t with
      | false=>rw[hb] at h;obtain⟨j,o',a,b,c⟩:=vx r Ss t S h;exact⟨j+1,o',by simpa using a,b,by simpa using c⟩
      | true=>
        rw[hb] at h;simp at h;subst h
        obtain rfl:=Nat.eq_of_beq_eq_true hb
        exact⟨0,o,rfl,hd,rfl⟩
theorem DrO.at {l:List Oper} {n:Nat} {Ss:List VP} {ok:Ctx→Oper→VP→Prop} (h:DrO E l Γ ok n Ss):Ss.length=n∧∀i,i<n→∃(o:Oper) (d:Nat) (S:VP) (Δ:Ctx),l[i]?=some o∧o.dst=some d∧d<E.n∧Ss[i]?=some S∧
    (∀t S,zR Δ t=some S→(∃(j:Nat) (oj:Oper),(((qZ l [])[i]?).getD 0).testBit j=true∧l[j]?=some oj∧oj.dst=some t∧Ss[j]?=some S)∨zR Γ t=some S)∧ok Δ o S:=by
  induction h with
  | nil=>exact⟨rfl,fun i hi=>absurd hi (by omega)⟩
  | @snoc i d Ss S o Δ h0 h1 h2 h3 h4 h5 ih=>
    obtain⟨ih1,ih2⟩:=ih
    have up:∀(j:Nat) (T:VP),Ss[j]?=some T→(Ss++[S])[j]?=some T:=fun j T hT=>by
      have:j<Ss.length:=by
        rcases Nat.lt_or_ge j Ss.length with h|h
        · exact h
        · rw[List.getElem?_eq_none h] at hT;cases hT
      rw[List.getElem?_append_left this];exact hT
    refine⟨by simp[ih1],fun k hk=>?_⟩
    by_cases e:k=i
    · subst e
      refine⟨o,d,S,Δ,h1,h2,by simpa [Nat.blt_eq] using h3,by rw[List.getElem?_append_right (by omega)];simp[ih1],fun t T hT=>?_,h5⟩
      rcases h4 t T hT with ⟨j,oj,b1,b2,b3,b4⟩|h
      · exact .inl ⟨j,oj,b1,b2,b3,up j T b4⟩
      · exact .inr h
    · obtain⟨o',d',S',Δ',a1,a2,a3,a4,a5,a6⟩:=ih2 k (by omega)
      refine⟨o',d',S',Δ',a1,a2,a3,up _ _ a4,fun t T hT=>?_,a6⟩
      rcases a5 t T hT with ⟨j,oj,b1,b2,b3,b4⟩|h
      · exact .inl ⟨j,oj,b1,b2,b3,up j T b4⟩
      · exact .inr h
def we (l:List Oper) (n:Nat) (Γ:Ctx):Bool:=
  (List.range n).all fun i=>match (l[i]?).bind (·.dst) with
    | none=>true
    | some d=>(Γ.all fun p=>!Nat.beq p.1 d)&&(List.range n).all fun j=>Nat.beq i j||match (l[j]?).bind (·.dst) with
      | none=>true
      | some e=>!Nat.beq d e
def am (l:List Oper) (n:Nat):Bool:=(List.range l.length).all fun i=>
 (match l[i]? with
 | none=>true
 | some o=>o.after.toList.all fun e=>!Region.binds .any e||Nat.blt e.on i)&&
 (Nat.blt i n||(List.range i).all fun j=>(((qZ l [])[i]?).getD 0).testBit j)
theorem jk {Γ:Ctx} {d:Nat} (h:(Γ.all fun p=>!Nat.beq p.1 d)=true):∀t S,zR Γ t=some S→t≠d:=by
  induction Γ with
  | nil=>intro t S h;simp[zR] at h
  | cons p Γ ih=>
    obtain⟨k,S0⟩:=p
    simp only[List.all_cons,Bool.and_eq_true,Bool.not_eq_true'] at h
    intro t S ht
    simp only[zR] at ht
    cases hb:Nat.beq k t with
    | true=>obtain rfl:=Nat.eq_of_beq_eq_true hb;exact Nat.ne_of_beq_eq_false h.1
    | false=>rw[hb] at ht;exact ih h.2 t S ht
theorem cK {l:List Oper} {n:Nat} (h:am l n=true):(∀(i:Nat) (o:Oper),l[i]?=some o→∀e∈o.after,Region.binds .any e=true→e.on<i)∧
  (∀i,i<l.length→n≤i→∀j,j<i→∃m,(qZ l [])[i]?=some m∧m.testBit j=true):=by
 unfold am at h
 rw[List.all_eq_true] at h
 constructor
 ·intro i o ho e he hb
  have hi:i<l.length:=by
   rcases Nat.lt_or_ge i l.length with h'|h'
   ·exact h'
   ·rw[List.getElem?_eq_none h'] at ho;cases ho
  have:=h i (by simpa using hi)
  rw[ho] at this
  simp only[Bool.and_eq_true,List.all_eq_true] at this
  have h2:=this.1 e (by simpa using he)
  rw[hb] at h2
  simpa [Nat.blt_eq] using h2
 ·intro i hi hn j hj
  have:=h i (by simpa using hi)
  simp only[Bool.and_eq_true,Bool.or_eq_true,List.all_eq_true] at this
  rcases this.2 with h1|h1
  ·rw[Nat.blt_eq] at h1;omega
  ·have hlen:i<(qZ l []).length:=by rw[xY];simpa using hi
   refine⟨_,List.getElem?_eq_getElem hlen,?_⟩
   have:=h1 j (by simpa using hj)
   rw[List.getElem?_eq_getElem hlen] at this
   exact this
theorem oe {l:List Oper} {n:Nat} (htl:am l n=true):∀(fuel i:Nat) (listed:Array Bool) (a:Act) (w:World),n≤i→l.length-i≤fuel→listed.size=l.length→
    (∀j,j<i→j<l.length→listed.getD j true=true)→(∀j,i≤j→j<l.length→listed.getD j true=false)→wI l (fun j=>listed.getD j false=true)→
    wpList P l.toArray Q (l.drop i) a w→wpAny P .any l.toArray Q fuel listed a w:=by
  have hsp:=cK htl
  have only:∀(i:Nat) (listed:Array Bool),n≤i→listed.size=l.length→(∀j,j<i→j<l.length→listed.getD j true=true)→(∀j,i≤j→j<l.length→listed.getD j true=false)→wI l (fun j=>listed.getD j false=true)→
      ∀j,j∈Region.ready .any l.toArray listed→j=i∧i<l.length:=by
    intro i listed hn hsz h1 h2 hc j hj
    rw[mem_ready] at hj
    obtain⟨g1,o,g2,g3⟩:=hj
    have g2':l[j]?=some o:=by simpa using g2
    have hjl:j<l.length:=by
      rcases Nat.lt_or_ge j l.length with h'|h'
      · exact h'
      · rw[List.getElem?_eq_none h'] at g2';cases g2'
    have hge:i≤j:=by
      rcases Nat.lt_or_ge j i with h'|h'
      · rw[h1 j h' hjl] at g1;cases g1
      · exact h'
    rcases Nat.lt_or_ge i j with h'|h'
    · obtain⟨m,hm,hb⟩:=hsp.2 j hjl (by omega) i h'
      have:=wx hc j o g2' g3 i m hm hb
      have e:=h2 i (Nat.le_refl _) (by omega)
      simp only[Array.getD_eq_getD_getElem?] at this e
      have hi:i<listed.size:=by omega
      simp[hi] at this e
      rw[this] at e;cases e
    · exact⟨by omega,by omega⟩
  intro fuel
  induction fuel with
  | zero=>
    intro i listed a w hn hf hsz h1 h2 hc hl
    have hi:l.length≤i:=by omega
    rw[List.drop_eq_nil_of_le hi] at hl
    refine⟨?_,hl⟩
    cases hr:Region.ready .any l.toArray listed with
    | nil=>rfl
    | cons j js=>have:=only i listed hn hsz h1 h2 hc j (by rw[hr];simp);omega
  | succ fuel ih=>
    intro i listed a w hn hf hsz h1 h2 hc hl
    refine⟨fun hr=>?_,fun j hj=>?_⟩
    · rcases Nat.lt_or_ge i l.length with hi|hi
      · have:i∈Region.ready .any l.toArray listed:=by
          rw[mem_ready]
          refine⟨h2 i (Nat.le_refl _) hi,l[i],by simp[hi],fun e he hb=>?_⟩
          have:=hsp.1 i _ (List.getElem?_eq_getElem hi) e he hb
          have h3:=h1 e.on this (by omega)
          have:e.on<listed.size:=by omega
          simp[this] at h3 ⊢;exact h3
        rw[hr] at this;simp at this
      · rw[List.drop_eq_nil_of_le hi] at hl;exact hl
    · obtain⟨rfl,hi⟩:=only i listed hn hsz h1 h2 hc j hj
      have hdrop:l.drop j=l[j]::l.drop (j+1):=List.drop_eq_getElem_cons hi
      rw[hdrop] at hl
      have hnext:∀a w,wpList P l.toArray Q (l.drop (j+1)) a w→wpAny P .any l.toArray Q fuel (listed.setIfInBounds j true) a w:=by
        intro a w hl'
        refine ih (j+1) _ a w (by omega) (by omega) (by simp[hsz]) (fun k hk hkl=>?_) (fun k hk hkl=>?_) ?_ hl'
        · by_cases e:k=j
          · subst e;simp[hsz,hi]
          · rw[getD_set_ne true (fun h=>e h.symm)];exact h1 k (by omega) hkl
        · rw[getD_set_ne true (by omega)];exact h2 k (by omega) hkl
        · intro k o hk hL e he hb
          by_cases ek:k=j
          · subst ek
            exact getD_set_true (by
              rw[mem_ready] at hj
              obtain⟨_,o',ho',hall⟩:=hj
              have:l[k]?=some o':=by simpa using ho'
              rw[hk] at this;obtain rfl:=Option.some.inj this
              exact hall e he hb)
          · exact getD_set_true (hc k o hk (by
              have hL':(listed.setIfInBounds j true).getD k false=true:=hL
              rwa [getD_set_ne false (fun h=>ek h.symm)] at hL') e he hb)
      have ho:l.toArray[j]?=some l[j]:=by simp[hi]
      unfold wpOp
      rw[ho]
      simp only[]
      unfold wpList at hl
      split
      · rename_i hw;rw[if_pos hw] at hl;exact hl.imp (Oper.wp_mono hnext) id
      · rename_i hw;rw[if_neg hw] at hl;exact hnext _ _ hl
theorem Sat.putOut {a:Act} {w:World} {F:Blk} (s:Sat E Γ M a w F) {d:Nat} (hd:d<E.n) (v:Value) (h:∀t S,zR Γ t=some S→t≠d):Sat E Γ M (a.put (some d) v) w F:=
 {defers:=s.defers,size:=by simp[Act.put,s.size],keep:=s.keep,f0:=s.f0,fnew:=s.fnew,flt:=s.flt,mem:=s.mem,
  slots:=fun t S' ht=>by
   rw[jI (by rw[s.size];exact hd),if_neg (fun e=>h t S' ht e.symm)]
   exact s.slots t S' ht }
theorem Sat.wider {Γ':Ctx} {a:Act} {w:World} {F:Blk} (s:Sat E Γ M a w F) (h:∀t S,zR Γ' t=some S→S.h w F (a.tmps.getD t undef)):Sat E Γ' M a w F:={ s with slots:=h }
theorem gv {listed:Array Bool} {n len:Nat} (hsz:listed.size=len) (h:∀j,n≤j→j<len→listed.getD j true=false):len-n≤listed.toList.countP (·==false):=by
 have h1:listed.toList.countP (·==false)=(listed.toList.take n).countP (·==false)+(listed.toList.drop n).countP (·==false):=by
  rw[←List.countP_append,List.take_append_drop]
 have h2:(listed.toList.drop n).countP (·==false)=(listed.toList.drop n).length:=by
  rw[List.countP_eq_length]
  intro b hb
  obtain⟨j,hj,rfl⟩:=List.mem_iff_getElem.1 hb
  simp at hj
  have:=h (n+j) (by omega) (by omega)
  have hlt:n+j<listed.size:=by omega
  simp[hlt] at this
  simp[this]
 rw[List.length_drop,Array.length_toList,hsz] at h2
 omega
theorem zHX {l:List Oper} {n:Nat} {Ss:List VP} (hD:DrW E P l Γ M n Ss) (hap:we l n Γ=true) (htl:am l n=true) (hnl:n≤l.length)
    (k:Ops E P l.toArray Q (l.drop n) (wC (l.take n) Ss++Γ) M):
    ∀(fuel:Nat) (listed:Array Bool) (a:Act) (w:World) (F:Blk),listed.toList.countP (·==false)≤fuel→listed.size=l.length→
    (∀j,n≤j→j<l.length→listed.getD j true=false)→wI l (fun j=>listed.getD j false=true)→Sat E Γ M a w F→Done l Ss (fun j=>listed.getD j false=true) a w F→
    wpAny P .any l.toArray Q fuel listed a w:=by
  obtain⟨hlen,hat⟩:=hD.at
  have hsp:=cK htl
  have gd:∀(listed:Array Bool) j,j<listed.size→listed.getD j true=listed.getD j false:=fun listed j hj=>by simp[hj]
  have hapart:∀i d,i<n→(l[i]?).bind (·.dst)=some d→(∀t S,zR Γ t=some S→t≠d)∧∀j e,j<n→j≠i→(l[j]?).bind (·.dst)=some e→e≠d:=by
    intro i d hi hd
    unfold we at hap
    rw[List.all_eq_true] at hap
    have h1:=hap i (by simpa using hi)
    rw[hd] at h1
    simp only[Bool.and_eq_true] at h1
    refine⟨jk h1.1,fun j e hj hne he=>?_⟩
    have h2:=List.all_eq_true.1 h1.2 j (by simpa using hj)
    rw[he] at h2
    simp only[Bool.or_eq_true,Bool.not_eq_true'] at h2
    rcases h2 with h2|h2
    · exact absurd (Nat.eq_of_beq_eq_true h2).symm hne
    · exact fun e'=>Nat.ne_of_beq_eq_false h2 e'.symm
  intro fuel
  induction fuel with
  | zero=>
    intro listed a w F hcnt hsz htail hc s hdone
    have hge:=gv hsz htail
    have hall:∀j,j<n→j<l.length→listed.getD j true=true:=by
      intro j hj hjl
      have hlt:j<listed.size:=by omega
      have h0:listed.toList.countP (·==false)=0:=by omega
      rw[List.countP_eq_zero] at h0
      have:=h0 listed[j] (by simp)
      simp[hlt]
      simpa using this
    refine oe htl 0 n listed a w (Nat.le_refl _) (by omega) hsz hall htail hc (k a w F (s.wider ?_))
    intro t S ht
    rw[zg] at ht
    cases hl:zR (wC (l.take n) Ss) t with
    | none=>rw[hl] at ht;exact s.slots t S (by simpa using ht)
    | some S'=>
      rw[hl] at ht
      obtain rfl:S'=S:=by simpa using ht
      obtain⟨j,o,h1,h2,h3⟩:=vx _ _ _ _ hl
      have hj:j<n:=by
        rcases Nat.lt_or_ge j n with h'|h'
        · exact h'
        · rw[List.getElem?_eq_none (by omega)] at h3;cases h3
      rw[List.getElem?_take_of_lt hj] at h1
      exact hdone j o t S' (by have h4:=hall j hj (by omega);rw[gd listed j (by omega)] at h4;exact h4) h1 h2 h3
  | succ fuel ih=>
    intro listed a w F hcnt hsz htail hc s hdone
    by_cases hall:∀j,j<n→j<l.length→listed.getD j true=true
    · have hge:=gv hsz htail
      refine oe htl (fuel+1) n listed a w (Nat.le_refl _) (by omega) hsz hall htail hc (k a w F (s.wider ?_))
      intro t S ht
      rw[zg] at ht
      cases hl:zR (wC (l.take n) Ss) t with
      | none=>rw[hl] at ht;exact s.slots t S (by simpa using ht)
      | some S'=>
        rw[hl] at ht
        obtain rfl:S'=S:=by simpa using ht
        obtain⟨j,o,h1,h2,h3⟩:=vx _ _ _ _ hl
        have hj:j<n:=by
          rcases Nat.lt_or_ge j n with h'|h'
          · exact h'
          · rw[List.getElem?_eq_none (by omega)] at h3;cases h3
        rw[List.getElem?_take_of_lt hj] at h1
        exact hdone j o t S' (by have h4:=hall j hj (by omega);rw[gd listed j (by omega)] at h4;exact h4) h1 h2 h3
    · have hex:∃j,j<n∧listed.getD j true=false:=by
        refine Classical.byContradiction fun hno=>hall fun j hj _=>?_
        cases hb:listed.getD j true with
        | true=>rfl
        | false=>exact absurd ⟨j,hj,hb⟩ hno
      refine⟨fun hr=>?_,fun i hi=>?_⟩
      · obtain⟨j,⟨hj1,hj2⟩,hmin⟩:=exists_least hex
        have:j∈Region.ready .any l.toArray listed:=by
          rw[mem_ready]
          have hjl:j<l.length:=by omega
          refine⟨hj2,l[j],by simp[hjl],fun e he hb=>?_⟩
          have hlt:=hsp.1 j _ (List.getElem?_eq_getElem hjl) e he hb
          cases hbb:listed.getD e.on true with
          | true=>rw[gd listed e.on (by omega)] at hbb;exact hbb
          | false=>have:=hmin e.on ⟨by omega,hbb⟩;omega
        rw[hr] at this;simp at this
      · have hi':=hi
        rw[mem_ready] at hi
        obtain⟨g1,o,g2,g3⟩:=hi
        have g2':l[i]?=some o:=by simpa using g2
        have hil:i<l.length:=by
          rcases Nat.lt_or_ge i l.length with h'|h'
          · exact h'
          · rw[List.getElem?_eq_none h'] at g2';cases g2'
        have hin:i<n:=by
          rcases Nat.lt_or_ge i n with h'|h'
          · exact h'
          · obtain⟨j,hj1,hj2⟩:=hex
            obtain⟨m,hm,hb⟩:=hsp.2 i hil h' j (by omega)
            have:=wx hc i o g2' g3 j m hm hb
            have e:listed.getD j false=true:=this
            rw[←gd listed j (by omega),hj2] at e;cases e
        obtain⟨o',d,S,Δ,a1,a2,a3,a4,a6,a7⟩:=hat i hin
        rw[g2'] at a1;obtain rfl:=Option.some.inj a1
        have hbind:(l[i]?).bind (·.dst)=some d:=by rw[g2'];exact a2
        obtain⟨ap1,ap2⟩:=hapart i d hin hbind
        have hsat:Sat E Δ M a w F:=s.wider (fun t S' ht=>by
          rcases a6 t S' ht with ⟨j,oj,b0,b1,b2,b3⟩|h
          · have hmask:i<(qZ l []).length:=by rw[xY];simpa using hil
            rw[List.getElem?_eq_getElem hmask] at b0
            exact hdone j oj t S' (wx hc i o g2' g3 j _ (List.getElem?_eq_getElem hmask) (by simpa using b0)) b1 b2 b3
          · exact s.slots t S' h)
        have hstep:=a7 a w F hsat (wpAny P .any l.toArray Q fuel (listed.setIfInBounds i true)) Q
        have hgo:∀v w' F',AdvX E M a w F w' F'→S.h w' F' v→wpAny P .any l.toArray Q fuel (listed.setIfInBounds i true) (a.put o.dst v) w':=by
          intro v w' F' ad hv
          rw[a2]
          have s1:=ad.adv _ _ (List.Sublist.refl _) s
          refine ih _ _ w' F' ?_ (by simp[hsz]) (fun j hj hjl=>?_) ?_ (s1.putOut a3 v ap1) ?_
          · have hlt:i<listed.toList.length:=by simp;omega
            have hli:listed.toList[i]=false:=by
              have:i<listed.size:=by omega
              simp[this] at g1;simpa using g1
            rw[Array.toList_setIfInBounds,List.countP_set hlt]
            rw[hli]
            have hpos:0<listed.toList.countP (·==false):=List.countP_pos_iff.2 ⟨false,by rw[←hli];exact List.getElem_mem _,rfl⟩
            simp only[beq_self_eq_true,if_true]
            show _-1+0≤fuel
            omega
          · rw[getD_set_ne true (by omega)];exact htail j hj hjl
          · intro j oj hj hL e he hb
            by_cases ek:j=i
            · subst ek
              rw[g2'] at hj;obtain rfl:=Option.some.inj hj
              exact getD_set_true (g3 e he hb)
            · exact getD_set_true (hc j oj hj (by
                have hL':(listed.setIfInBounds i true).getD j false=true:=hL
                rwa [getD_set_ne false (fun h=>ek h.symm)] at hL') e he hb)
          · intro j oj dj Sj hL hj hdj hSj
            rw[jI (by rw[s1.size];exact a3)]
            by_cases ek:j=i
            · subst ek
              rw[g2'] at hj;obtain rfl:=Option.some.inj hj
              rw[a2] at hdj;obtain rfl:=Option.some.inj hdj
              rw[a4] at hSj;obtain rfl:=Option.some.inj hSj
              rw[if_pos rfl];exact hv
            · have hjn:j<n:=by
                rcases Nat.lt_or_ge j n with h'|h'
                · exact h'
                · rw[List.getElem?_eq_none (by omega)] at hSj;cases hSj
              have hne:=ap2 j dj hjn ek (by rw[hj];exact hdj)
              rw[if_neg (fun e=>hne e.symm)]
              refine Sj.mono _ _ _ _ _ (hdone j oj dj Sj ?_ hj hdj hSj) ad.same ad.sub
              have hL':(listed.setIfInBounds i true).getD j false=true:=hL
              rwa [getD_set_ne false (fun h=>ek h.symm)] at hL'
        have hres:=hstep hgo
        unfold wpOp
        have ho:l.toArray[i]?=some o:=by simpa using g2'
        rw[ho]
        exact hres
theorem Tri.drawn {id:Nat} {l:List Oper} {n:Nat} {Ss:List VP} (hm:P.follows .mixedOrders=true) (hD:DrW E P l Γ M n Ss) (hap:we l n Γ=true) (htl:am l n=true) (hnl:Nat.ble n l.length=true)
  (k:Ops E P l.toArray Q (l.drop n) (wC (l.take n) Ss++Γ) M):Tri E P (.region id l.toArray true) Γ M Q:=by
 intro a w F s
 refine wp_region_any hm ?_
 have s1:=s.adv (Adv.drew w F)
 refine zHX hD hap htl (Nat.le_of_ble_eq_true hnl) k _ _ a _ F ?_ (by simp) (fun j hj hjl=>?_) ?_ s1 ?_
 ·simp
  exact Nat.le_trans List.countP_le_length (by simp)
 ·have:j<l.length:=hjl
  simp[this]
 ·intro i o hi hL
  simp[Array.getD_eq_getD_getElem?,Array.getElem?_replicate] at hL
  split at hL <;> simp at hL
 ·intro j o d S hL
  simp[Array.getD_eq_getD_getElem?,Array.getElem?_replicate] at hL
  split at hL <;> simp at hL
def DrG (E:Env) (P:Program) (id:Nat) (l:List Oper) (Γ:Ctx) (M:Mem) (Q:Exit→Act→World→Prop) (i:Nat) (Θ:Ctx):Prop:=
 ∀Ss,DrW E P l Γ M i Ss→(∀t S,zR Θ t=some S→∃(j:Nat) (o:Oper),j<i∧l[j]?=some o∧o.dst=some t∧Ss[j]?=some S)→Tri E P (.region id l.toArray true) Γ M Q
theorem Tri.dr {id:Nat} {l:List Oper} (h:DrG E P id l Γ M Q 0 []):Tri E P (.region id l.toArray true) Γ M Q:=h [] .nil (fun t S ht=>by simp[zR] at ht)
def vL (l:List Oper) (i:Nat) (ts:List Nat):Bool:=
 let m:=((qZ l [])[i]?).getD 0
 (List.range i).all fun j=>m.testBit j||match (l[j]?).bind (·.dst) with
  | none=>true
  | some d=>ts.all fun t=>!Nat.beq d t
theorem vD {Θ:Ctx}:∀(ts:List Nat) (t:Nat) (S:VP),zR (qh ts Θ) t=some S→t∈ts∧zR Θ t=some S
  | [],t,S,h=>by simp[qh,zR] at h
  | u::ts,t,S,h=>by
    simp only[qh] at h
    cases hu:zR Θ u with
    | none=>rw[hu] at h;have:=vD ts t S h;exact⟨by simp[this.1],this.2⟩
    | some S0=>
      rw[hu] at h
      simp only[zR] at h
      cases hb:Nat.beq u t with
      | true=>
        rw[hb] at h;simp at h;subst h
        obtain rfl:=Nat.eq_of_beq_eq_true hb
        exact⟨by simp,hu⟩
      | false=>rw[hb] at h;have:=vD ts t S h;exact⟨by simp[this.1],this.2⟩
theorem DrG.sx {id i d:Nat} {l:List Oper} {Θ:Ctx} {S:VP} {o:Oper} (ts:List Nat) (h1:l[i]?=some o) (h2:o.dst=some d) (h3:Nat.blt d E.n=true)
    (h4:vL l i ts=true) (h5:OKX E P l.toArray (qh ts Θ++Γ) M o S) (k:DrG E P id l Γ M Q (i+1) ((d,S)::Θ)):DrG E P id l Γ M Q i Θ:=by
  intro Ss hD hΘ
  obtain⟨hlen,_⟩:=hD.at
  refine k (Ss++[S]) (.snoc _ hD h1 h2 h3 (fun t S' ht=>?_) h5) (fun t S' ht=>?_)
  · rw[zg] at ht
    cases hl:zR (qh ts Θ) t with
    | none=>rw[hl] at ht;exact .inr (by simpa using ht)
    | some S''=>
      rw[hl] at ht
      obtain rfl:S''=S':=by simpa using ht
      obtain⟨hm,hl2⟩:=vD _ _ _ hl
      obtain⟨j,oj,b0,b1,b2,b3⟩:=hΘ t S'' hl2
      refine .inl ⟨j,oj,?_,b1,b2,b3⟩
      have:=List.all_eq_true.1 h4 j (by simpa using b0)
      rw[b1] at this
      simp only[Option.bind_some,b2,Bool.or_eq_true] at this
      rcases this with h|h
      · exact h
      · have:=List.all_eq_true.1 h t hm
        simp[Nat.beq_refl] at this
  · simp only[zR] at ht
    cases hb:Nat.beq d t with
    | true=>
      rw[hb] at ht;simp at ht;subst ht
      obtain rfl:=Nat.eq_of_beq_eq_true hb
      exact⟨i,o,by omega,h1,h2,by rw[List.getElem?_append_right (by omega)];simp[hlen]⟩
    | false=>
      rw[hb] at ht
      obtain⟨j,oj,b0,b1,b2,b3⟩:=hΘ t S' ht
      exact⟨j,oj,by omega,b1,b2,by rw[List.getElem?_append_left (by omega)];exact b3⟩
theorem DrG.st {id i d:Nat} {l:List Oper} {Θ:Ctx} {S:VP} {o:Oper} (ts:List Nat) (h1:l[i]?=some o) (h2:o.dst=some d) (h3:Nat.blt d E.n=true)
  (h4:vL l i ts=true) (h5:OKG E P l.toArray (qh ts Θ++Γ) M o S) (k:DrG E P id l Γ M Q (i+1) ((d,S)::Θ)):DrG E P id l Γ M Q i Θ:=.sx ts h1 h2 h3 h4 h5.x k
theorem DrG.so {id i d:Nat} {l:List Oper} {Θ:Ctx} {S:VP} {o:Oper} (ts:List Nat) (h:obO E.n l i=some (o,d)) (h5:OK1 E P (qh ts Θ++Γ) M o S) (k:DrG E P id l Γ M Q (i+1) ((d,S)::Θ)) (h4:vL l i ts=true:=by kernel_rfl):DrG E P id l Γ M Q i Θ:=
  let ⟨h1,h2,h3,h0⟩:=dC h
  DrG.st ts h1 h2 h3 h4 (.o h0 h5) k
theorem DrG.m {id i d:Nat} {l:List Oper} {Θ:Ctx} {S:VP} {o:Oper} (ts:List Nat) (h:omO E.n (qh ts Θ++Γ) l i=some (o,d,S)) (k:DrG E P id l Γ M Q (i+1) ((d,S)::Θ)) (h4:vL l i ts=true:=by kernel_rfl):DrG E P id l Γ M Q i Θ:=
  let ⟨h1,h2⟩:=gC h
  let ⟨g1,g2,g3,_⟩:=bA h2
  DrG.st ts h1 g1 g3 h4 (.o g2 (.mvo h2)) k
theorem DrG.s {id i d:Nat} {l:List Oper} {Θ:Ctx} {S:VP} {o:Oper} (ts:List Nat) (h1:l[i]?=some o) (h2:o.dst=some d) (h3:Nat.blt d E.n=true) (h5:OKG E P l.toArray (qh ts Θ++Γ) M o S) (k:DrG E P id l Γ M Q (i+1) ((d,S)::Θ)) (h4:vL l i ts=true:=by kernel_rfl):DrG E P id l Γ M Q i Θ:=
 DrG.st ts h1 h2 h3 h4 h5 k
theorem DrG.fin {id n:Nat} {l:List Oper} {Θ:Ctx} (hm:P.follows .mixedOrders=true) (hap:we l n Γ=true) (htl:am l n=true) (hnl:Nat.ble n l.length=true)
    (k:Ops E P l.toArray Q (l.drop n) (Θ++Γ) M):DrG E P id l Γ M Q n Θ:=by
  intro Ss hD hΘ
  have hnl':=Nat.le_of_ble_eq_true hnl
  refine .drawn hm hD hap htl hnl fun a w F s=>k a w F (s.wider fun t S ht=>?_)
  rw[zg] at ht
  cases hl:zR Θ t with
  | none=>
    rw[hl] at ht
    have ht':zR Γ t=some S:=by simpa using ht
    have hno:zR (wC (l.take n) Ss) t=none:=by
      cases hd:zR (wC (l.take n) Ss) t with
      | none=>rfl
      | some S'=>
        obtain⟨j,o,b1,b2,b3⟩:=vx _ _ _ _ hd
        have hj:j<n:=by
          rcases Nat.lt_or_ge j n with h'|h'
          · exact h'
          · rw[List.getElem?_eq_none (by simp;omega)] at b1;cases b1
        rw[List.getElem?_take_of_lt hj] at b1
        have h1:=List.all_eq_true.1 hap j (by simpa using hj)
        rw[b1] at h1
        simp only[Option.bind_some,b2,Bool.and_eq_true] at h1
        exact absurd rfl (jk h1.1 t S ht')
    exact s.slots t S (by rw[zg,hno];simpa using ht')
  | some S'=>
    rw[hl] at ht
    obtain rfl:S'=S:=by simpa using ht
    obtain⟨j,o,b0,b1,b2,b3⟩:=hΘ t S' hl
    -- the slots are apart: so the context of all that are done says the same of it
    have hex:∀(l':List Oper) (Ss':List VP) (j:Nat),(l'[j]?).bind (·.dst)=some t→Ss'[j]?=some S'→(∀j',j'≠j→(l'[j']?).bind (·.dst)≠some t)→zR (wC l' Ss') t=some S':=by
      intro l'
      induction l' with
      | nil=>intro Ss' j h;simp at h
      | cons o' l' ih=>
        intro Ss' j h1 h2 h3
        cases Ss' with
        | nil=>simp at h2
        | cons T Ss'=>
          cases j with
          | zero=>
            simp at h1 h2
            subst h2
            simp[wC,h1,zR]
          | succ j=>
            have hrec:=ih Ss' j (by simpa using h1) (by simpa using h2) (fun j' hj'=>by simpa using h3 (j'+1) (by omega))
            have h0:=h3 0 (by omega)
            simp at h0
            simp only[wC]
            cases hd:o'.dst with
            | none=>exact hrec
            | some d'=>
              simp only[zR]
              have hne:Nat.beq d' t=false:=by
                cases hb:Nat.beq d' t with
                | false=>rfl
                | true=>exact absurd (by rw[hd,Nat.eq_of_beq_eq_true hb]) h0
              rw[hne];exact hrec
    have hlk:=hex (l.take n) Ss j (by rw[List.getElem?_take_of_lt b0,b1];exact b2) b3 (fun j' hj' he=>by
      have hj'n:j'<n:=by
        rcases Nat.lt_or_ge j' n with h'|h'
        · exact h'
        · rw[List.getElem?_eq_none (by simp;omega)] at he;simp at he
      rw[List.getElem?_take_of_lt hj'n] at he
      have h1:=List.all_eq_true.1 hap j (by simpa using b0)
      rw[b1] at h1
      simp only[Option.bind_some,b2,Bool.and_eq_true] at h1
      have h2:=List.all_eq_true.1 h1.2 j' (by simpa using hj'n)
      rw[he] at h2
      simp only[Bool.or_eq_true,Bool.not_eq_true'] at h2
      rcases h2 with h2|h2
      · exact hj' (Nat.eq_of_beq_eq_true h2).symm
      · exact Nat.ne_of_beq_eq_false h2 rfl)
    exact s.slots t S' (by rw[zg,hlk];rfl)
theorem DrG.fn {id:Nat} {l:List Oper} {Θ:Ctx} {n:Nat} (hm:P.follows .mixedOrders=true) (k:Ops E P l.toArray Q (l.drop n) (Θ++Γ) M) (hap:we l n Γ=true:=by kernel_rfl) (htl:am l n=true:=by kernel_rfl) (hnl:Nat.ble n l.length=true:=by kernel_rfl):DrG E P id l Γ M Q n Θ:=DrG.fin hm hap htl hnl k
end
end Go.En
namespace Go.En
open Go.RowKit
theorem cD {α β:Type} {P:Program} {w:World} (f:α→Sem β) (g:α→β):∀(l:List α),(∀x∈l,(f x).run P w=.ok (g x) w)→(l.mapM f).run P w=.ok (l.map g) w
  | [],_=>by simp
  | x::l,h=>by
    have h1:=h x (by simp)
    have h2:=cD f g l (fun y hy=>h y (by simp[hy]))
    simp[List.mapM_cons,h1,h2]
theorem mI {α β:Type} {P:Program} {w:World} (f:α→Sem β) (g:α→β) (l:Array α) (h:∀x∈l,(f x).run P w=.ok (g x) w):(l.mapM f).run P w=.ok (l.map g) w:=by
 obtain⟨l⟩:=l
 have:=cD (P:=P) (w:=w) f g l (by simpa using h)
 rw[List.mapM_toArray]
 simp[this]
section
variable {E : Env} {P : Program} {Γ : Ctx} {M : Mem} {ty : TypeId} {pos : String} {after : Array Edge} {gd : Option (Nat × Bool)} {d : Option Tmp}
 {ops : Array Oper} {Q : Exit → Act → World → Prop} {rest : List Oper}
/-! ### results -/
inductive ResL (E:Env) (P:Program) (Γ:Ctx) (M:Mem):List ResultVar→List VP→Prop
 | nil:ResL E P Γ M [] []
 | tmp {t:Nat} {S:VP} {rs:List ResultVar} {Ss:List VP}:Has E Γ M (.tmp t) S→ResL E P Γ M rs Ss→ResL E P Γ M (.tmp t::rs) (S::Ss)
 | cell {t b i n:Nat} {T:TypeId} {Ss0:List VP} {S:VP} {rs:List ResultVar} {Ss:List VP}:zR Γ t=some (qX b 0)→M[i]?=some (some b,zC Ss0)→tyB P T=some (n,true)→Nat.beq Ss0.length n=true→
   zk Ss0=S→ResL E P Γ M rs Ss→ResL E P Γ M (.cell t T::rs) (S::Ss)
 | cell1 {t b i:Nat} {T:TypeId} {S0 S:VP} {rs:List ResultVar} {Ss:List VP}:zR Γ t=some (qX b 0)→M[i]?=some (some b,zC [S0])→tyB P T=some (1,false)→
   S0=S→ResL E P Γ M rs Ss→ResL E P Γ M (.cell t T::rs) (S::Ss)
def cr (a:Act):ResultVar→Sem Value
 | .tmp t=>pure (a.tmps.getD t undef)
 | .cell x t=>do loadVar t (←asAddr (a.tmps.getD x undef))
theorem ResL.run {rs:List ResultVar} {Ss:List VP} (h:ResL E P Γ M rs Ss) {a:Act} {w:World} {F:Blk} (s:Sat E Γ M a w F):
    ∃g:ResultVar→Value,(∀r∈rs,(cr a r).run P w=.ok (g r) w)∧All2 Ss w F (rs.map g):=by
  have key:∃vs:List Value,vs.length=rs.length∧(∀i (hi:i<rs.length),∃v,vs[i]?=some v∧(cr a rs[i]).run P w=.ok v w)∧All2 Ss w F vs:=by
    induction h with
    | nil=>exact⟨[],rfl,fun i hi=>absurd hi (by simp),trivial⟩
    | @tmp t S rs Ss h1 _ ih=>
      obtain⟨vs,e1,e2,e3⟩:=ih
      refine⟨a.tmps.getD t undef::vs,by simp[e1],fun i hi=>?_,h1 a w F s,e3⟩
      cases i with
      | zero=>exact⟨_,rfl,rfl⟩
      | succ i=>simpa using e2 i (by simpa using hi)
    | @cell t b i0 n T Ss0 S rs Ss h1 h2 h3 h4 h5 _ ih=>
      obtain⟨vs,e1,e2,e3⟩:=ih
      obtain⟨o,hb,us,T',rfl,hv⟩:=wZ s h2
      have hl:=hv.len
      have h4':=Nat.eq_of_beq_eq_true h4
      refine⟨.agg us.toArray::vs,by simp[e1],fun i hi=>?_,h5▸⟨us,rfl,hv⟩,e3⟩
      cases i with
      | zero=>
        refine⟨_,rfl,?_⟩
        have hp:a.tmps.getD t undef=.pointer (some ⟨b,0,none⟩):=s.slots t _ h1
        have hload:=wv (P:=P) (n:=n) (off:=0) hb (by omega)
        simp only[List.drop_zero] at hload
        rw[List.take_of_length_le (by omega)] at hload
        simp only[List.getElem_cons_zero,cr,hp,asAddr,loadVar,Sem.run_bind,Sem.run_pure,Result.andThen_ok,vt h3,qV h3,if_true,hload]
      | succ i=>simpa using e2 i (by simpa using hi)
    | @cell1 t b i0 T S0 S rs Ss h1 h2 h3 h5 _ ih=>
      obtain⟨vs,e1,e2,e3⟩:=ih
      obtain⟨o,hb,us,T',rfl,hv⟩:=wZ s h2
      obtain⟨v,hv1,hv2⟩:=hv.get 0 S0 rfl
      refine⟨v::vs,by simp[e1],fun i hi=>?_,h5▸hv2,e3⟩
      cases i with
      | zero=>
        refine⟨_,rfl,?_⟩
        have hp:a.tmps.getD t undef=.pointer (some ⟨b,0,none⟩):=s.slots t _ h1
        have hc:w.cell? ⟨b,0,none⟩=some v:=by simp[World.cell?,hb,hv1]
        simp only[List.getElem_cons_zero,cr,hp,asAddr,loadVar,Sem.run_bind,Sem.run_pure,Result.andThen_ok,vt h3]
        simp[hc]
      | succ i=>simpa using e2 i (by simpa using hi)
  obtain⟨vs,e1,e2,e3⟩:=key
  have hex:∀r∈rs,∃v,(cr a r).run P w=.ok v w:=fun r hr=>by
    obtain⟨i,hi,rfl⟩:=List.mem_iff_getElem.1 hr
    obtain⟨v,_,hv⟩:=e2 i hi
    exact⟨v,hv⟩
  refine⟨fun r=>match (cr a r).run P w with|.ok v _=>v|_=>undef,fun r hr=>?_,?_⟩
  · obtain⟨v,hv⟩:=hex r hr;simp only[hv]
  · have:rs.map (fun r=>match (cr a r).run P w with|.ok v _=>v|_=>undef)=vs:=by
      apply List.ext_getElem?
      intro i
      by_cases hi:i<rs.length
      · obtain⟨v,h1,h2⟩:=e2 i hi
        rw[List.getElem?_map,List.getElem?_eq_getElem hi,h1]
        simp only[Option.map_some,h2]
      · rw[List.getElem?_eq_none (by simp;omega),List.getElem?_eq_none (by omega)]
    rw[this];exact e3
theorem xA {fn:Func} {rs:List ResultVar} {Ss:List VP} (hr:fn.results=rs.toArray) (h:ResL E P Γ M rs Ss) {a:Act} {w:World} {F:Blk} (s:Sat E Γ M a w F):
  ∃vs:List Value,(results fn a.tmps).run P w=.ok (if h:vs.length=1 then vs[0] else .tuple vs.toArray) w∧All2 Ss w F vs:=by
 obtain⟨g,h1,h2⟩:=h.run s
 refine⟨rs.map g,?_,h2⟩
 have hm:=mI (P:=P) (w:=w) (cr a) g rs.toArray (by simpa using h1)
 have hres:results fn a.tmps=(rs.toArray.mapM (cr a) >>= fun vs=>pure (if h:vs.size=1 then vs[0] else .tuple vs)):=by
  unfold results
  rw[hr]
  congr 1
 rw[hres,Sem.run_bind,hm,Result.andThen_ok]
 simp
theorem rz {fn:Func} {R:VP} {e:Exit} {a:Act} {w:World} {F:Blk} (he:e=.ret∨e=.normal) (s:Sat E Γ M a w F) (hw:E.W=[]) {v:Value} (hv:(results fn a.tmps).run P w=.ok v w) (hR:R.h w F v):
  bodyPost P fn (Ret E.w0 E.F0 R) e a w:=by
 have hk:=s.keep
 rw[hw] at hk
 have hb:a.defers=[]∧∃v,(results fn a.tmps).run P w=.ok v w∧Ret E.w0 E.F0 R (.returned v) w:=
  ⟨s.defers,_,hv,_,rfl,hk,R.mono _ _ _ _ _ hR (fun _ _=>rfl) (fun b hb=>by
   rcases s.fnew b hb with h1|h1
   ·exact .inl h1
   ·exact .inr h1)⟩
 rcases he with rfl|rfl <;> exact hb
theorem rt1 {fn:Func} {r:ResultVar} {R:VP} {e:Exit} (he:e=.ret∨e=.normal) (hr:fn.results=#[r]) (hw:E.W=[]) (h:ResL E P Γ M [r] [R]):At E Γ M (bodyPost P fn (Ret E.w0 E.F0 R)) e:=by
 intro a w F s
 obtain⟨vs,h1,h2⟩:=xA hr h s
 match vs,h2 with
 | [v],h2=>exact rz he s hw (by simpa using h1) h2.1
 | [],h2=>exact h2.elim
 | _::_::_,h2=>exact h2.2.elim
theorem rtN {fn:Func} {rs:List ResultVar} {Rs:List VP} {e:Exit} (he:e=.ret∨e=.normal) (hr:fn.results=rs.toArray) (hn:Nat.beq rs.length 1=false) (hw:E.W=[]) (h:ResL E P Γ M rs Rs):
  At E Γ M (bodyPost P fn (Ret E.w0 E.F0 (zZ Rs))) e:=by
 intro a w F s
 obtain⟨vs,h1,h2⟩:=xA hr h s
 have hl:Rs.length=rs.length:=by
  clear h1 h2 s a w F vs
  clear hn hr
  induction h with
  | nil=>rfl
  | tmp _ _ ih=>simp[ih]
  | cell _ _ _ _ _ _ ih=>simp[ih]
  | cell1 _ _ _ _ _ ih=>simp[ih]
 have hne:vs.length≠1:=by rw[←h2.len,hl];exact Nat.ne_of_beq_eq_false hn
 rw[dif_neg hne] at h1
 exact rz he s hw h1 ⟨vs,rfl,h2⟩
/-! ### build -/
def aJ : List VP→Nat→List VP→List VP
 | Z,_,[]=>Z
 | [],_,_=>[]
 | _::Z,0,S::Ss=>S::aJ Z 0 Ss
 | z::Z,off+1,S::Ss=>z::aJ Z off (S::Ss)
theorem jr : ∀(Z:List VP) (off:Nat) (Ss:List VP),off+Ss.length≤Z.length→aJ Z off Ss=Z.take off++Ss++Z.drop (off+Ss.length)
  | Z,off,[],_=>by cases Z <;> simp[aJ]
  | [],off,S::Ss,h=>by simp at h
  | z::Z,0,S::Ss,h=>by
    have:=jr Z 0 Ss (by simp at h ⊢;omega)
    simp only[Nat.zero_add,List.take_zero,List.nil_append] at this
    simp only[aJ,this]
    simp
  | z::Z,off+1,S::Ss,h=>by
    have:=jr Z off (S::Ss) (by simp at h ⊢;omega)
    simp only[aJ,this]
    have e:off+1+(S::Ss).length=(off+(S::Ss).length)+1:=by omega
    rw[e];simp
theorem zDB : ∀(us vs:List Value) (off:Nat) (cs:Array Value),off+us.length≤cs.size→cs.toList=vs→
    ((us.zipIdx.foldl (fun cs (p:Value×Nat)=>cs.setIfInBounds (off+p.2) p.1) cs)).toList=vs.take off++us++vs.drop (off+us.length):=by
  have key:∀(us:List Value) (k off:Nat) (cs:Array Value),off+k+us.length≤cs.size→
      ((us.zipIdx k).foldl (fun cs (p:Value×Nat)=>cs.setIfInBounds (off+p.2) p.1) cs).toList=cs.toList.take (off+k)++us++cs.toList.drop (off+k+us.length):=by
    intro us
    induction us with
    | nil=>intro k off cs h;simp
    | cons u us ih=>
      intro k off cs h
      simp only[List.zipIdx_cons,List.foldl_cons]
      rw[ih (k+1) off _ (by simp at h ⊢;omega)]
      have:=list_seg_step cs.toList (off+k) u us (by simp at h ⊢;omega)
      simp only[Array.toList_setIfInBounds,←Nat.add_assoc] at this⊢
      rw[this];congr 2
  intro us vs off cs h e
  subst e
  simpa using key us 0 off cs (by simpa using h)
inductive Parts (E:Env) (Γ:Ctx) (M:Mem) (place:Nat→Option (Nat×Nat)):List VP→List (Nat×Operand)→List VP→Prop
 | nil {Z:List VP}:Parts E Γ M place Z [] Z
 | cons {Z Z':List VP} {i off n:Nat} {x:Operand} {S:VP} {Ss:List VP} {r:List (Nat×Operand)} [sh:Shape S Ss]:Has E Γ M x S→place i=some (off,n)→Nat.beq Ss.length n=true→Nat.ble (off+n) Z.length=true→
   Parts E Γ M place (aJ Z off Ss) r Z'→Parts E Γ M place Z ((i,x)::r) Z'
theorem Parts.fill {place:Nat→Option (Nat×Nat)} {Z Z':List VP} {ps:List (Nat×Operand)} (h:Parts E Γ M place Z ps Z') {a:Act} {w:World} {F:Blk} (s:Sat E Γ M a w F):
    ∀cells:Array Value,All2 Z w F cells.toList→∃cells',Instr.fill place cells (ps.map fun p=>(p.1,a.eval p.2))=some cells'∧All2 Z' w F cells'.toList:=by
  induction h with
  | nil=>intro cells hc;exact⟨cells,rfl,hc⟩
  | @cons Z Z' i off n x S Ss r sh h1 h2 h3 h4 _ ih=>
    intro cells hc
    have hv:=sh.cells _ _ _ (h1 a w F s)
    have h3':=Nat.eq_of_beq_eq_true h3
    have h4':=Nat.le_of_ble_eq_true h4
    have e1:=hv.len
    have e2:=hc.len
    simp at e1 e2
    have hsz:(a.eval x).cells.size=n:=by omega
    simp only[List.map_cons,Instr.fill,h2]
    rw[if_neg (by rw[hsz];simp only[ne_eq,not_true_eq_false,decide_false,Bool.false_or,decide_eq_true_eq];omega)]
    refine ih _ ?_
    have:=zDB (a.eval x).cells.toList cells.toList off cells (by simp;omega) rfl
    rw[←Array.foldl_toList,Array.toList_zipIdx,this]
    rw[jr _ _ _ (by omega),show Ss.length=(a.eval x).cells.toList.length from hv.len]
    exact ((hc.take off).append hv).append (hc.drop _)
def plB (P:Program) (T:TypeId):Option (List (Nat×Nat)):=(P.underlying T).bind fun d=>match d with
 | .struct fs=>fs.toList.mapM fun f=>(tyB P f.type).map fun p=>(f.offset,p.1)
 | _=>none
theorem iz {α β:Type} (f:α→Option β):∀(l:List α) (r:List β),l.mapM f=some r→l.map f=r.map some
  | [],r,h=>by simp at h;subst h;rfl
  | x::l,r,h=>by
    rw[List.mapM_cons] at h
    cases hx:f x with
    | none=>rw[hx] at h;simp at h
    | some y=>
      rw[hx] at h
      cases hl:l.mapM f with
      | none=>rw[hl] at h;simp at h
      | some ys=>rw[hl] at h;simp at h;subst h;simp[hx,iz f l ys hl]
theorem OK1.build {T:TypeId} {pl:List (Nat×Nat)} {z:Value} {ps:List (Nat×Operand)} (Z:List VP) {Z' Z'':List VP} (hp:plB P T=some pl) (hz:qe P T=some z) (hZ:∀w F,All2 Z w F z.cells.toList)
    (h:Parts E Γ M (fun i=>pl[i]?) Z ps Z') (hZ':Z'=Z''):OK1 E P Γ M ⟨d,.build T ps.toArray,ty,pos,after,gd⟩ (zk Z''):=
  .run fun a w F s=>by
    obtain⟨cells,h1,h2⟩:=h.fill s z.cells (hZ w F)
    refine⟨.agg cells,?_,cells.toList,by simp,hZ'▸h2⟩
    unfold plB at hp
    cases hu:P.underlying T with
    | none=>simp[hu] at hp
    | some dd=>
      rw[hu] at hp
      cases dd <;> simp only[Option.bind_some] at hp <;> try cases hp
      rename_i fs
      have hm:=iz _ _ _ hp
      have hrun:=mI (P:=P) (w:=w) (fun f:Field=>do pure (f.offset,←sizeOf f.type)) (fun f:Field=>(((tyB P f.type).map fun p=>(f.offset,p.1)).getD (0,0))) fs (fun f hf=>by
        have:(tyB P f.type).map (fun p=>(f.offset,p.1))∈fs.toList.map (fun f=>(tyB P f.type).map fun p=>(f.offset,p.1)):=List.mem_map.2 ⟨f,by simpa using hf,rfl⟩
        rw[hm] at this
        obtain⟨y,_,hy⟩:=List.mem_map.1 this
        cases ht:tyB P f.type with
        | none=>rw[ht] at hy;simp at hy
        | some p=>obtain⟨n,g⟩:=p;simp[qV ht])
      have hpl:(fs.map (fun f:Field=>(((tyB P f.type).map fun p=>(f.offset,p.1)).getD (0,0))))=pl.toArray:=by
        apply Array.ext'
        simp only[Array.toList_map]
        have:=congrArg (List.map (fun o:Option (Nat×Nat)=>o.getD (0,0))) hm
        simp only[List.map_map] at this
        have e2:((fun o:Option (Nat×Nat)=>o.getD (0,0))∘some)=id:=rfl
        rw[e2,List.map_id] at this
        exact this
      rw[hpl] at hrun
      have hmap:(ps.toArray.map fun (p:Nat×Operand)=>(p.1,a.eval p.2)).toList=ps.map fun p=>(p.1,a.eval p.2):=by simp
      have hfn:(fun i:Nat=>pl.toArray[i]?)=fun i=>pl[i]?:=by funext i;simp
      simp only[execOp,Instr.build,Sem.run_bind,wu hz,qd hu,Result.andThen_ok,hrun]
      rw[hmap]
      simp only[hfn,h1,Sem.run_pure,Result.andThen_ok]
/-! ### conversions between integers -/
theorem OK1.conv {S T:TypeId} {x:Operand} {k k':IntKind} {z:Int} {R:VP} {ds:TypeDesc} (hs:P.underlying S=some ds) (ht:P.underlying T=some (.int k')) (hx:∀a w F,Sat E Γ M a w F→a.eval x=.int k z)
  (hR:∀w F,R.h w F (.int k' (k'.wrap z))):OK1 E P Γ M ⟨d,.convert S T x,ty,pos,after,gd⟩ R:=
 .run fun a w F s=>⟨_,by
  have h1:=hx a w F s
  simp only[execOp,h1,convert,Sem.run_bind,qd hs,qd ht,Result.andThen_ok]
  cases ds <;> simp[Conv.intToInt],hR w F⟩
theorem OK1.convIU {S T:TypeId} {x:Operand} {z:Int} {ds:TypeDesc} (hs:P.underlying S=some ds) (ht:P.underlying T=some (.int .u64)) (hx:Has E Γ M x (isI z)) (h:0≤z) (h':z<18446744073709551616):
  OK1 E P Γ M ⟨d,.convert S T x,ty,pos,after,gd⟩ (isU z.toNat):=
 .conv hs ht (evI hx) (fun w F=>ve (by rw[xl];omega) (by omega) w F)
theorem OK1.convKI {S T:TypeId} {x:Operand} {k:IntKind} {z:Int} {ds:TypeDesc} (hs:P.underlying S=some ds) (ht:P.underlying T=some (.int .i64)) (hx:Has E Γ M x (isK k z)) (h : -9223372036854775808≤z) (h':z<9223372036854775808):
  OK1 E P Γ M ⟨d,.convert S T x,ty,pos,after,gd⟩ (isI z):=
 .conv hs ht (evK hx) (fun w F=>by rw[vO h h'];exact wb h h' w F)
/-! ### an array by value -/
theorem Cv.mem {Γ':Ctx} {M':Mem} (h:Wk E Γ M Γ') (e:M=M'):Cv E Γ M Γ' M':=e▸Cv.wk h
theorem Ops.memEq {M':Mem} (e:M=M') (h:Ops E P ops Q rest Γ M'):Ops E P ops Q rest Γ M:=e▸h
theorem Tri.memEq {c:Code} {M':Mem} (e:M=M') (h:Tri E P c Γ M' Q):Tri E P c Γ M Q:=e▸h
theorem zV {m n:Nat} (h:m=n):isU m=isU n:=h▸rfl
theorem zF {m n:Int} (h:m=n):isI m=isI n:=h▸rfl
theorem zl {m n:Bool} (h:m=n):isB m=isB n:=h▸rfl
theorem kV {a:Act} {w:World} {F:Blk} (s:Sat E Γ M a w F) (o:Obj):
  Adv w F { w with heap:=w.heap.push o } (fun b=>F b∨b=w.heap.size):=
 ⟨Keep.alloc _ _ _,fun _ h=>.inl h,fun b h=>by
  rcases h with h|h
  ·exact .inl h
  ·exact .inr ⟨by omega,by simp;omega⟩⟩
end
end Go.En
namespace Go.En
open Go.RowKit
section
variable {E : Env} {P : Program} {Γ : Ctx} {M : Mem} {ty : TypeId} {pos : String} {after : Array Edge} {gd : Option (Nat × Bool)} {d : Option Tmp}
 {ops : Array Oper} {Q : Exit → Act → World → Prop} {rest : List Oper} {T T' : TypeId} {x y : Operand}
theorem rF (hu:P.underlying T=some .bool) (b c:Bool) (w:World):(Op.equal T (.bool b) (.bool c)).run P w=.ok (b==c) w:=by
 have key:∀n,(Op.equalIn (n+1) T (.bool b) (.bool c)).run P w=.ok (b==c) w:=by
  intro n
  simp only[Op.equalIn,Sem.run_bind,qd hu,Result.andThen_ok,Sem.run_pure]
 exact key 9999
theorem OK1.eqB {b c:Bool} {du:P.underlying T=some .bool} (_:True=True) (hx:Has E Γ M x (isB b)) (hy:Has E Γ M y (isB c)):OK1 E P Γ M ⟨d,.binOp .eql T x y T',ty,pos,after,gd⟩ (isB (b==c)):=
 .run fun a w F s=>⟨_,by
  have h1:a.eval x=.bool b:=hx a w F s
  have h2:a.eval y=.bool c:=hy a w F s
  have h3:=rF (P:=P) du b c w
  simp only[execOp,h1,h2,eqGuard,binOp,Sem.run_bind]
  simp[h3],rfl⟩
theorem OK1.neB {b c:Bool} {du:P.underlying T=some .bool} (_:True=True) (hx:Has E Γ M x (isB b)) (hy:Has E Γ M y (isB c)):OK1 E P Γ M ⟨d,.binOp .neq T x y T',ty,pos,after,gd⟩ (isB (!(b==c))):=
 .run fun a w F s=>⟨_,by
  have h1:a.eval x=.bool b:=hx a w F s
  have h2:a.eval y=.bool c:=hy a w F s
  have h3:=rF (P:=P) du b c w
  simp only[execOp,h1,h2,eqGuard,binOp,Sem.run_bind]
  simp[h3],rfl⟩
theorem ss (op:BinOp) (k yk:IntKind) (m n:Int) (h:op=.shl∨op=.shr) (w:World):(binOp op T (.int k m) (.int yk n)).run P w=(Op.shift op k m yk n).run P w:=by
 rcases h with rfl|rfl <;> rfl
theorem OK1.sh {op:BinOp} {k yk:IntKind} {m n:Int} {v:Value} {S:VP} (hop:op=.shl∨op=.shr)
  (hx:∀a w F,Sat E Γ M a w F→a.eval x=.int k m) (hy:∀a w F,Sat E Γ M a w F→a.eval y=.int yk n)
  (hr:∀w,(Op.shift op k m yk n).run P w=.ok v w) (hS:∀w F,S.h w F v):OK1 E P Γ M ⟨d,.binOp op T x y T',ty,pos,after,gd⟩ S:=
 .run fun a w F s=>⟨v,by
  have h1:=hx a w F s
  have h2:=hy a w F s
  have h3:=(ss (P:=P) (T:=T) op k yk m n hop w).trans (hr w)
  have hg:(eqGuard op T x y (.int k m) (.int yk n)).run P w=.ok () w:=by rcases hop with rfl|rfl <;> simp[eqGuard,go_sem]
  simp only[execOp,h1,h2,Sem.run_bind,hg,Result.andThen_ok,h3,Sem.run_pure],hS w F⟩
theorem nW (m n:Nat) (h:m<18446744073709551616):m/2^(min n 64)=m/2^n:=by
 rcases Nat.le_total n 64 with h1|h1
 ·rw[Nat.min_eq_left h1]
 ·rw[Nat.min_eq_right h1,Nat.div_eq_of_lt (by simpa using h),Nat.div_eq_of_lt (Nat.lt_of_lt_of_le h (Nat.pow_le_pow_right (n:=2) (by decide) h1))]
theorem zDC {m:Nat} {yk:IntKind} {n:Nat} (hm:m<18446744073709551616) (w:World):(Op.shift .shr .u64 (m:Int) yk (n:Int)).run P w=.ok (.int .u64 ((m/2^n:Nat):Int)) w:=by
 unfold Op.shift
 rw[if_neg (by omega)]
 have e:Int.fdiv (m:Int) (2^(min n 64))=((m/2^n:Nat):Int):=by
  rw[Int.fdiv_eq_ediv_of_nonneg _ (Int.le_of_lt (Int.pow_pos (by omega))),←nW m n hm]
  norm_cast
 have hb:IntKind.u64.bits=64:=rfl
 simp only[Int.toNat_natCast,hb]
 rw[e];rfl
theorem zDD {m:Nat} {yk:IntKind} {n:Nat} (w:World):(Op.shift .shl .u64 (m:Int) yk (n:Int)).run P w=.ok (.int .u64 ((m*2^n%18446744073709551616:Nat):Int)) w:=by
 unfold Op.shift
 rw[if_neg (by omega)]
 have e:IntKind.u64.wrap ((m:Int)*2^(min n 64))=((m*2^n%18446744073709551616:Nat):Int):=by
  rw[xl]
  have:m*2^(min n 64)%18446744073709551616=m*2^n%18446744073709551616:=by
   rcases Nat.le_total n 64 with h1|h1
   ·rw[Nat.min_eq_left h1]
   ·rw[Nat.min_eq_right h1]
    have e2:2^n=2^64*2^(n-64):=by rw[←Nat.pow_add];congr 1;omega
    have e3:(2:Nat)^64=18446744073709551616:=rfl
    rw[e2,e3,Nat.mul_mod_left,Nat.mul_left_comm,Nat.mul_mod_right]
  rw[←this,Int.natCast_emod,Int.natCast_mul,Int.natCast_pow];rfl
 have hb:IntKind.u64.bits=64:=rfl
 simp only[Int.toNat_natCast,hb]
 rw[e];rfl
variable {m n : Nat} {i : Int}
theorem OK1.shrUU (hx:Has E Γ M x (isU m)) (hy:Has E Γ M y (isU n)) (h:m<18446744073709551616):OK1 E P Γ M ⟨d,.binOp .shr T x y T',ty,pos,after,gd⟩ (isU (m/2^n)):=
 .sh (.inr rfl) (evU hx) (evU hy) (zDC h) (fun w F=>ve rfl (Nat.lt_of_le_of_lt (Nat.div_le_self _ _) h) w F)
theorem OK1.shlUU (hx:Has E Γ M x (isU m)) (hy:Has E Γ M y (isU n)) (_h:True):OK1 E P Γ M ⟨d,.binOp .shl T x y T',ty,pos,after,gd⟩ (isU (m*2^n%18446744073709551616)):=
 .sh (.inl rfl) (evU hx) (evU hy) zDD (fun w F=>ve rfl (Nat.mod_lt _ (by decide)) w F)
theorem OK1.convIUw {S T:TypeId} {ds:TypeDesc} (hs:P.underlying S=some ds) (ht:P.underlying T=some (.int .u64)) (hx:Has E Γ M x (isI i)):OK1 E P Γ M ⟨d,.convert S T x,ty,pos,after,gd⟩ (isU (i%18446744073709551616).toNat):=
 .conv hs ht (evI hx) (fun w F=>ve (by rw[xl];omega) (by omega) w F)
theorem OK1.negU (hx:Has E Γ M x (isU m)) (h:m<18446744073709551616):OK1 E P Γ M ⟨d,.unOp .neg T x,ty,pos,after,gd⟩ (isU ((18446744073709551616-m)%18446744073709551616)):=
 .run fun a w F s=>⟨.int .u64 (IntKind.u64.wrap (0-(m:Int))),by
  have h3:a.eval x=.int .u64 m:=(hx a w F s).1
  simp only[execOp,h3]
  simp[Op.unary,Op.intArith,go_sem],ve (by rw[xl];omega) (by omega) w F⟩
end
end Go.En
namespace Go.En
open Go.RowKit
def zi : VP:=.pure fun v=>v=.slice none 0 0
instance : One zi:=⟨fun w F v h=>by rw[show v=_ from h];rfl⟩
instance : Shape zi [zi]:=.of_one inferInstance
def SlL (k n:Nat) (Ss:List VP):VP:=⟨fun w F v=>∃a cap,v=.slice a n cap∧n≤cap∧cap≤maxLen∧Ss.length=n*k∧
    (n=0∨∃b off,a=some ⟨b,off,none⟩∧F b∧∃vs,All2 Ss w F vs∧∀(j:Nat) u,vs[j]?=some u→w.cell? ⟨b,off+j,none⟩=some u),
  fun w w' F F' v h h1 h2=>by
    obtain⟨a,cap,e,g1,g2,g3,g4⟩:=h
    refine⟨a,cap,e,g1,g2,g3,g4.imp id ?_⟩
    rintro⟨b,off,rfl,hF,vs,hv,hc⟩
    refine⟨b,off,rfl,h2 b hF,vs,All2.mono h1 h2 _ _ hv,fun j u hj=>?_⟩
    rw[←hc j u hj]
    simp only[World.cell?,h1 b hF]⟩
def SlM {α:Type} (f:α→VP) (xs:List α):VP:=SlL 1 xs.length (xs.map f)
def SlK {α:Type} (k:Nat) (f:α→List VP) (xs:List α):VP:=SlL k xs.length (xs.flatMap f)
abbrev zD (xs:List Nat):VP:=SlM isU xs
def qW (b o n c:Nat):VP:=.pure fun v=>v=.slice (some ⟨b,o,none⟩) n c∧n≤c∧c≤maxLen
class IsSl (S:VP) (n:outParam Nat):Prop where
 sl:∀w F v,S.h w F v→∃a c,v=.slice a n c∧n≤c∧c≤maxLen
instance {k n:Nat} {Ss:List VP}:IsSl (SlL k n Ss) n:=⟨fun w F v ⟨a,c,e,h1,h2,_⟩=>⟨a,c,e,h1,h2⟩⟩
instance {α:Type} {f:α→VP} {xs:List α}:IsSl (SlM f xs) xs.length:=⟨fun w F v ⟨a,c,e,h1,h2,_⟩=>⟨a,c,e,h1,h2⟩⟩
instance {α:Type} {k:Nat} {f:α→List VP} {xs:List α}:IsSl (SlK k f xs) xs.length:=⟨fun w F v ⟨a,c,e,h1,h2,_⟩=>⟨a,c,e,h1,h2⟩⟩
instance {b o n c:Nat}:IsSl (qW b o n c) n:=⟨fun w F v h=>⟨_,_,h.1,h.2.1,h.2.2⟩⟩
instance : IsSl zi 0:=⟨fun w F v h=>⟨_,_,h,Nat.le_refl _,by unfold maxLen;omega⟩⟩
instance (priority:=50) {S:VP} {n:Nat} [h:IsSl S n]:One S:=⟨fun w F v hv=>by obtain⟨a,c,rfl,_⟩:=h.sl w F v hv;rfl⟩
instance {k n:Nat} {Ss:List VP}:Shape (SlL k n Ss) [SlL k n Ss]:=.of_one inferInstance
instance {α:Type} {f:α→VP} {xs:List α}:Shape (SlM f xs) [SlM f xs]:=.of_one inferInstance
instance {α:Type} {k:Nat} {f:α→List VP} {xs:List α}:Shape (SlK k f xs) [SlK k f xs]:=.of_one inferInstance
instance {b o n c:Nat}:Shape (qW b o n c) [qW b o n c]:=.of_one inferInstance
def aZ (Ss:List VP):VP:=⟨fun w F v=>∃b off,v=.pointer (some ⟨b,off,none⟩)∧F b∧∃vs,All2 Ss w F vs∧∀(j:Nat) u,vs[j]?=some u→w.cell? ⟨b,off+j,none⟩=some u,
 fun w w' F F' v h h1 h2=>by
  obtain⟨b,off,e,hF,vs,hv,hc⟩:=h
  refine⟨b,off,e,h2 b hF,vs,All2.mono h1 h2 _ _ hv,fun j u hj=>?_⟩
  rw[←hc j u hj]
  simp only[World.cell?,h1 b hF]⟩
section
variable {E : Env} {P : Program} {Γ : Ctx} {M : Mem} {ty : TypeId} {pos : String} {after : Array Edge} {gd : Option (Nat × Bool)} {d : Option Tmp}
 {ops : Array Oper} {Q : Exit → Act → World → Prop} {rest : List Oper} {T T' : TypeId} {x y : Operand} {α : Type} {f : α → VP} {fk : α → List VP} {xs : List α}
theorem qS : maxLen=9223372036854775807:=rfl
theorem qw {e:TypeId} (h:slB P T=some e):P.underlying T=some (.slice e):=by
 unfold slB at h
 cases hu:P.underlying T with
 | none=>simp[hu] at h
 | some dd=>rw[hu] at h;cases dd <;> simp at h;subst h;rfl
theorem OK1.len {e:TypeId} {S:VP} {n:Nat} [i:IsSl S n] (hT:slB P T=some e) (hx:Has E Γ M x S):OK1 E P Γ M ⟨d,.call ⟨.builtin .len,#[x],#[T]⟩,ty,pos,after,gd⟩ (isI (n:Int)):=
 .run fun a w F s=>by
  obtain⟨b,c,he,h1,h2⟩:=i.sl w F _ (hx a w F s)
  have hu:=qw hT
  refine⟨.int .i64 n,?_,wb (by omega) (by rw[qS] at h2;omega) w F⟩
  simp only[execOp,resolve,invoke,builtin,Sem.run_bind]
  simp[he,Builtin.len_,qd hu,goInt,Sem.run_bind]
theorem Has.lenLt {S:VP} {n:Nat} [i:IsSl S n] (hx:Has E Γ M x S):∀a w F,Sat E Γ M a w F→n≤9223372036854775807:=fun a w F s=>by
 obtain⟨b,c,he,h1,h2⟩:=i.sl w F _ (hx a w F s)
 rw[qS] at h2;omega
theorem aF {k:Nat}:∀(xs:List α) (i:Nat) (x:α),(∀y∈xs,(fk y).length=k)→xs[i]?=some x→((xs.flatMap fk).drop (i*k)).take k=fk x
  | [],i,x,_,h=>by simp at h
  | y::xs,0,x,hl,h=>by
    simp at h;subst h
    have:=hl y (by simp)
    simp[this]
  | y::xs,i+1,x,hl,h=>by
    have h1:=hl y (by simp)
    have:=aF xs i x (fun z hz=>hl z (by simp[hz])) (by simpa using h)
    rw[List.flatMap_cons,show (i+1)*k=(fk y).length+i*k by rw[Nat.succ_mul,h1];omega,List.drop_length_add_append]
    exact this
theorem rx : ∀(xs:List α),xs.flatMap (fun a=>[f a])=xs.map f
 | []=>rfl
 | a::l=>by simp[rx l]
theorem uu {e:TypeId} {m len cap:Nat} {b off:Nat} {k:IntKind} {z:Int} {g:Bool} (hT:slB P T=some e) (ht:tyB P e=some (m,g)) (h0:0≤z) (h1:z<len) (w:World):
  (Instr.indexAt T (.slice (some ⟨b,off,none⟩) len cap) (.int k z)).run P w=.ok (.pointer (some ⟨b,off+z.toNat*m,none⟩)) w:=by
 have hu:=qw hT
 simp only[Instr.indexAt,asIntOf,Sem.run_bind,Sem.run_pure,qd hu,Result.andThen_ok]
 rw[if_pos ⟨h0,h1⟩]
 simp only[Sem.run_bind,qV ht,Result.andThen_ok,Sem.run_pure,xN]
theorem OK1.ixL {e:TypeId} {m n:Nat} {g:Bool} {k:IntKind} {z:Int} {Ss Ts:List VP} (hT:slB P T=some e) (ht:tyB P e=some (m,g)) (hx:Has E Γ M x (SlL m n Ss)) (hy:∀a w F,Sat E Γ M a w F→a.eval y=.int k z)
  (h0:0≤z) (h1:z<n) (hS:(Ss.drop (z.toNat*m)).take m=Ts):OK1 E P Γ M ⟨d,.indexAddr T x y,ty,pos,after,gd⟩ (aZ Ts):=
 .run fun a w F s=>by
  obtain⟨ad,cap,he,g1,g2,g3,g4⟩:=hx a w F s
  have h2:=hy a w F s
  rcases g4 with g4|⟨b,off,rfl,hF,vs,hv,hc⟩
  ·omega
  refine⟨.pointer (some ⟨b,off+z.toNat*m,none⟩),?_,b,_,rfl,hF,(vs.drop (z.toNat*m)).take m,hS▸(hv.drop _).take m,fun j u hj=>?_⟩
  ·simp only[execOp,he,h2,Sem.run_bind,uu hT ht h0 h1,Result.andThen_ok,Sem.run_pure]
  ·have hjm:j<m:=by
    rcases Nat.lt_or_ge j m with h|h
    ·exact h
    ·rw[List.getElem?_take_eq_none h] at hj;cases hj
   rw[List.getElem?_take_of_lt hjm,List.getElem?_drop] at hj
   have:=hc _ _ hj
   rwa [←Nat.add_assoc] at this
theorem OK1.ixP {e:TypeId} {g:Bool} {z:Int} {x':α} (hT:slB P T=some e) (ht:tyB P e=some (1,g)) (hx:Has E Γ M x (SlM f xs)) (hy:Has E Γ M y (isI z))
  (h0:0≤z∧z<xs.length) (hS:xs[z.toNat]?=some x'):OK1 E P Γ M ⟨d,.indexAddr T x y,ty,pos,after,gd⟩ (aZ [f x']):=
 OK1.ixL hT ht hx (evI hy) h0.1 h0.2 (by
  have:=aF (fk:=fun a=>[f a]) (k:=1) xs z.toNat x' (by simp) hS
  rwa [rx] at this)
theorem OK1.ixK {e:TypeId} {g:Bool} {k:Nat} {z:Int} {x':α} (hT:slB P T=some e) (ht:tyB P e=some (k,g)) (hx:Has E Γ M x (SlK k fk xs)) (hy:Has E Γ M y (isI z))
  (hk:∀y,(fk y).length=k) (h0:0≤z∧z<xs.length) (hS:xs[z.toNat]?=some x'):OK1 E P Γ M ⟨d,.indexAddr T x y,ty,pos,after,gd⟩ (aZ (fk x')):=
 OK1.ixL hT ht hx (evI hy) h0.1 h0.2 (aF xs z.toNat x' (fun y _=>hk y) hS)
theorem getD_some {d:α} {i:Nat} (h:i<xs.length):xs[i]?=some (xs.getD i d):=by simp[List.getD,h]
theorem OK1.loadP1 {S:VP} {Ss:List VP} (hx:Has E Γ M x (aZ (S::Ss))) (hT:tyB P T=some (1,false)):OK1 E P Γ M ⟨d,.load T x,ty,pos,after,gd⟩ S:=
 .run fun a w F s=>by
  obtain⟨b,off,he,hF,vs,hv,hc⟩:=hx a w F s
  obtain⟨v,hv1,hv2⟩:=hv.get 0 S rfl
  have hc':=hc 0 v hv1
  refine⟨v,?_,hv2⟩
  simp only[execOp,he,Instr.loadAt,Instr.sureAddr,loadVar,Sem.run_bind,Sem.run_pure,Result.andThen_ok,vt hT]
  have hc2:w.cell? ⟨b,off,none⟩=some v:=hc'
  simp[hc2]
theorem OK1.loadP {n:Nat} {Ss Ss':List VP} (hx:Has E Γ M x (aZ Ss)) (hT:tyB P T=some (n,true)) (hl:Nat.ble n Ss.length=true) (hS:Ss.take n=Ss'):OK1 E P Γ M ⟨d,.load T x,ty,pos,after,gd⟩ (zk Ss'):=
 .run fun a w F s=>by
  obtain⟨b,off,he,hF,vs,hv,hc⟩:=hx a w F s
  have hlen:=hv.len
  have hl':=Nat.le_of_ble_eq_true hl
  refine⟨.agg (vs.take n).toArray,?_,_,rfl,hS▸hv.take n⟩
  have h1:=run_loadCells_list (P:=P) w ⟨b,off,none⟩ (vs.take n) (fun j v hj=>by
   have hjn:j<n:=by
    rcases Nat.lt_or_ge j n with h|h
    ·exact h
    ·rw[List.getElem?_take_eq_none h] at hj;cases hj
   rw[List.getElem?_take_of_lt hjn] at hj
   rw[xN];exact hc j v hj)
  rw[show (vs.take n).length=n by simp;omega] at h1
  simp only[execOp,he,Instr.loadAt,Instr.sureAddr,loadVar,Sem.run_bind,Sem.run_pure,Result.andThen_ok,vt hT,qV hT,if_true,h1]
theorem OK1.fieldAddrP {i o n:Nat} {g:Bool} {T':TypeId} {Ss Ss':List VP} (hx:Has E Γ M x (aZ Ss)) (hf:jb P T i=some (o,T')) (ht:tyB P T'=some (n+1,g)) (hS:Ss.drop o=Ss'):
    OK1 E P Γ M ⟨d,.fieldAddr T x i,ty,pos,after,gd⟩ (aZ Ss'):=
  .run fun a w F s=>by
    obtain⟨b,off,he,hF,vs,hv,hc⟩:=hx a w F s
    refine⟨.pointer (some ⟨b,off+o,none⟩),?_,b,_,rfl,hF,vs.drop o,hS▸hv.drop o,fun j u hj=>by rw[List.getElem?_drop] at hj;have:=hc _ _ hj;rwa [←Nat.add_assoc] at this⟩
    unfold jb at hf
    cases hu:P.underlying T with
    | none=>simp[hu] at hf
    | some dd=>
      rw[hu] at hf
      cases dd <;> simp at hf
      rename_i fs
      obtain⟨fd,hf1,hf2,hf3⟩:=hf
      subst hf2 hf3
      simp only[execOp,he,Instr.fieldAt,Instr.sureAddr,fieldPlace,Sem.run_bind,Sem.run_pure,Result.andThen_ok,qd hu,qV ht,hf1]
      simp[xN]
/-! ### parts of slices -/
theorem xp {z:Int} {k:IntKind} {y':Nat} {c:BoundsCode} (h0:0≤z) (h1:z≤y') (w:World):(Instr.sliceBound (.int k z) y' c).run P w=.ok z.toNat w:=by
 simp only[Instr.sliceBound,asIntOf,Sem.run_bind,Sem.run_pure,Result.andThen_ok]
 rw[if_pos ⟨h0,h1⟩];rfl
theorem bW {e:TypeId} {m n cap:Nat} {a:Option Addr} {g:Bool} {lo hi:Option Value} {l h:Nat} (hT:slB P T=some e) (ht:tyB P e=some (m,g)) (w:World)
  (hb:(Instr.sliceBounds true n cap lo hi none).run P w=.ok (l,h,cap) w):
  (Instr.sliceAt T (.slice a n cap) lo hi none).run P w=.ok (.slice (if cap=l then a else a.map (·.add (l*m))) (h-l) (cap-l)) w:=by
 have hu:=qw hT
 simp only[Instr.sliceAt,Sem.run_bind,qd hu,Result.andThen_ok,Instr.slice,hb,qV ht,Sem.run_pure]
theorem zCD {k n l h cap:Nat} {Ss:List VP} {w:World} {F:Blk} {a:Option Addr} (hs:(SlL k n Ss).h w F (.slice a n cap)) (h1:l≤h) (h2:h≤n):
  (SlL k (h-l) ((Ss.take (h*k)).drop (l*k))).h w F (.slice (if cap=l then a else a.map (·.add (l*k))) (h-l) (cap-l)):=by
 obtain⟨a',cap',e,g1,g2,g3,g4⟩:=hs
 obtain⟨rfl,_,rfl⟩:a=a'∧True∧cap=cap':=by simpa using e
 have hnk:h*k≤n*k:=Nat.mul_le_mul_right _ h2
 have hlk:l*k≤h*k:=Nat.mul_le_mul_right _ h1
 refine⟨_,_,rfl,by omega,by omega,by rw[List.length_drop,List.length_take,g3,Nat.min_eq_left hnk,Nat.sub_mul],?_⟩
 rcases g4 with g4|⟨b,off,rfl,hF,vs,hv,hc⟩
 ·left;omega
 ·by_cases hz:h-l=0
  ·exact .inl hz
  ·right
   have hcl:¬cap=l:=by omega
   rw[if_neg hcl]
   refine⟨b,off+l*k,by simp[xN],hF,(vs.take (h*k)).drop (l*k),(hv.take _).drop _,fun j u hj=>?_⟩
   rw[List.getElem?_drop] at hj
   have hjl:l*k+j<h*k:=by
    rcases Nat.lt_or_ge (l*k+j) (h*k) with hh|hh
    ·exact hh
    ·rw[List.getElem?_take_eq_none hh] at hj;cases hj
   rw[List.getElem?_take_of_lt hjl] at hj
   have:=hc _ _ hj
   rwa [←Nat.add_assoc] at this
theorem OK1.slG {e:TypeId} {k n l h:Nat} {g:Bool} {Ss:List VP} {lo hi:Option Operand} {S:VP} (hT:slB P T=some e) (ht:tyB P e=some (k,g)) (hx:Has E Γ M x (SlL k n Ss))
  (hb:∀a w F,Sat E Γ M a w F→∀cap,n≤cap→(Instr.sliceBounds true n cap (lo.map a.eval) (hi.map a.eval) none).run P w=.ok (l,h,cap) w) (h1:l≤h) (h2:h≤n)
  (hS:SlL k (h-l) ((Ss.take (h*k)).drop (l*k))=S):OK1 E P Γ M ⟨d,.slice T x lo hi none,ty,pos,after,gd⟩ S:=
 .run fun a w F s=>by
  have hs:=hx a w F s
  obtain⟨ad,cap,he,g1,g2,g3,g4⟩:=id hs
  rw[he] at hs
  refine⟨_,?_,hS▸zCD hs h1 h2⟩
  have:=bW (P:=P) (a:=ad) hT ht w (hb a w F s cap g1)
  simp only[execOp,he,Sem.run_bind,this,Result.andThen_ok,Sem.run_pure,Option.map_none]
theorem OK1.slLM {e:TypeId} {g:Bool} {z:Int} (hT:slB P T=some e) (ht:tyB P e=some (1,g)) (hx:Has E Γ M x (SlM f xs)) (hy:Has E Γ M y (isI z)) (h:0≤z∧z≤xs.length):
  OK1 E P Γ M ⟨d,.slice T x (some y) none none,ty,pos,after,gd⟩ (SlM f (xs.drop z.toNat)):=
 OK1.slG (l:=z.toNat) (h:=xs.length) hT ht hx (fun a w F s cap hc=>by
  simp only[Instr.sliceBounds,Option.map_some,Option.map_none,evI hy a w F s,Sem.run_bind,Sem.run_pure,Result.andThen_ok,xp h.1 h.2]) (by omega) (Nat.le_refl _)
  (by unfold SlM;rw[Nat.mul_one,Nat.mul_one,List.take_of_length_le (by simp),List.length_drop,List.map_drop])
theorem OK1.slHM {e:TypeId} {g:Bool} {z:Int} (hT:slB P T=some e) (ht:tyB P e=some (1,g)) (hx:Has E Γ M x (SlM f xs)) (hy:Has E Γ M y (isI z)) (h:0≤z∧z≤xs.length):
  OK1 E P Γ M ⟨d,.slice T x none (some y) none,ty,pos,after,gd⟩ (SlM f (xs.take z.toNat)):=
 OK1.slG (l:=0) (h:=z.toNat) hT ht hx (fun a w F s cap hc=>by
  simp only[Instr.sliceBounds,Option.map_some,Option.map_none,evI hy a w F s,Sem.run_bind,Sem.run_pure,Result.andThen_ok,xp h.1 (show z≤(cap:Int) by omega)]) (by omega) (by omega)
  (by unfold SlM;rw[List.length_take,Nat.min_eq_left (by omega)];simp[List.map_take])
/-! ### windows over a block of the call's own -/
theorem OK1.ixWin {e:TypeId} {m b o n c:Nat} {g:Bool} {z:Int} (hT:slB P T=some e) (ht:tyB P e=some (m,g)) (hx:Has E Γ M x (qW b o n c)) (hy:Has E Γ M y (isI z)) (h:0≤z∧z<n):
  OK1 E P Γ M ⟨d,.indexAddr T x y,ty,pos,after,gd⟩ (qX b (o+z.toNat*m)):=
 .run fun a w F s=>by
  obtain⟨he,g1,g2⟩:=hx a w F s
  exact⟨_,by simp only[execOp,he,evI hy a w F s,Sem.run_bind,uu hT ht h.1 h.2,Result.andThen_ok,Sem.run_pure],rfl⟩
theorem OK1.slLWin {e:TypeId} {m b o n c:Nat} {g:Bool} {z:Int} (hT:slB P T=some e) (ht:tyB P e=some (m,g)) (hx:Has E Γ M x (qW b o n c)) (hy:Has E Γ M y (isI z)) (h:0≤z∧z≤n∧z<c):
  OK1 E P Γ M ⟨d,.slice T x (some y) none none,ty,pos,after,gd⟩ (qW b (o+z.toNat*m) (n-z.toNat) (c-z.toNat)):=
 .run fun a w F s=>by
  obtain⟨he,g1,g2⟩:=hx a w F s
  refine⟨_,?_,rfl,by omega,by omega⟩
  have hb:(Instr.sliceBounds true n c (some (.int .i64 z)) none none).run P w=.ok (z.toNat,n,c) w:=by
   simp only[Instr.sliceBounds,Sem.run_bind,Sem.run_pure,Result.andThen_ok,xp h.1 h.2.1]
  have:=bW (P:=P) (a:=some ⟨b,o,none⟩) hT ht w hb
  rw[if_neg (show ¬c=z.toNat by omega)] at this
  simp only[execOp,he,evI hy a w F s,Option.map_some,Option.map_none,Sem.run_bind,this,Result.andThen_ok,Sem.run_pure,xN]
theorem OK1.slHWin {e:TypeId} {m b o n c:Nat} {g:Bool} {z:Int} (hT:slB P T=some e) (ht:tyB P e=some (m,g)) (hx:Has E Γ M x (qW b o n c)) (hy:Has E Γ M y (isI z)) (h:0≤z∧z≤n∧0<c):
  OK1 E P Γ M ⟨d,.slice T x none (some y) none,ty,pos,after,gd⟩ (qW b o z.toNat c):=
 .run fun a w F s=>by
  obtain⟨he,g1,g2⟩:=hx a w F s
  refine⟨_,?_,rfl,by omega,by omega⟩
  have hb:(Instr.sliceBounds true n c none (some (.int .i64 z)) none).run P w=.ok (0,z.toNat,c) w:=by
   simp only[Instr.sliceBounds,Sem.run_bind,Sem.run_pure,Result.andThen_ok,xp h.1 (show z≤(c:Int) by omega)]
  have:=bW (P:=P) (a:=some ⟨b,o,none⟩) hT ht w hb
  rw[if_neg (show ¬c=0 by omega)] at this
  simp only[execOp,he,evI hy a w F s,Option.map_some,Option.map_none,Sem.run_bind,this,Result.andThen_ok,Sem.run_pure,xN,Nat.zero_mul,Nat.add_zero,Nat.sub_zero]
theorem OK1.slLHWin {e:TypeId} {m b o n c:Nat} {g:Bool} {y2:Operand} {z z2:Int} (hT:slB P T=some e) (ht:tyB P e=some (m,g)) (hx:Has E Γ M x (qW b o n c)) (hy:Has E Γ M y (isI z)) (hy2:Has E Γ M y2 (isI z2)) (h:0≤z∧z≤z2∧z2≤n∧z<c):
  OK1 E P Γ M ⟨d,.slice T x (some y) (some y2) none,ty,pos,after,gd⟩ (qW b (o+z.toNat*m) (z2.toNat-z.toNat) (c-z.toNat)):=
 .run fun a w F s=>by
  obtain⟨he,g1,g2⟩:=hx a w F s
  refine⟨_,?_,rfl,by omega,by omega⟩
  have hb:(Instr.sliceBounds true n c (some (.int .i64 z)) (some (.int .i64 z2)) none).run P w=.ok (z.toNat,z2.toNat,c) w:=by
   simp only[Instr.sliceBounds,Sem.run_bind,Sem.run_pure,Result.andThen_ok,xp (show 0≤z2 by omega) (show z2≤(c:Int) by omega),xp h.1 (show z≤(z2.toNat:Int) by omega)]
  have:=bW (P:=P) (a:=some ⟨b,o,none⟩) hT ht w hb
  rw[if_neg (show ¬c=z.toNat by omega)] at this
  simp only[execOp,he,evI hy a w F s,evI hy2 a w F s,Option.map_some,Option.map_none,Sem.run_bind,this,Result.andThen_ok,Sem.run_pure,xN]
theorem map_some {i:Nat} {x':α} (h:xs[i]?=some x'):(xs.map f)[i]?=some (f x'):=by rw[List.getElem?_map,h];rfl
theorem Ops.storeM {b off i:Nat} {T:TypeId} {z:α} [sh:Shape (f z) [f z]] [o1:One (f z)] (hx:Has E Γ M x (qX b off)) (hy:Has E Γ M y (f z))
  (hM:M[i]?=some (some b,zC (xs.map f))) (hT:tyB P T=some (1,false)) (hl:off<xs.length) {M':Mem}
  (hM':M.set i (some b,zC ((xs.set off z).map f))=M') (k:Ops E P ops Q rest Γ M'):Ops E P ops Q (⟨none,.store T x y,ty,pos,after,none⟩::rest) Γ M:=
 Ops.store (Ss1:=[f z]) hx hy hM hT rfl (by rw[Nat.ble_eq];simp;omega) (Ss':=(xs.set off z).map f) (by
  rw[List.set_eq_take_append_cons_drop,if_pos hl]
  simp[List.map_take,List.map_drop]) hM' k
theorem vv {z:Value} {c m:Nat} (hm:z.cells.size=m):((Array.range (c*m)).map fun j=>z.cells[j%z.cells.size]!)=((List.replicate c z.cells.toList).flatten).toArray:=by
  apply Array.ext'
  rw[Array.toList_map,Array.toList_range]
  simp only[]
  apply List.ext_getElem?
  intro j
  rw[List.getElem?_map]
  have hlen:((List.replicate c z.cells.toList).flatten).length=c*m:=by simp[hm]
  rcases Nat.lt_or_ge j (c*m) with hj|hj
  · rw[List.getElem?_range hj]
    have hm0:0<m:=by
      rcases Nat.eq_zero_or_pos m with h|h
      · subst h;simp at hj
      · exact h
    have hjm:j%m<z.cells.size:=by rw[hm];exact Nat.mod_lt _ hm0
    have:∀(c j:Nat),j<c*m→((List.replicate c z.cells.toList).flatten)[j]?=z.cells.toList[j%m]?:=by
      intro c
      induction c with
      | zero=>intro j hj;simp at hj
      | succ c ih=>
        intro j hj
        rw[List.replicate_succ,List.flatten_cons]
        rcases Nat.lt_or_ge j m with h|h
        · rw[List.getElem?_append_left (by simp[hm];exact h),Nat.mod_eq_of_lt h]
        · rw[List.getElem?_append_right (by simp[hm];exact h)]
          simp only[Array.length_toList,hm]
          rw[ih (j-m) (by rw[Nat.succ_mul] at hj;omega),←Nat.mod_eq_sub_mod h]
    rw[this c j hj]
    rw[hm,Array.getElem?_toList,Array.getElem?_eq_getElem hjm,Option.map_some,getElem!_pos z.cells (j%m) hjm]
  · rw[List.getElem?_eq_none (by simp;omega),List.getElem?_eq_none (by omega)];rfl
theorem mJ {e:TypeId} {m:Nat} {g:Bool} {z:Value} {n c:Nat} {i:TypeInfo} (hT:slB P T=some e) (ht:tyB P e=some (m,g)) (hz:qe P e=some z) (hi:P.info? e=some i) (hby:i.bytes≤1024) (hn:n≤c) (hc:c≤4294967296) (hm:z.cells.size=m) (w:World):
  (Instr.makeSlice T (.int .i64 n) (.int .i64 c)).run P w=.ok (.slice (some ⟨w.heap.size,0,none⟩) n c) { w with heap:=w.heap.push (.cells ((List.replicate c z.cells.toList).flatten).toArray e) }:=by
 have hu:=qw hT
 have h1:IntKind.i64.wrap (n:Int)=n:=vO (by omega) (by omega)
 have h2:IntKind.i64.wrap (c:Int)=c:=vO (by omega) (by omega)
 have hb:¬((i.bytes:Int)*(c:Int)>2^48):=by
  have:i.bytes*c≤1024*4294967296:=Nat.mul_le_mul hby hc
  have h3:((i.bytes:Int)*(c:Int))=((i.bytes*c:Nat):Int):=by simp
  rw[h3];omega
 have hfl:((Array.range (c*m)).map fun j=>z.cells[j%z.cells.size]!)=((List.replicate c z.cells.toList).flatten).toArray:=vv hm
 simp only[Instr.makeSlice,Sem.run_bind,qd hu,Result.andThen_ok,asInt,asIntOf,Sem.run_pure,typeInfo,run_program,hi,h1,h2]
 rw[if_neg (by
  simp only[Bool.or_eq_true,decide_eq_true_eq,not_or]
  exact⟨⟨⟨by omega,hb⟩,by omega⟩,by omega⟩)]
 simp only[Sem.run_bind,run_askRoom,Result.andThen_ok,qV ht,Int.toNat_natCast]
 by_cases h0:c*m=0
 ·rw[if_pos h0]
  simp only[Sem.run_bind,Sem.run_pure,Result.andThen_ok,h0]
  have:((List.replicate c z.cells.toList).flatten)=[]:=by
   apply List.eq_nil_of_length_eq_zero;simp[hm,h0]
  have e0:Array.range 0=#[]:=by apply Array.ext';simp
  simp[newRow,Sem.run_bind,run_newObj,this,e0]
 ·rw[if_neg h0]
  simp only[Sem.run_bind,wu hz,Result.andThen_ok,Sem.run_pure,hfl,newRow,run_newObj]
def jQ (P:Program) (T:TypeId) (n:Nat):Bool:=match P.info? T with
 | some i=>Nat.ble i.bytes n
 | none=>false
theorem Ops.make {d:Nat} {e:TypeId} {g:Bool} {z:Value} {n c:Nat} {u:α} (hT:slB P T=some e) (ht:tyB P e=some (1,g)) (hz:qe P e=some z) (hZ:∀w F,All2 [f u] w F z.cells.toList) (hby:jQ P e 1024=true)
    (hx:Has E Γ M x (isI (n:Int))) (hy:Has E Γ M y (isI (c:Int))) (hn:n≤c∧c≤4294967296) (hd:Nat.blt d E.n=true)
    (k:∀b,Ops E P ops Q rest ((d,qW b 0 n c)::Γ) ((some b,zC ((List.replicate c u).map f))::M)):Ops E P ops Q (⟨some d,.makeSlice T x y,ty,pos,after,none⟩::rest) Γ M:=by
  intro a w F s
  refine wpList_plain rfl fun K hK=>?_
  unfold Oper.wp
  have hm:z.cells.size=1:=by have:=(hZ w F).len;simpa using this.symm
  obtain⟨i,hi,hb⟩:∃i,P.info? e=some i∧i.bytes≤1024:=by
    unfold jQ at hby
    cases hi:P.info? e with
    | none=>simp[hi] at hby
    | some i=>rw[hi] at hby;exact⟨i,rfl,Nat.le_of_ble_eq_true hby⟩
  have hr:(execOp a.eval (⟨some d,.makeSlice T x y,ty,pos,after,none⟩:Oper)).run P w=.ok (.value (.slice (some ⟨w.heap.size,0,none⟩) n c)) { w with heap:=w.heap.push (.cells ((List.replicate c z.cells.toList).flatten).toArray e) }:=by
    simp only[execOp,evI hx a w F s,evI hy a w F s,Sem.run_bind,mJ hT ht hz hi hb hn.1 hn.2 hm,Result.andThen_ok,Sem.run_pure]
  rw[hr]
  have hall:All2 ((List.replicate c u).map f) w F ((List.replicate c z.cells.toList).flatten):=by
    induction c with
    | zero=>trivial
    | succ c ih=>
      clear hr ih hn k hy
      have:∀c,All2 ((List.replicate c u).map f) w F ((List.replicate c z.cells.toList).flatten):=by
        intro c
        induction c with
        | zero=>trivial
        | succ c ih=>
          rw[List.replicate_succ,List.replicate_succ,List.flatten_cons,List.map_cons]
          exact All2.append (hZ w F) ih
      exact this _
  have s1:=s.alloc (T:=e) hall
  have hd':d<E.n:=by simpa [Nat.blt_eq] using hd
  exact hK _ _ (k w.heap.size _ _ F (s1.put hd' ⟨rfl,hn.1,by rw[qS];omega⟩))
theorem Cv.freeze {t b o n c i:Nat} (hW:∀k,k∈E.W→∃j C,j≠i∧M[j]?=some (some k,C)) (ht:zR Γ t=some (qW b o n c)) (hM:M[i]?=some (some b,zC (xs.map f))) (hl:o+n≤xs.length):Cv E Γ M ((t,SlM f ((xs.drop o).take n))::Γ) (M.eraseIdx i):=by
  intro a w F s
  obtain⟨h1,h2,h3,ob,h4,vs,T',rfl,hv⟩:=s.mem.each b _ (List.mem_of_getElem? hM)
  refine⟨fun k=>F k∨k=b,?_⟩
  have hsub:∀k,F k→(F k∨k=b):=fun k hk=>.inl hk
  have hi:i<M.length:=by
    rcases Nat.lt_or_ge i M.length with h|h
    · exact h
    · rw[List.getElem?_eq_none h] at hM;cases hM
  have hMi:M[i]=(some b,zC (xs.map f)):=by rw[List.getElem?_eq_getElem hi] at hM;exact Option.some.inj hM
  have hbW:E.w0.heap.size≤b:=h1.resolve_right (fun hb=>by
    obtain⟨j,C,hji,hj⟩:=hW b hb
    have hjl:j<M.length:=by
      rcases Nat.lt_or_ge j M.length with h|h
      · exact h
      · rw[List.getElem?_eq_none h] at hj;cases hj
    have hMj:M[j]=(some b,C):=by rw[List.getElem?_eq_getElem hjl] at hj;exact Option.some.inj hj
    rcases Nat.lt_or_gt_of_ne hji with hlt|hlt
    · have hp:=List.pairwise_iff_getElem.1 s.mem.apart j i hjl hi hlt
      rw[hMi,hMj] at hp;simp at hp
    · have hp:=List.pairwise_iff_getElem.1 s.mem.apart i j hi hjl hlt
      rw[hMi,hMj] at hp;simp at hp)
  obtain⟨e1,e2,e3⟩:=s.slots t _ ht
  · refine { defers:=s.defers,size:=s.size,keep:=s.keep,f0:=fun k hk=>.inl (s.f0 k hk),fnew:=?_,flt:=?_,slots:=?_,mem:=⟨s.mem.apart.sublist (List.eraseIdx_sublist _ _),?_⟩ }
    · rintro k (hk|rfl)
      · exact s.fnew k hk
      · exact .inr ⟨hbW,h2⟩
    · rintro k (hk|rfl)
      · exact s.flt k hk
      · exact h2
    · intro t' S' ht'
      simp only[zR] at ht'
      cases hb:Nat.beq t t' with
      | false=>rw[hb] at ht';exact S'.mono _ _ _ _ _ (s.slots t' S' ht') (fun _ _=>rfl) hsub
      | true=>
        rw[hb] at ht'
        obtain rfl:SlM f ((xs.drop o).take n)=S':=by simpa using ht'
        obtain rfl:=Nat.eq_of_beq_eq_true hb
        have hlen:((xs.drop o).take n).length=n:=by simp;omega
        refine⟨some ⟨b,o,none⟩,c,?_,by rw[hlen];exact e2,e3,by simp,?_⟩
        · rw[hlen];exact e1
        · right
          refine⟨b,o,rfl,.inr rfl,(vs.drop o).take n,?_,fun j u hj=>?_⟩
          · rw[List.map_take,List.map_drop]
            exact All2.mono (fun _ _=>rfl) hsub _ _ ((hv.drop o).take n)
          · have hjn:j<n:=by
              rcases Nat.lt_or_ge j n with h|h
              · exact h
              · rw[List.getElem?_take_eq_none h] at hj;cases hj
            rw[List.getElem?_take_of_lt hjn,List.getElem?_drop] at hj
            simp[World.cell?,h4,hj]
    · intro k C hk
      obtain⟨j,hji,hj⟩:=List.mem_eraseIdx_iff_getElem?.1 hk
      obtain⟨g1,g2,g3,o2,g4,g5⟩:=s.mem.each k C (List.mem_of_getElem? hj)
      have hkb:k≠b:=by
        intro e;subst e
        have hjl:j<M.length:=by
          rcases Nat.lt_or_ge j M.length with h|h
          · exact h
          · rw[List.getElem?_eq_none h] at hj;cases hj
        have hMj:M[j]=(some k,C):=by rw[List.getElem?_eq_getElem hjl] at hj;exact Option.some.inj hj
        rcases Nat.lt_or_gt_of_ne hji with hlt|hlt
        · have hp:=List.pairwise_iff_getElem.1 s.mem.apart j i hjl hi hlt
          rw[hMi,hMj] at hp;simp at hp
        · have hp:=List.pairwise_iff_getElem.1 s.mem.apart i j hi hjl hlt
          rw[hMi,hMj] at hp;simp at hp
      exact⟨g1,g2,fun h=>h.elim g3 hkb,o2,g4,C.mono _ _ _ _ _ g5 (fun _ _=>rfl) hsub⟩
/-! ### functions that write a row of their caller's -/
def tt (w:World) (F:Blk) (b:Nat) (R:VP) (post:MP):Ending→World→Prop:=fun e w'=>∃v,e=.returned v∧Keep [b] w w'∧R.h w' (aE F w w') v∧∃o,w'.heap[b]?=some o∧post.h w' (aE F w w') o
def CtrM (P:Program) (f:FuncId) (args:Nat→List VP) (pre post:MP) (R:Nat→VP):Prop:=
 iE P f∧∀(w:World) (F:Blk) (vs:List Value) (b:Nat),(∀k,F k→k<w.heap.size)→b<w.heap.size→¬F b→(∃o,w.heap[b]?=some o∧pre.h w F o)→All2 (args b) w F vs→
  Calls P f vs.toArray w (tt w F b (R b) post)
theorem CtrM.intro {f : FuncId} {fn : Func} {c : Code} {args : Nat → List VP} {pre post : MP} {R : Nat → VP} (hf : P.funcs[f]? = some fn) (hb : fn.body = some c) (hn : (fn.name == "runtime.NumGoroutine") = false) {nt : Nat} (hnt : fn.ntmps = nt)
  (hsz:∀b,Nat.ble (args b).length nt=true)
  (h:∀w F b,Tri ⟨w,F,[b],nt⟩ P c (jD 0 (args b)) [(some b,pre)] (bodyPost P fn (tt w F b (R b) post))):CtrM P f args pre post R:=by
 subst hnt
 refine⟨⟨fn,hf,by simp[hb],hn⟩,fun w F vs b hF hbw hbF hpre hargs=>?_⟩
 have hlen:=hargs.len
 have hsz':(args b).length≤fn.ntmps:=by simpa using Nat.le_of_ble_eq_true (hsz b)
 refine calls_of_wp hf hb (h w F b _ w F ?_)
 refine { defers:=rfl,size:=?_,keep:=Keep.refl _ _,f0:=fun _ h=>h,fnew:=fun _ h=>.inl h,flt:=hF,slots:=?_,mem:=⟨by simp,fun k C hk=>?_⟩ }
 ·simp;omega
 ·intro t S ht
  obtain⟨_,h2⟩:=aC (args b) 0 t S ht
  obtain⟨v,hv,hS⟩:=hargs.get t S (by simpa using h2)
  have:(vs.toArray++Array.replicate (fn.ntmps-vs.toArray.size) undef).getD t undef=v:=by
   have hlt:t<vs.length:=by
    rcases Nat.lt_or_ge t vs.length with h|h
    ·exact h
    ·simp[List.getElem?_eq_none h] at hv
   have e:vs[t]=v:=by rw[List.getElem?_eq_getElem hlt] at hv;exact Option.some.inj hv
   simp[Array.getElem?_append,hlt,e]
  rw[this];exact hS
 ·obtain⟨rfl,rfl⟩:k=b∧C=pre:=by simpa using hk
  exact⟨.inr (by simp),hbw,hbF,hpre⟩
theorem Sat.change {a:Act} {w w':World} {F:Blk} (s:Sat E Γ M a w F) {i b:Nat} {C C':MP} (hM:M[i]?=some (some b,C)) (hk:Keep [b] w w')
  {o:Obj} (ho:w'.heap[b]?=some o) (hC:C'.h w' (aE F w w') o):Sat E Γ (M.set i (some b,C')) a w' (aE F w w'):=by
 obtain⟨h1,h2,h3,o1,h4,h5⟩:=s.mem.each b C (List.mem_of_getElem? hM)
 have hF:∀k,F k→w'.heap[k]?=w.heap[k]?:=fun k hk'=>hk.block k (s.flt k hk') (by simp;intro e;exact h3 (e▸hk'))
 have hsub:∀k,F k→aE F w w' k:=fun k h=>.inl h
 have hi:i<M.length:=by
  rcases Nat.lt_or_ge i M.length with h|h
  ·exact h
  ·rw[List.getElem?_eq_none h] at hM;cases hM
 have hMi:M[i]=(some b,C):=by rw[List.getElem?_eq_getElem hi] at hM;exact Option.some.inj hM
 refine { defers:=s.defers,size:=s.size,keep:=?_,f0:=fun k h=>.inl (s.f0 k h),fnew:=?_,flt:=?_,slots:=?_,mem:=⟨?_,?_⟩ }
 ·refine⟨hk.os.trans s.keep.os,hk.tape.trans s.keep.tape,hk.output.trans s.keep.output,Nat.le_trans s.keep.size hk.size,fun k hk0 hW=>?_⟩
  rw[hk.block k (Nat.lt_of_lt_of_le hk0 s.keep.size) (by simp;intro e;subst e;rcases h1 with h|h;omega;exact hW h)]
  exact s.keep.block k hk0 hW
 ·rintro k (h|h)
  ·rcases s.fnew k h with g|g
   ·exact .inl g
   ·exact .inr ⟨g.1,Nat.lt_of_lt_of_le g.2 hk.size⟩
  ·exact .inr ⟨Nat.le_trans s.keep.size h.1,h.2⟩
 ·rintro k (h|h)
  ·exact Nat.lt_of_lt_of_le (s.flt k h) hk.size
  ·exact h.2
 ·exact fun t S h=>S.mono _ _ _ _ _ (s.slots t S h) hF hsub
 ·rw[List.pairwise_iff_getElem]
  intro j k hj hkk hjk
  have hp:=List.pairwise_iff_getElem.1 s.mem.apart j k (by simpa using hj) (by simpa using hkk) hjk
  simp only[List.getElem_set]
  by_cases e1:i=j
  ·subst e1
   have:¬i=k:=by omega
   simp only[if_true,this,if_false]
   rw[hMi] at hp;exact hp
  ·by_cases e2:i=k
   ·subst e2
    simp only[e1,if_true,if_false]
    rw[hMi] at hp;exact hp
   ·simp only[e1,e2,if_false];exact hp
 ·intro k D hkD
  obtain⟨j,hj,he⟩:=List.mem_iff_getElem.1 hkD
  simp only[List.getElem_set] at he
  by_cases e1:i=j
  ·subst e1
   simp only[if_true] at he
   obtain⟨rfl,rfl⟩:b=k∧C'=D:=by simpa using he
   refine⟨h1,Nat.lt_of_lt_of_le h2 hk.size,?_,o,ho,hC⟩
   rintro (h|h)
   ·exact h3 h
   ·omega
  ·simp only[e1,if_false] at he
   have hjl:j<M.length:=by simpa using hj
   obtain⟨g1,g2,g3,o2,g4,g5⟩:=s.mem.each k D (he▸List.getElem_mem hjl)
   have hkb:k≠b:=by
    intro e;subst e
    rcases Nat.lt_or_gt_of_ne e1 with hlt|hlt
    ·have hp:=List.pairwise_iff_getElem.1 s.mem.apart i j hi hjl hlt
     rw[hMi,he] at hp;simp at hp
    ·have hp:=List.pairwise_iff_getElem.1 s.mem.apart j i hjl hi hlt
     rw[hMi,he] at hp;simp at hp
   refine⟨g1,Nat.lt_of_lt_of_le g2 hk.size,?_,o2,(hk.block k g2 (by simpa using hkb)).trans g4,D.mono _ _ _ _ _ g5 hF hsub⟩
   rintro (h|h)
   ·exact g3 h
   ·omega
theorem Ops.callM {f:FuncId} {xs:List Operand} {ts:Array TypeId} {args:Nat→List VP} {pre post:MP} {R:Nat→VP} {i b d:Nat} (hf:CtrM P f args pre post R) (hM:M[i]?=some (some b,pre)) (hx:HasL E Γ M xs (args b)) (hd:Nat.blt d E.n=true) {M':Mem}
  (hM':M.set i (some b,post)=M') (k:Ops E P ops Q rest ((d,R b)::Γ) M'):Ops E P ops Q (⟨some d,.call ⟨.value (.func f),xs.toArray,ts⟩,ty,pos,after,none⟩::rest) Γ M:=by
 intro a w F s
 refine wpList_plain rfl fun K hK=>?_
 unfold Oper.wp
 have hr:(execOp a.eval (⟨some d,.call ⟨.value (.func f),xs.toArray,ts⟩,ty,pos,after,none⟩:Oper)).run P w=.ok (.enter f (xs.map a.eval).toArray) w:=by
  have:=jh hf.1 (xs.map a.eval).toArray w
  simpa [go_sem] using this
 rw[hr]
 obtain⟨h1,h2,h3,h4⟩:=s.mem.each b _ (List.mem_of_getElem? hM)
 refine (hf.2 w F _ b s.flt h2 h3 h4 (hx.all s)).mono ?_
 rintro e w' ⟨v,rfl,hk,hv,o,ho,hp⟩
 have hd':d<E.n:=by simpa [Nat.blt_eq] using hd
 exact hK _ _ (k _ _ _ (hM'▸(s.change hM hk ho hp).put hd' hv))
theorem nU {fn:Func} {R:VP} {post:MP} {b i:Nat} {e:Exit} {a:Act} {w:World} {F:Blk} (he:e=.ret∨e=.normal) (s:Sat E Γ M a w F) (hw:E.W=[b]) (hM:M[i]?=some (some b,post)) {v:Value} (hv:(results fn a.tmps).run P w=.ok v w) (hR:R.h w F v):
  bodyPost P fn (tt E.w0 E.F0 b R post) e a w:=by
 have hk:=s.keep
 rw[hw] at hk
 obtain⟨_,_,_,o,ho,hp⟩:=s.mem.each b _ (List.mem_of_getElem? hM)
 have hsub:∀k,F k→aE E.F0 E.w0 w k:=fun k hk=>(s.fnew k hk).imp id id
 have hb:a.defers=[]∧∃v,(results fn a.tmps).run P w=.ok v w∧tt E.w0 E.F0 b R post (.returned v) w:=
  ⟨s.defers,_,hv,_,rfl,hk,R.mono _ _ _ _ _ hR (fun _ _=>rfl) hsub,o,ho,post.mono _ _ _ _ _ hp (fun _ _=>rfl) hsub⟩
 rcases he with rfl|rfl <;> exact hb
theorem zDG {fn:Func} {r:ResultVar} {R:VP} {post:MP} {b i:Nat} {e:Exit} (he:e=.ret∨e=.normal) (hr:fn.results=#[r]) (hw:E.W=[b]) (hM:M[i]?=some (some b,post)) (h:ResL E P Γ M [r] [R]):
  At E Γ M (bodyPost P fn (tt E.w0 E.F0 b R post)) e:=by
 intro a w F s
 obtain⟨vs,h1,h2⟩:=xA hr h s
 match vs,h2 with
 | [v],h2=>exact nU he s hw hM (by simpa using h1) h2.1
 | [],h2=>exact h2.elim
 | _::_::_,h2=>exact h2.2.elim
theorem rtM0 {fn:Func} {post:MP} {b i:Nat} {e:Exit} (he:e=.ret∨e=.normal) (hr:fn.results=#[]) (hw:E.W=[b]) (hM:M[i]?=some (some b,post)):
  At E Γ M (bodyPost P fn (tt E.w0 E.F0 b (zZ []) post)) e:=by
 intro a w F s
 obtain⟨vs,h1,h2⟩:=xA (rs:=[]) hr .nil s
 cases vs with
 | nil=>exact nU he s hw hM (by simpa using h1) ⟨[],rfl,trivial⟩
 | cons=>exact h2.elim
theorem lH {α:Type} {f:α→VP} {b:Option Nat} {l l':List α} (h:l=l'):(some (b,zC (l.map f)):Option (Option Nat×MP))=some (b,zC (l'.map f)):=h▸rfl
theorem qy {α:Type} {f:α→VP} {b:Option Nat} {l l':List α} {r:Mem} (h:l=l'):((b,zC (l.map f))::r:Mem)=(b,zC (l'.map f))::r:=h▸rfl
theorem qJ {α:Type} {f:α→VP} {l l':List α} (h:l=l'):SlM f l=SlM f l':=h▸rfl
theorem aS {n:Nat}:0+n*1=n:=by omega
theorem gS {o n:Nat}:o+n*1=o+n:=by omega
theorem qG {b o o':Nat} (h:o=o'):qX b o=qX b o':=h▸rfl
theorem gT {b o o' n n' c c':Nat} (h:o=o') (h2:n=n') (h3:c=c'):qW b o n c=qW b o' n' c':=by rw[h,h2,h3]
theorem OK1.eq {o:Oper} {S S':VP} (h:OK1 E P Γ M o S) (e:S=S'):OK1 E P Γ M o S':=e▸h
theorem Cv.freeze' {t b o n c i:Nat} {ys:List α} (hW:E.W=[]) (ht:zR Γ t=some (qW b o n c)) (hM:M[i]?=some (some b,zC (xs.map f))) (hl:o+n≤xs.length) (he:(xs.drop o).take n=ys):
  Cv E Γ M ((t,SlM f ys)::Γ) (M.eraseIdx i):=he▸Cv.freeze (by rw[hW];intro k hk;cases hk) ht hM hl
theorem Cv.freezeM {t b b0 o n c i j:Nat} {C:MP} {ys:List α} (hW:E.W=[b0]) (hj:M[j]?=some (some b0,C)) (hne:Nat.beq j i=false) (ht:zR Γ t=some (qW b o n c)) (hM:M[i]?=some (some b,zC (xs.map f))) (hl:o+n≤xs.length) (he:(xs.drop o).take n=ys):
  Cv E Γ M ((t,SlM f ys)::Γ) (M.eraseIdx i):=he▸Cv.freeze (by
   rw[hW];intro k hk
   obtain rfl:k=b0:=by simpa using hk
   exact⟨j,C,Nat.ne_of_beq_eq_false hne,hj⟩) ht hM hl
theorem aU {n:Nat} {xs:List α} (h:n=xs.length):(xs.drop 0).take n=xs:=by subst h;simp
end
end Go.En
namespace Go.En
open Go.RowKit
def tz : VP:=.pure fun v=>∃a,v=.slice a 0 0∧(a=none∨∃g o,a=some ⟨g,o,none⟩)
instance : One tz:=⟨fun w F v h=>by obtain⟨a,rfl,_⟩:=h;rfl⟩
section
variable {E : Env} {P : Program} {Γ : Ctx} {M : Mem} {ty : TypeId} {pos : String} {after : Array Edge} {gd : Option (Nat × Bool)} {d : Option Tmp}
 {ops : Array Oper} {Q : Exit → Act → World → Prop} {rest : List Oper} {T T' : TypeId} {x y : Operand} {α : Type} {f : α → VP} {fk : α → List VP} {xs : List α}
theorem Has.cW : Has E Γ M (.const (.slice none 0 0)) (SlM f []):=fun _ _ _ _=>⟨none,0,rfl,Nat.le_refl _,by rw[qS];omega,rfl,.inl rfl⟩
theorem nilM (w:World) (F:Blk):(SlM f []).h w F (.slice none 0 0):=⟨none,0,rfl,Nat.le_refl _,by rw[qS];omega,rfl,.inl rfl⟩
theorem Has.nilM {x:Operand} (h:Has E Γ M x zi):Has E Γ M x (SlM f []):=fun a w F s=>by
 have:a.eval x=.slice none 0 0:=h a w F s
 rw[this];exact En.nilM w F
theorem Has.okW {ws:List Nat} (h:Has E Γ M x (zD ws)):∀a w F,Sat E Γ M a w F→∀y∈ws,y<18446744073709551616:=by
 intro a w F s y hy
 obtain⟨ad,cap,e,g1,g2,g3,g4⟩:=h a w F s
 obtain⟨i,hi,rfl⟩:=List.mem_iff_getElem.1 hy
 rcases g4 with g4|⟨b,off,_,_,vs,hv,_⟩
 ·omega
 ·obtain⟨v,_,h2⟩:=hv.get i (isU ws[i]) (by simp[hi])
  exact h2.2
theorem Ops.buildS0 {d:Nat} {e:TypeId} {m:Nat} {g:Bool} (hT:slB P T=some e) (ht:tyB P e=some (m,g)) (hd:Nat.blt d E.n=true)
  (k:Ops E P ops Q rest ((d,tz)::Γ) M):Ops E P ops Q (⟨some d,.buildSlice T 0 #[],ty,pos,after,none⟩::rest) Γ M:=by
 intro a w F s
 refine wpList_plain rfl fun K hK=>?_
 unfold Oper.wp
 have hu:=qw hT
 have hr:(execOp a.eval (⟨some d,.buildSlice T 0 #[],ty,pos,after,none⟩:Oper)).run P w=.ok (.value (.slice (some ⟨w.heap.size,0,none⟩) 0 0)) { w with heap:=w.heap.push (.cells #[] e) }:=by
  simp only[execOp,Instr.buildSlice,Sem.run_bind,qd hu,Result.andThen_ok,qV ht]
  have e0:Array.range 0=#[]:=by apply Array.ext';simp
  simp[Instr.fill,newRow,Sem.run_bind,e0]
 rw[hr]
 have hd':d<E.n:=by simpa [Nat.blt_eq] using hd
 exact hK _ _ (k _ _ F ((s.adv ⟨Keep.alloc _ _ _,fun _ h=>h,fun _ h=>.inl h⟩).put hd' ⟨_,rfl,.inr ⟨_,_,rfl⟩⟩))
theorem sS {k n c:Nat} {w:World} {F:Blk} {Ss:List VP} {vs:List Value} {b:Nat} {T0:TypeId} {fr:Nat×Nat} {more:List Value} (hv:All2 Ss w F vs) (hl:Ss.length=n*k) (hF:F b) (hb:w.heap[b]?=some (.cells (vs++more).toArray T0 fr)) (hn:n≤c) (hc:c≤maxLen):
  (SlL k n Ss).h w F (.slice (some ⟨b,0,none⟩) n c):=
 ⟨_,_,rfl,hn,hc,hl,.inr ⟨b,0,rfl,hF,vs,hv,fun j u hj=>by
  have hjl:j<vs.length:=by
   rcases Nat.lt_or_ge j vs.length with h|h
   ·exact h
   ·rw[List.getElem?_eq_none h] at hj;cases hj
  simp only[World.cell?,hb,Nat.zero_add]
  simp[List.getElem?_append_left hjl,hj]⟩⟩
theorem OK1.appendZ {e:TypeId} {m:Nat} {g:Bool} {z:Value} {n:Nat} {Ss:List VP} (hT:slB P T=some e) (ht:tyB P e=some (m+1,g)) (hz:qe P e=some z) (hby:jQ P e 1024=true) (hx:Has E Γ M x tz) (hy:Has E Γ M y (SlL (m+1) n Ss)) (hn:n≤4294967296):
  OK1 E P Γ M ⟨d,.call ⟨.builtin .append,#[x,y],#[T,T]⟩,ty,pos,after,gd⟩ (SlL (m+1) n Ss):=by
 intro a w F s K Q hK
 obtain⟨a0,e1,ha0⟩:=hx a w F s
 have hS:=hy a w F s
 obtain⟨a1,cap,e2,g1,g2,g3,g4⟩:=id hS
 have hu:=qw hT
 obtain⟨i,hi,hb⟩:∃i,P.info? e=some i∧i.bytes≤1024:=by
  unfold jQ at hby
  cases hi:P.info? e with
  | none=>simp[hi] at hby
  | some i=>rw[hi] at hby;exact⟨i,rfl,Nat.le_of_ble_eq_true hby⟩
 have hsz:i.size=m+1:=by
  have:=qV (P:=P) (w:=w) ht
  simp[sizeOf,typeInfo,go_sem,hi] at this;exact this
 have hzz:i.zero=some z:=by unfold qe at hz;rw[hi] at hz;simpa using hz
 unfold Oper.wp
 by_cases h0:n=0
 ·subst h0
  have hr:(execOp a.eval (⟨d,.call ⟨.builtin .append,#[x,y],#[T,T]⟩,ty,pos,after,gd⟩:Oper)).run P w=.ok (.value (.slice a0 0 0)) w:=by
   simp only[execOp,resolve,invoke,builtin,Sem.run_bind]
   have:(Builtin.append_ #[T,T] ty #[.slice a0 0 0,.slice a1 0 cap]).run P w=.ok (.slice a0 0 0) w:=by
    cases a0 <;> cases a1 <;> simp[Builtin.append_,qd hu,Sem.run_bind,qV ht,Builtin.lenOf,Builtin.firstCells,loadCells,loadCellsFrom,storeCells]
   simp[e1,e2,Sem.run_bind,this]
  rw[hr]
  exact hK _ w F (Adv.refl _ _) ⟨a0,0,rfl,Nat.le_refl _,by rw[qS];omega,g3,.inl rfl⟩
 ·rcases g4 with g4|⟨b,off,rfl,hF,vs,hv,hc⟩
  ·omega
  have hlen:=hv.len
  have hnews:∀j u,vs[j]?=some u→w.cell? ((⟨b,off,none⟩:Addr).add j)=some u:=fun j u hj=>by rw[xN];exact hc j u hj
  have hbytes:n*i.bytes≤281474976710656:=by have:=Nat.mul_le_mul hn hb;omega
  have hfinish:∀cp,n≤cp→cp≤maxLen→∀zs:List Value,
    K (a.put d (.slice (some ⟨w.heap.size,0,none⟩) n cp)) { w with heap:=w.heap.push (.cells (vs++zs).toArray e),drawn:=w.drawn+1 }:=by
   intro cp h1 h2 zs
   have ad:Adv w F { w with heap:=w.heap.push (.cells (vs++zs).toArray e),drawn:=w.drawn+1 } (fun k=>F k∨k=w.heap.size):=
    ⟨⟨rfl,rfl,rfl,by simp,fun k hk _=>by simp[Array.getElem?_push,Nat.ne_of_lt hk]⟩,fun _ h=>.inl h,fun k h=>by
     rcases h with h|h
     ·exact .inl h
     ·exact .inr ⟨by omega,by simp;omega⟩⟩
   exact hK _ _ _ ad (sS (T0:=e) (fr:=(0,0)) (more:=zs) (All2.mono (ad.same s.flt) ad.sub _ _ hv) g3 (.inr rfl) (by simp) h1 h2)
  have hcell:vs.length=n*i.size:=by rw[←hlen,g3,hsz]
  have hml:n≤maxLen:=by rw[qS];omega
  have hge:=grownCap_ge w n 0 e
  have hcm:=grownCap_le_maxLen w n 0 e hml
  have earr:vs.toArray++Builtin.zeroCells z.cells (grownCap w n 0 e-n)=(vs++(Builtin.zeroCells z.cells (grownCap w n 0 e-n)).toList).toArray:=by apply Array.ext';simp
  rcases ha0 with rfl|⟨g0,o0,rfl⟩
  ·have hr:=run_append_nil (P:=P) w T ty e i z hu hi hzz ⟨b,off,none⟩ n cap vs hcell hnews (by omega) (by omega) hbytes
   have hr2:(execOp a.eval (⟨d,.call ⟨.builtin .append,#[x,y],#[T,T]⟩,ty,pos,after,gd⟩:Oper)).run P w=.ok (.value (.slice (some ⟨w.heap.size,0,none⟩) n (grownCap w n 0 e))) { w with heap:=w.heap.push (.cells (vs++(Builtin.zeroCells z.cells (grownCap w n 0 e-n)).toList).toArray e),drawn:=w.drawn+1 }:=by
    simp only[execOp,resolve,invoke,builtin,Sem.run_bind]
    rw[←earr]
    simp[e1,e2,Sem.run_bind,hr]
    first|rfl|exact⟨rfl,rfl⟩|done
   rw[hr2]
   exact hfinish _ hge hcm _
  ·have hr:=run_append_grow (P:=P) w T ty e i z hu hi hzz ⟨g0,o0,none⟩ 0 0 [] (by simp) (by simp) ⟨b,off,none⟩ n cap vs hcell hnews (by omega) (by omega) (by simp;unfold Builtin.nextslicecap;split <;> omega)
   have hr2:(execOp a.eval (⟨d,.call ⟨.builtin .append,#[x,y],#[T,T]⟩,ty,pos,after,gd⟩:Oper)).run P w=.ok (.value (.slice (some ⟨w.heap.size,0,none⟩) n (grownCap w n 0 e))) { w with heap:=w.heap.push (.cells (vs++(Builtin.zeroCells z.cells (grownCap w n 0 e-n)).toList).toArray e),drawn:=w.drawn+1 }:=by
    simp only[execOp,resolve,invoke,builtin,Sem.run_bind]
    rw[←earr]
    simp[e1,e2,Sem.run_bind,hr]
    first|rfl|exact⟨rfl,rfl⟩|done
   rw[hr2]
   exact hfinish _ hge hcm _
theorem OK1.appendZM {e:TypeId} {g:Bool} {z:Value} (hT:slB P T=some e) (ht:tyB P e=some (1,g)) (hz:qe P e=some z) (hby:jQ P e 1024=true) (hx:Has E Γ M x tz) (hy:Has E Γ M y (SlM f xs)) (hn:xs.length≤4294967296):
  OK1 E P Γ M ⟨d,.call ⟨.builtin .append,#[x,y],#[T,T]⟩,ty,pos,after,gd⟩ (SlM f xs):=OK1.appendZ (m:=0) hT ht hz hby hx hy hn
theorem Ops.eqNil {d:Nat} {e:TypeId} (hT:slB P T=some e) (hx:Has E Γ M x (SlM f xs)) (hd:Nat.blt d E.n=true)
  (k:∀b,(b=true→xs=[])→Ops E P ops Q rest ((d,isB b)::Γ) M):Ops E P ops Q (⟨some d,.binOp .eql T x (.const (.slice none 0 0)) T',ty,pos,after,none⟩::rest) Γ M:=by
 intro a w F s
 refine wpList_plain rfl fun K hK=>?_
 unfold Oper.wp
 obtain⟨a0,cap,e1,g1,g2,g3,g4⟩:=hx a w F s
 have hu:=qw hT
 have key:∀n,(Op.equalIn (n+1) T (.slice a0 xs.length cap) (.slice none 0 0)).run P w=.ok a0.isNone w:=by
  intro n
  cases a0 <;> simp[Op.equalIn,Sem.run_bind,qd hu]
 have hq:(Op.equal T (.slice a0 xs.length cap) (.slice none 0 0)).run P w=.ok a0.isNone w:=key 9999
 have hr:(execOp a.eval (⟨some d,.binOp .eql T x (.const (.slice none 0 0)) T',ty,pos,after,none⟩:Oper)).run P w=.ok (.value (.bool a0.isNone)) w:=by
  have ec:a.eval (.const (.slice none 0 0))=.slice none 0 0:=rfl
  simp only[execOp,e1,ec,eqGuard,binOp,Sem.run_bind]
  simp[hq,Sem.run_bind]
 rw[hr]
 have hd':d<E.n:=by simpa [Nat.blt_eq] using hd
 refine hK _ _ (k a0.isNone (fun h=>?_) _ _ F (s.put hd' rfl))
 rcases g4 with g4|⟨b,off,rfl,_⟩
 ·exact List.eq_nil_of_length_eq_zero g4
 ·simp at h
/-! ### bits of zA -/
def andNot (m n:Nat):Nat:=(BitVec.ofNat 64 m&&&~~~ (BitVec.ofNat 64 n)).toNat
theorem mK (op:BinOp) (m n:Nat) (r:Nat) (hop:op=.and∨op=.or∨op=.xor∨op=.andNot) (hr:(match op with|.and=>(BitVec.ofNat 64 m&&&BitVec.ofNat 64 n)|.or=>(BitVec.ofNat 64 m|||BitVec.ofNat 64 n)|.xor=>(BitVec.ofNat 64 m^^^BitVec.ofNat 64 n)|_=>(BitVec.ofNat 64 m&&&~~~ (BitVec.ofNat 64 n))).toNat=r) (w:World):
  (binOp op T (.int .u64 (m:Int)) (.int .u64 (n:Int))).run P w=.ok (.int .u64 (r:Int)) w:=by
 have e1:BitVec.ofInt IntKind.u64.bits (m:Int)=BitVec.ofNat 64 m:=by show BitVec.ofInt 64 (m:Int)=_;simp
 have e2:BitVec.ofInt IntKind.u64.bits (n:Int)=BitVec.ofNat 64 n:=by show BitVec.ofInt 64 (n:Int)=_;simp
 have hlt:r<18446744073709551616:=by rw[←hr];split <;> exact BitVec.isLt _
 have hw:IntKind.u64.wrap (r:Int)=r:=by rw[xl];omega
 rcases hop with rfl|rfl|rfl|rfl <;> simp only[binOp,Op.intBits,e1,e2] <;> rw[←hw,←hr] <;> rfl
variable {m n : Nat}
theorem OK1.andU (hx:Has E Γ M x (isU m)) (hy:Has E Γ M y (isU n)):OK1 E P Γ M ⟨d,.binOp .and T x y T',ty,pos,after,gd⟩ (isU (m&&&n)):=by
 intro a w F s
 have h1:=(hx a w F s).2
 have h2:=(hy a w F s).2
 have e:(BitVec.ofNat 64 m&&&BitVec.ofNat 64 n).toNat=m&&&n:=by simp[BitVec.toNat_and,Nat.mod_eq_of_lt h1,Nat.mod_eq_of_lt h2]
 exact OK1.bin (evU hx) (evU hy) (mK .and m n _ (by simp) e) (fun w F=>ve rfl (Nat.lt_of_le_of_lt Nat.and_le_left h1) w F) a w F s
theorem OK1.orU (hx:Has E Γ M x (isU m)) (hy:Has E Γ M y (isU n)):OK1 E P Γ M ⟨d,.binOp .or T x y T',ty,pos,after,gd⟩ (isU (m|||n)):=by
 intro a w F s
 have h1:=(hx a w F s).2
 have h2:=(hy a w F s).2
 have e:(BitVec.ofNat 64 m|||BitVec.ofNat 64 n).toNat=m|||n:=by simp[BitVec.toNat_or,Nat.mod_eq_of_lt h1,Nat.mod_eq_of_lt h2]
 exact OK1.bin (evU hx) (evU hy) (mK .or m n _ (by simp) e) (fun w F=>ve rfl (by rw[←e];exact BitVec.isLt _) w F) a w F s
end
end Go.En
namespace Go.En
open Go.RowKit
section
variable {E : Env} {P : Program} {Γ : Ctx} {M : Mem} {ty : TypeId} {pos : String} {after : Array Edge} {gd : Option (Nat × Bool)} {d : Option Tmp}
structure IsExt (P:Program) (f:FuncId) (e:Array Value→Sem Value):Prop where
 ex : ∃ fn, P.funcs[f]? = some fn ∧ (fn.name == "runtime.NumGoroutine") = false ∧ fn.body.isNone = true ∧ Extern.findNext fn = none ∧ Extern.find fn = some e
def zHD : Array Value→Sem Value:=match Extern.MathBitsCarry.rows with
 | [_,r]=>r.2
 | _=>fun _=>pure undef
theorem zDE {f:FuncId} {e:Array Value→Sem Value} (h:IsExt P f e) (args:Array Value) (w:World):(callFunc f args).run P w=((e args).run P w).andThen fun v w'=>.ok (.value v) w':=by
 obtain⟨fn,h1,h2,h3,h4,h5⟩:=h.ex
 have h2' : ¬ fn.name = "runtime.NumGoroutine" := by simpa using h2
 have h3':fn.body=none:=by simpa using h3
 simp[callFunc,go_sem,h1,h2',h3',h4,h5]
theorem OK1.ext3 {f:FuncId} {e:Array Value→Sem Value} {x y z:Operand} {ts:Array TypeId} {l m c:Nat} {S:VP} {v:Value} (h:IsExt P f e) (hx:Has E Γ M x (isU l)) (hy:Has E Γ M y (isU m)) (hz:Has E Γ M z (isU c))
  (hr:∀w,(e #[.int .u64 l,.int .u64 m,.int .u64 c]).run P w=.ok v w) (hS:∀w F,S.h w F v):OK1 E P Γ M ⟨d,.call ⟨.value (.func f),#[x,y,z],ts⟩,ty,pos,after,gd⟩ S:=
 .run fun a w F s=>⟨v,by
  have:=zDE h #[.int .u64 l,.int .u64 m,.int .u64 c] w
  rw[hr w] at this
  have e1:=evU hx a w F s
  have e2:=evU hy a w F s
  have e3:=evU hz a w F s
  simp only[execOp,resolve,Deferred.ofValue,invoke,Sem.run_bind]
  have e4:a.eval (.func f)=.func (.func f) #[] #[]:=rfl
  simp[e1,e2,e3,e4,Deferred.ofValue,invoke,this],hS w F⟩
theorem OK1.add64 {f:FuncId} {x y z:Operand} {ts:Array TypeId} {l m c:Nat} (h:IsExt P f add64Entry) (hx:Has E Γ M x (isU l)) (hy:Has E Γ M y (isU m)) (hz:Has E Γ M z (isU c)) (hc:c≤1) (h3:l<18446744073709551616∧m<18446744073709551616):
  OK1 E P Γ M ⟨d,.call ⟨.value (.func f),#[x,y,z],ts⟩,ty,pos,after,gd⟩ (zZ [isU ((l+m+c)%18446744073709551616),isU ((l+m+c)/18446744073709551616)]):=
 .ext3 h hx hy hz (v:=.tuple #[.int .u64 (((l+m+c)%18446744073709551616:Nat):Int),.int .u64 (((l+m+c)/18446744073709551616:Nat):Int)]) (fun w=>by
  have:c=0∨c=1:=by omega
  rcases this with rfl|rfl <;> rfl)
  (fun w F=>⟨_,rfl,⟨rfl,Nat.mod_lt _ (by decide)⟩,⟨rfl,by omega⟩,trivial⟩)
theorem OK1.sub64 {f:FuncId} {x y z:Operand} {ts:Array TypeId} {l m c:Nat} (h:IsExt P f zHD) (hx:Has E Γ M x (isU l)) (hy:Has E Γ M y (isU m)) (hz:Has E Γ M z (isU c)) (hc:c≤1) (h3:l<18446744073709551616∧m<18446744073709551616):
  OK1 E P Γ M ⟨d,.call ⟨.value (.func f),#[x,y,z],ts⟩,ty,pos,after,gd⟩ (zZ [isU ((l+18446744073709551616-m-c)%18446744073709551616),isU (if l<m+c then 1 else 0)]):=
 .ext3 h hx hy hz (v:=.tuple #[.int .u64 (((l+18446744073709551616-m-c)%18446744073709551616:Nat):Int),.int .u64 (((if l<m+c then 1 else 0):Nat):Int)]) (fun w=>by
  have e0:∀k:Nat,k≤1→(zHD #[.int .u64 (l:Int),.int .u64 (m:Int),.int .u64 (k:Int)]).run P w=.ok (Extern.MathBitsCarry.pair ((l+Extern.MathBitsCarry.m64-m-k)%Extern.MathBitsCarry.m64) (if l<m+k then 1 else 0)) w:=by
   intro k hk
   have:k=0∨k=1:=by omega
   rcases this with rfl|rfl <;> rfl
  rw[e0 c hc]
  rfl)
  (fun w F=>⟨_,rfl,⟨rfl,Nat.mod_lt _ (by decide)⟩,⟨rfl,by split <;> omega⟩,trivial⟩)
theorem OK1.buildS {T e:TypeId} {n m:Nat} {g:Bool} {z:Value} {ps:List (Nat×Operand)} (Z:List VP) {Z':List VP} {S:VP} (hT:slB P T=some e) (ht:tyB P e=some (m,g)) (hz:qe P e=some z) (hZ:∀w F,All2 Z w F ((List.replicate n z.cells.toList).flatten)) (hnm:Nat.ble (n*m) 1000=true) (hn0:Nat.beq (n*m) 0=false)
    (h:Parts E Γ M (fun i=>some (i*m,m)) Z ps Z') (hl:Nat.beq Z'.length (n*m)=true) (hS:SlL m n Z'=S):OK1 E P Γ M ⟨d,.buildSlice T n ps.toArray,ty,pos,after,gd⟩ S:=by
  intro a w F s K Q hK
  have hu:=qw hT
  have hnm':=Nat.le_of_ble_eq_true hnm
  have hn0':=Nat.ne_of_beq_eq_false hn0
  have hm:(n*z.cells.size)=n*m:=by
    have h1:=(hZ w F).len
    have h2:=Nat.eq_of_beq_eq_true hl
    have h3:Z'.length=Z.length:=by
      clear h1 h2 hK hZ hS hl
      induction h with
      | nil=>rfl
      | @cons Z Z' i off k x S0 Ss r sh a1 a2 a3 a4 _ ih=>
        rw[ih,jr _ _ _ (by have:=Nat.le_of_ble_eq_true a4;have:=Nat.eq_of_beq_eq_true a3;omega)]
        have:=Nat.le_of_ble_eq_true a4;have:=Nat.eq_of_beq_eq_true a3
        simp;omega
    simp at h1
    omega
  have hz0:z.cells.size=m:=by
    rcases Nat.eq_zero_or_pos n with h0|h0
    · subst h0;simp at hn0'
    · exact Nat.eq_of_mul_eq_mul_left h0 hm
  have hfl:((Array.range (n*m)).map fun j=>z.cells[j%z.cells.size]!)=((List.replicate n z.cells.toList).flatten).toArray:=vv hz0
  obtain⟨cells,h1,h2⟩:=h.fill s ((List.replicate n z.cells.toList).flatten).toArray (by simpa using hZ w F)
  have hr:(execOp a.eval (⟨d,.buildSlice T n ps.toArray,ty,pos,after,gd⟩:Oper)).run P w=.ok (.value (.slice (some ⟨w.heap.size,0,none⟩) n n)) { w with heap:=w.heap.push (.cells cells e) }:=by
    have hmap:(ps.toArray.map fun (p:Nat×Operand)=>(p.1,a.eval p.2)).toList=ps.map fun p=>(p.1,a.eval p.2):=by simp
    have hbig:¬n*m>2^24:=by omega
    simp only[execOp,Instr.buildSlice,Sem.run_bind,qd hu,Result.andThen_ok,qV ht,if_neg hbig,if_neg hn0',wu hz,Sem.run_pure,hmap,hfl,h1,newRow,run_newObj]
  unfold Oper.wp
  rw[hr]
  have ad:=kV s (.cells cells e)
  refine hK _ _ _ ad (hS▸?_)
  have h2':=All2.mono (ad.same s.flt) ad.sub _ _ h2
  refine sS (T0:=e) (fr:=(0,0)) (more:=[]) h2' (Nat.eq_of_beq_eq_true hl) (.inr rfl) (by simp) (Nat.le_refl _) ?_
  rw[qS]
  rcases Nat.eq_zero_or_pos m with h0|h0
  · subst h0;simp at hn0'
  · have:=Nat.le_mul_of_pos_right n h0;omega
end
end Go.En
namespace Go.En
open Go.RowKit
section
variable {E : Env} {P : Program} {Γ : Ctx} {M : Mem} {ty : TypeId} {pos : String} {after : Array Edge} {gd : Option (Nat × Bool)} {d : Option Tmp}
 {ops : Array Oper} {Q : Exit → Act → World → Prop} {rest : List Oper} {T T' : TypeId} {x y : Operand} {α : Type} {f : α → VP} {fk : α → List VP} {xs : List α}
theorem Ops.appendO {d:Nat} {e:TypeId} {g:Bool} {z:Value} {u:α} (hT:slB P T=some e) (ht:tyB P e=some (0+1,g)) (hz:qe P e=some z) (hZ:∀w F,All2 [f u] w F z.cells.toList) (hby:jQ P e 1024=true) (hx:Has E Γ M x tz) (hy:Has E Γ M y (SlM f xs)) (hn':xs.length≤4294967296) (hd:Nat.blt d E.n=true)
    (k0:xs=[]→Ops E P ops Q rest ((d,SlM f [])::Γ) M)
    (k1:xs≠[]→∀b c j,Ops E P ops Q rest ((d,qW b 0 xs.length c)::Γ) ((some b,zC ((xs++List.replicate j u).map f))::M)):
    Ops E P ops Q (⟨some d,.call ⟨.builtin .append,#[x,y],#[T,T]⟩,ty,pos,after,none⟩::rest) Γ M:=by
  intro a w F s
  refine wpList_plain rfl fun K hK=>?_
  have hd':d<E.n:=by simpa [Nat.blt_eq] using hd
  obtain⟨a0,e1,ha0⟩:=hx a w F s
  have hn:xs.length≤4294967296:=hn'
  have hS:=hy a w F s
  obtain⟨a1,cap,e2,g1,g2,g3,g4⟩:=id hS
  generalize hlx:xs.length=n at*
  have hu:=qw hT
  obtain⟨i,hi,hb⟩:∃i,P.info? e=some i∧i.bytes≤1024:=by
    unfold jQ at hby
    cases hi:P.info? e with
    | none=>simp[hi] at hby
    | some i=>rw[hi] at hby;exact⟨i,rfl,Nat.le_of_ble_eq_true hby⟩
  have hsz:i.size=0+1:=by
    have:=qV (P:=P) (w:=w) ht
    simp[sizeOf,typeInfo,go_sem,hi] at this;exact this
  have hzz:i.zero=some z:=by unfold qe at hz;rw[hi] at hz;simpa using hz
  unfold Oper.wp
  by_cases h0:n=0
  · subst h0
    have hr:(execOp a.eval (⟨some d,.call ⟨.builtin .append,#[x,y],#[T,T]⟩,ty,pos,after,none⟩:Oper)).run P w=.ok (.value (.slice a0 0 0)) w:=by
      simp only[execOp,resolve,invoke,builtin,Sem.run_bind]
      have:(Builtin.append_ #[T,T] ty #[.slice a0 0 0,.slice a1 0 cap]).run P w=.ok (.slice a0 0 0) w:=by
        cases a0 <;> cases a1 <;> simp[Builtin.append_,qd hu,Sem.run_bind,qV ht,Builtin.lenOf,Builtin.firstCells,loadCells,loadCellsFrom,storeCells]
      simp[e1,e2,Sem.run_bind,this]
    rw[hr]
    exact hK _ _ (k0 (List.eq_nil_of_length_eq_zero hlx) _ _ F (s.put hd' ⟨a0,0,rfl,Nat.le_refl _,by rw[qS];omega,rfl,.inl rfl⟩))
  · rcases g4 with g4|⟨b,off,rfl,hF,vs,hv,hc⟩
    · omega
    have hlen:=hv.len
    have hnews:∀j u,vs[j]?=some u→w.cell? ((⟨b,off,none⟩:Addr).add j)=some u:=fun j u hj=>by rw[xN];exact hc j u hj
    have hbytes:n*i.bytes≤281474976710656:=by have:=Nat.mul_le_mul hn hb;omega
    have hone:z.cells.size=1:=by have:=(hZ w F).len;simpa using this.symm
    have hzs:∀k,(Builtin.zeroCells z.cells k).toList=(List.replicate k z.cells.toList).flatten:=fun k=>by
      unfold Builtin.zeroCells
      rw[vv rfl]
    have hall:∀k,All2 ((List.replicate k u).map f) w F ((List.replicate k z.cells.toList).flatten):=by
      intro k
      induction k with
      | zero=>trivial
      | succ k ih=>
        rw[List.replicate_succ,List.replicate_succ,List.flatten_cons,List.map_cons]
        exact All2.append (hZ w F) ih
    have hfinish:∀cp,n≤cp→cp≤maxLen→∀k,
        K (a.put (some d) (.slice (some ⟨w.heap.size,0,none⟩) n cp)) { w with heap:=w.heap.push (.cells (vs++(Builtin.zeroCells z.cells k).toList).toArray e),drawn:=w.drawn+1 }:=by
      intro cp h1 h2 k
      have hcs:All2 ((xs++List.replicate k u).map f) w F (vs++(Builtin.zeroCells z.cells k).toList):=by
        rw[List.map_append,hzs];exact All2.append hv (hall k)
      have s1:=(s.adv (Adv.drew w F)).alloc (T:=e) (All2.mono (w:=w) (w':={ w with drawn:=w.drawn+1 }) (fun _ _=>rfl) (fun _ h=>h) _ _ hcs)
      exact hK _ _ (k1 (fun h=>h0 (by rw[←hlx,h];rfl)) w.heap.size cp k _ _ F (s1.put hd' ⟨rfl,h1,h2⟩))
    have hcell:vs.length=n*i.size:=by rw[←hlen,g3,hsz]
    have hml:n≤maxLen:=by rw[qS];omega
    have hge:=grownCap_ge w n 0 e
    have hcm:=grownCap_le_maxLen w n 0 e hml
    have earr:vs.toArray++Builtin.zeroCells z.cells (grownCap w n 0 e-n)=(vs++(Builtin.zeroCells z.cells (grownCap w n 0 e-n)).toList).toArray:=by apply Array.ext';simp
    rcases ha0 with rfl|⟨g0,o0,rfl⟩
    · have hr:=run_append_nil (P:=P) w T ty e i z hu hi hzz ⟨b,off,none⟩ n cap vs hcell hnews (by omega) (by omega) hbytes
      have hr2:(execOp a.eval (⟨some d,.call ⟨.builtin .append,#[x,y],#[T,T]⟩,ty,pos,after,none⟩:Oper)).run P w=.ok (.value (.slice (some ⟨w.heap.size,0,none⟩) n (grownCap w n 0 e))) { w with heap:=w.heap.push (.cells (vs++(Builtin.zeroCells z.cells (grownCap w n 0 e-n)).toList).toArray e),drawn:=w.drawn+1 }:=by
        simp only[execOp,resolve,invoke,builtin,Sem.run_bind]
        rw[←earr]
        simp[e1,e2,Sem.run_bind,hr]
        first|rfl|exact⟨rfl,rfl⟩|done
      rw[hr2]
      exact hfinish _ hge hcm _
    · have hr:=run_append_grow (P:=P) w T ty e i z hu hi hzz ⟨g0,o0,none⟩ 0 0 [] (by simp) (by simp) ⟨b,off,none⟩ n cap vs hcell hnews (by omega) (by omega) (by simp;unfold Builtin.nextslicecap;split <;> omega)
      have hr2:(execOp a.eval (⟨some d,.call ⟨.builtin .append,#[x,y],#[T,T]⟩,ty,pos,after,none⟩:Oper)).run P w=.ok (.value (.slice (some ⟨w.heap.size,0,none⟩) n (grownCap w n 0 e))) { w with heap:=w.heap.push (.cells (vs++(Builtin.zeroCells z.cells (grownCap w n 0 e-n)).toList).toArray e),drawn:=w.drawn+1 }:=by
        simp only[execOp,resolve,invoke,builtin,Sem.run_bind]
        rw[←earr]
        simp[e1,e2,Sem.run_bind,hr]
        first|rfl|exact⟨rfl,rfl⟩|done
      rw[hr2]
      exact hfinish _ hge hcm _
def tq {α:Type} (w:World) (F:Blk) (f:α→VP) (u:α) (xs:List α):Ending→World→Prop:=fun e w'=>∃v,e=.returned v∧Keep [] w w'∧
 ((xs=[]∧(SlM f []).h w' (aE F w w') v)∨(xs≠[]∧∃b c k F',w.heap.size≤b∧b<w'.heap.size∧¬F' b∧(∀k,F' k→aE F w w' k)∧(∀k,F k→F' k)∧(qW b 0 xs.length c).h w' F' v∧∃o,w'.heap[b]?=some o∧(zC ((xs++List.replicate k u).map f)).h w' F' o))
def CtrO {α:Type} (P:Program) (g:FuncId) (args:List VP) (f:α→VP) (u:α) (xs:List α):Prop:=
 iE P g∧∀(w:World) (F:Blk) (vs:List Value),(∀k,F k→k<w.heap.size)→All2 args w F vs→Calls P g vs.toArray w (tq w F f u xs)
theorem CtrO.intro {α : Type} {g : FuncId} {fn : Func} {c : Code} {Ss : List VP} {f : α → VP} {u : α} {xs : List α} (hf : P.funcs[g]? = some fn) (hb : fn.body = some c) (hn : (fn.name == "runtime.NumGoroutine") = false) {nt : Nat} (hnt : fn.ntmps = nt)
  (hsz:Nat.ble Ss.length nt=true)
  (h:∀w F,Tri ⟨w,F,[],nt⟩ P c (jD 0 Ss) [] (bodyPost P fn (tq w F f u xs))):CtrO P g Ss f u xs:=by
 subst hnt
 refine⟨⟨fn,hf,by simp[hb],hn⟩,fun w F vs hF hargs=>?_⟩
 have hlen:=hargs.len
 have hsz':Ss.length≤fn.ntmps:=by simpa using Nat.le_of_ble_eq_true hsz
 refine calls_of_wp hf hb (h w F _ w F ?_)
 refine { defers:=rfl,size:=?_,keep:=Keep.refl _ _,f0:=fun _ h=>h,fnew:=fun _ h=>.inl h,flt:=hF,slots:=?_,mem:=⟨List.Pairwise.nil,by simp⟩ }
 ·simp;omega
 ·intro t S ht
  obtain⟨_,h2⟩:=aC Ss 0 t S ht
  obtain⟨v,hv,hS⟩:=hargs.get t S (by simpa using h2)
  have:(vs.toArray++Array.replicate (fn.ntmps-vs.toArray.size) undef).getD t undef=v:=by
   have hlt:t<vs.length:=by
    rcases Nat.lt_or_ge t vs.length with h|h
    ·exact h
    ·rw[List.getElem?_eq_none h] at hv;cases hv
   rw[Array.getD_eq_getD_getElem?,Array.getElem?_append_left (by simpa using hlt)]
   simp[hv]
  rw[this];exact hS
theorem nT {α:Type} {fn:Func} {f:α→VP} {u:α} {xs:List α} {e:Exit} {a:Act} {w:World} {F:Blk} (he:e=.ret∨e=.normal) (s:Sat E Γ M a w F) (hw:E.W=[]) {v:Value} (hv:(results fn a.tmps).run P w=.ok v w)
  (hR:(xs=[]∧(SlM f []).h w F v)∨(xs≠[]∧∃b c k i:Nat,M[i]?=some (some b,zC ((xs++List.replicate k u).map f))∧(qW b 0 xs.length c).h w F v)):
  bodyPost P fn (tq E.w0 E.F0 f u xs) e a w:=by
 have hk:=s.keep
 rw[hw] at hk
 have hsub:∀k,F k→aE E.F0 E.w0 w k:=fun k hk=>(s.fnew k hk).imp id id
 have hb:a.defers=[]∧∃v,(results fn a.tmps).run P w=.ok v w∧tq E.w0 E.F0 f u xs (.returned v) w:=by
  refine⟨s.defers,_,hv,_,rfl,hk,?_⟩
  rcases hR with ⟨h1,h2⟩|⟨h1,b,c,k,i,hM,h2⟩
  ·exact .inl ⟨h1,(SlM f []).mono _ _ _ _ _ h2 (fun _ _=>rfl) hsub⟩
  ·obtain⟨g1,g2,g3,o,g4,g5⟩:=s.mem.each b _ (List.mem_of_getElem? hM)
   exact .inr ⟨h1,b,c,k,F,g1.resolve_right (by rw[hw];simp),g2,g3,hsub,s.f0,h2,o,g4,g5⟩
 rcases he with rfl|rfl <;> exact hb
theorem zHP {α:Type} {fn:Func} {f:α→VP} {u:α} {xs:List α} {r:ResultVar} {e:Exit} (he:e=.ret∨e=.normal) (hr:fn.results=#[r]) (hw:E.W=[]) (hx:xs=[]) (h:ResL E P Γ M [r] [SlM f []]):
  At E Γ M (bodyPost P fn (tq E.w0 E.F0 f u xs)) e:=by
 intro a w F s
 obtain⟨vs,h1,h2⟩:=xA hr h s
 match vs,h2 with
 | [v],h2=>exact nT he s hw (by simpa using h1) (.inl ⟨hx,h2.1⟩)
 | [],h2=>exact h2.elim
 | _::_::_,h2=>exact h2.2.elim
theorem rtO1 {α:Type} {fn:Func} {f:α→VP} {u:α} {xs:List α} {r:ResultVar} {b c k i:Nat} {e:Exit} (he:e=.ret∨e=.normal) (hr:fn.results=#[r]) (hw:E.W=[]) (hx:xs≠[]) (hM:M[i]?=some (some b,zC ((xs++List.replicate k u).map f))) (h:ResL E P Γ M [r] [qW b 0 xs.length c]):
  At E Γ M (bodyPost P fn (tq E.w0 E.F0 f u xs)) e:=by
 intro a w F s
 obtain⟨vs,h1,h2⟩:=xA hr h s
 match vs,h2 with
 | [v],h2=>exact nT he s hw (by simpa using h1) (.inr ⟨hx,b,c,k,i,hM,h2.1⟩)
 | [],h2=>exact h2.elim
 | _::_::_,h2=>exact h2.2.elim
theorem Sat.own {a:Act} {w w':World} {F F':Blk} (s:Sat E Γ M a w F) (hk:Keep [] w w') {b:Nat} {C:MP} (h1:w.heap.size≤b) (h2:b<w'.heap.size) (h3:¬F' b) (h4:∀k,F' k→aE F w w' k) (h5:∀k,F k→F' k)
  {o:Obj} (ho:w'.heap[b]?=some o) (hC:C.h w' F' o):Sat E Γ ((some b,C)::M) a w' F':=by
 have ad:Adv w F w' F':=⟨hk,h5,fun k h=>(h4 k h).imp id id⟩
 have s':=s.adv ad
 exact { s' with mem:=⟨by
   refine List.Pairwise.cons ?_ s'.mem.apart
   intro x hx
   obtain⟨k,D⟩:=x
   cases k with
   | none=>exact .inr (by simp)
   | some k=>exact .inr (by have:=(s.mem.each k D hx).2.1;simp;omega),by
   intro k D hb
   rcases List.mem_cons.1 hb with e|hb
   ·obtain⟨rfl,rfl⟩:k=b∧D=C:=by simpa using e
    exact⟨.inl (Nat.le_trans s.keep.size h1),h2,h3,o,ho,hC⟩
   ·exact s'.mem.each k D hb⟩ }
theorem Ops.callO {α:Type} {g:FuncId} {zs:List Operand} {ts:Array TypeId} {args:List VP} {f:α→VP} {u:α} {ys:List α} {d:Nat} (hf:CtrO P g args f u ys) (hx:HasL E Γ M zs args) (hd:Nat.blt d E.n=true)
  (k0:ys=[]→Ops E P ops Q rest ((d,SlM f [])::Γ) M)
  (k1:ys≠[]→∀b c j,Ops E P ops Q rest ((d,qW b 0 ys.length c)::Γ) ((some b,zC ((ys++List.replicate j u).map f))::M)):
  Ops E P ops Q (⟨some d,.call ⟨.value (.func g),zs.toArray,ts⟩,ty,pos,after,none⟩::rest) Γ M:=by
 intro a w F s
 refine wpList_plain rfl fun K hK=>?_
 unfold Oper.wp
 have hr:(execOp a.eval (⟨some d,.call ⟨.value (.func g),zs.toArray,ts⟩,ty,pos,after,none⟩:Oper)).run P w=.ok (.enter g (zs.map a.eval).toArray) w:=by
  have:=jh hf.1 (zs.map a.eval).toArray w
  simpa [go_sem] using this
 rw[hr]
 refine (hf.2 w F _ s.flt (hx.all s)).mono ?_
 have hd':d<E.n:=by simpa [Nat.blt_eq] using hd
 rintro e w' ⟨v,rfl,hk,⟨h1,h2⟩|⟨h1,b,c,k,F',g1,g2,g3,g4,g5,g6,o,g7,g8⟩⟩
 ·exact hK _ _ (k0 h1 _ _ _ ((s.adv ⟨hk,fun b hb=>.inl hb,fun b hb=>hb⟩).put hd' h2))
 ·exact hK _ _ (k1 h1 b c k _ _ _ ((s.own hk g1 g2 g3 g4 g5 g7 g8).put hd' g6))
theorem Has.winLe {b o n c:Nat} (h:Has E Γ M x (qW b o n c)):∀a w F,Sat E Γ M a w F→n≤c:=fun a w F s=>(h a w F s).2.1
theorem OK1.idxStr {d:Option Tmp} {t:ByteArray} {z:Int} {n:Nat} {gd:Option (Nat×Bool)} (hT:P.underlying T=some .string) (hy:Has E Γ M y (isK .u8 z)) (h0:0≤z) (h:∃hh:z.toNat<t.size,(t[z.toNat]'hh).toNat=n):
  OK1 E P Γ M ⟨d,.index T (.const (.string t)) y,ty,pos,after,gd⟩ (isK .u8 (n:Int)):=
 .run fun a w F s=>by
  obtain⟨hh,h⟩:=h
  have h2:=(hy a w F s).1
  refine⟨.int .u8 (n:Int),?_,rfl,?_⟩
  ·have e:t[z.toNat]?=some (t[z.toNat]'hh):=by rw[getElem?_pos t z.toNat hh]
   have e0:a.eval (.const (.string t))=.string t:=rfl
   simp only[execOp,h2,e0,Instr.index,asIntOf,Sem.run_bind,Sem.run_pure,qd hT,Result.andThen_ok]
   rw[if_pos h0,e]
   simp only[Sem.run_pure,Result.andThen_ok,h]
  ·have:=(t[z.toNat]'hh).toNat_lt
   rw[h] at this
   exact⟨by show (0:Int)≤_;omega,by show _≤(255:Int);omega⟩
theorem OK1.convUu8 {S:TypeId} {n:Nat} {d:Option Tmp} {gd:Option (Nat×Bool)} {ds:TypeDesc} (hs:P.underlying S=some ds) (ht:P.underlying T=some (.int .u8)) (hx:Has E Γ M x (isU n)) (h:n<256):
  OK1 E P Γ M ⟨d,.convert S T x,ty,pos,after,gd⟩ (isK .u8 (n:Int)):=
 .conv hs ht (evU hx) (fun w F=>by
  have e:IntKind.u8.wrap (n:Int)=n:=by
   unfold IntKind.wrap
   simp[IntKind.bits,IntKind.signed]
   omega
  rw[e]
  exact⟨rfl,by show (0:Int)≤_;omega,by show _≤(255:Int);omega⟩)
theorem Ops.copyW {d:Nat} {e:TypeId} {g:Bool} {b o n c i:Nat} {ys:List α} {T2:TypeId} (hT:slB P T=some e) (ht:tyB P e=some (1,g)) (h1:∀u,One (f u)) (hx:Has E Γ M x (qW b o n c)) (hy:Has E Γ M y (SlM f ys)) (hM:M[i]?=some (some b,zC (xs.map f)))
  (hl:ys.length≤n∧o+n≤xs.length) (hd:Nat.blt d E.n=true) {M':Mem} (hM':M.set i (some b,zC ((xs.take o++ys++xs.drop (o+ys.length)).map f))=M')
  (k:Ops E P ops Q rest ((d,isI (ys.length:Int))::Γ) M'):Ops E P ops Q (⟨some d,.call ⟨.builtin .copy,#[x,y],#[T,T2]⟩,ty,pos,after,none⟩::rest) Γ M:=by
 intro a w F s
 refine wpList_plain rfl fun K hK=>?_
 unfold Oper.wp
 have hd':d<E.n:=by simpa [Nat.blt_eq] using hd
 obtain⟨e1,e2,e3⟩:=hx a w F s
 obtain⟨a1,cap,e4,g1,g2,g3,g4⟩:=hy a w F s
 obtain⟨ob,hb,vs,T',rfl,hv⟩:=wZ s hM
 have hu:=qw hT
 have hsz:(P.info? e).map (·.size)=some 1:=by
  have:=qV (P:=P) (w:=w) ht
  cases hi:P.info? e with
  | none=>simp[sizeOf,typeInfo,go_sem,hi] at this
  | some i=>simp[sizeOf,typeInfo,go_sem,hi] at this;simp[this]
 have hmin:Nat.min ys.length n=ys.length:=Nat.min_eq_left hl.1
 have hvl:=hv.len
 simp only[List.length_map] at hvl
 have hI:∀{F':Blk} {w':World},(isI (ys.length:Int)).h w' F' (goInt ys.length):=by
  intro F' w'
  refine⟨rfl,by omega,?_⟩
  have:=qS
  omega
 rcases g4 with g4|⟨b1,off,rfl,hF1,cs,hcs,hc⟩
 ·have hys:ys=[]:=List.eq_nil_of_length_eq_zero g4
  subst hys
  have hrun:=run_copy_none (P:=P) w T T2 ty e (some ⟨b,o,none⟩) a1 n c 0 cap hu hsz (by simp)
  have hr:(execOp a.eval (⟨some d,.call ⟨.builtin .copy,#[x,y],#[T,T2]⟩,ty,pos,after,none⟩:Oper)).run P w=.ok (.value (goInt 0)) w:=by
   simp only[execOp,resolve,invoke,builtin,Sem.run_bind]
   simp only[List.length_nil] at e4
   simp[e1,e4,Sem.run_bind,hrun]
  rw[hr]
  have hMM:M'=M:=by
   rw[←hM']
   simp only[List.append_nil,List.length_nil,Nat.add_zero,List.take_append_drop]
   have hi:i<M.length:=by
    rcases Nat.lt_or_ge i M.length with h|h
    ·exact h
    ·rw[List.getElem?_eq_none h] at hM;cases hM
   rw[List.getElem?_eq_getElem hi] at hM
   rw[←Option.some.inj hM,List.set_getElem_self]
  refine hK _ _ (k _ _ F ?_)
  rw[hMM]
  exact s.put hd' hI
 have hlen:=hcs.len
 simp only[List.length_map] at hlen
 have hrun:=run_copy_row (P:=P) w T T2 ty e b o n c ⟨b1,off,none⟩ ys.length cap vs.toArray T' cs hu hsz hb (by rw[←hlen,hmin]) (fun j v hj=>by rw[xN];exact hc j v hj) (by simp;omega) (hcs.one (fun S hS=>by obtain⟨u,_,rfl⟩:=List.mem_map.1 hS;exact h1 u))
 rw[←hlen] at hrun
 have hcl:=hcs.len
 simp only[List.length_map] at hcl
 have hr:(execOp a.eval (⟨some d,.call ⟨.builtin .copy,#[x,y],#[T,T2]⟩,ty,pos,after,none⟩:Oper)).run P w=.ok (.value (goInt ys.length)) (w.setRow b (vs.take o++cs++vs.drop (o+ys.length)).toArray):=by
  simp only[execOp,resolve,invoke,builtin,Sem.run_bind]
  simp[e1,e4,Sem.run_bind,hrun]
 rw[hr]
 refine hK _ _ (k _ _ F ?_)
 rw[←hM']
 refine (s.write (w':=w.setRow b (vs.take o++cs++vs.drop (o+ys.length)).toArray) (C':=zC ((xs.take o++ys++xs.drop (o+ys.length)).map f)) hM rfl rfl rfl (jF _ _ _) (fun k hk=>xo _ _ _ _ hk) (setRow_heap _ _ _ _ _ _ hb) ⟨_,T',rfl,?_⟩).put hd' hI
 have hF:∀k,F k→(w.setRow b (vs.take o++cs++vs.drop (o+ys.length)).toArray).heap[k]?=w.heap[k]?:=fun k hk=>xo _ _ _ _ (fun e=>by
  subst e;exact (s.mem.each k _ (List.mem_of_getElem? hM)).2.2.1 hk)
 refine All2.mono hF (fun _ h=>h) _ _ ?_
 rw[List.map_append,List.map_append,List.map_take,List.map_drop]
 exact ((hv.take o).append hcs).append (hv.drop _)
theorem lJ {α β:Type} {f:α→VP} {g:β→VP} {b b':Option Nat} {l l':List α} {k k':List β} {r:Mem} (h:l=l') (h2:k=k'):((b,zC (l.map f))::(b',zC (k.map g))::r:Mem)=(b,zC (l'.map f))::(b',zC (k'.map g))::r:=h▸h2▸rfl
end
end Go.En
namespace Go.En
open Go.RowKit
structure Gr (α:Type) where
 ob:Option Nat
 c:Nat
 sp:List α
def Gr.nil {α:Type}:Gr α:=⟨none,0,[]⟩
def ze {α:Type} (g:Gr α) (n:Nat):VP:=.pure fun v=>(g.ob=none∧n=0∧v=.slice none 0 0)∨(∃b,g.ob=some b∧v=.slice (some ⟨b,0,none⟩) n g.c∧n+g.sp.length=g.c∧g.c≤maxLen)
def grM {α:Type} (f:α→VP) (g:Gr α) (ys:List α):Option Nat×MP:=(g.ob,zC ((ys++g.sp).map f))
instance {α:Type} {g:Gr α} {n:Nat}:IsSl (ze g n) n:=⟨fun w F v h=>by
 rcases h with ⟨_,rfl,rfl⟩|⟨b,_,rfl,h1,h2⟩
 ·exact⟨_,_,rfl,Nat.le_refl _,by rw[qS];omega⟩
 ·exact⟨_,_,rfl,by omega,h2⟩⟩
instance {α:Type} {g:Gr α} {n:Nat}:Shape (ze g n) [ze g n]:=.of_one inferInstance
section
variable {E : Env} {P : Program} {Γ : Ctx} {M : Mem} {ty : TypeId} {pos : String} {after : Array Edge} {gd : Option (Nat × Bool)} {d : Option Tmp}
 {ops : Array Oper} {Q : Exit → Act → World → Prop} {rest : List Oper} {T T' : TypeId} {x y : Operand} {α : Type} {f : α → VP} {fk : α → List VP} {xs : List α}
theorem Cv.grow0 (f:α→VP):Cv E Γ M Γ (grM f Gr.nil []::M):=fun a w F s=>
 ⟨F,{ s with mem:=⟨List.Pairwise.cons (fun x hx=>.inl rfl) s.mem.apart,fun b C hb=>by
  rcases List.mem_cons.1 hb with e|hb
  ·cases e
  ·exact s.mem.each b C hb⟩ }⟩
theorem ba (t:Nat):Nat.beq t t=true:=by simp[Nat.beq_eq]
theorem gr0 {w:World} {F:Blk}:(ze (Gr.nil:Gr α) 0).h w F (.slice none 0 0):=.inl ⟨rfl,rfl,rfl⟩
theorem Has.cGr : Has E Γ M (.const (.slice none 0 0)) (ze (Gr.nil:Gr α) 0):=fun _ _ _ _=>gr0
theorem Sat.swap {a:Act} {w:World} {F:Blk} {n i:Nat} {C:MP} (s:Sat E Γ ((some n,C)::M) a w F):Sat E Γ (M.set i (some n,C)) a w F:=by
 have hp:=List.pairwise_cons.1 s.mem.apart
 refine { s with mem:=⟨?_,fun k D hk=>?_⟩ }
 ·rw[List.pairwise_iff_getElem]
  intro j k hj hk hjk
  have hp2:=List.pairwise_iff_getElem.1 hp.2 j k (by simpa using hj) (by simpa using hk) hjk
  simp only[List.getElem_set]
  by_cases e1:i=j
  ·subst e1
   have:¬i=k:=by omega
   simp only[if_true,this,if_false]
   exact hp.1 _ (List.getElem_mem _)
  ·by_cases e2:i=k
   ·subst e2
    simp only[e1,if_true,if_false]
    right
    rcases hp.1 _ (List.getElem_mem (by simpa using hj:j<M.length)) with h|h
    ·cases h
    ·exact fun e=>h e.symm
   ·simp only[e1,e2,if_false];exact hp2
 ·rcases List.mem_or_eq_of_mem_set hk with h|h
  ·exact s.mem.each k D (by simp[h])
  ·exact s.mem.each k D (by rw[h];exact List.mem_cons_self)
theorem set_self {i:Nat} {a:Option Nat×MP} (h:M[i]?=some a):M.set i a=M:=by
 have hi:i<M.length:=by
  rcases Nat.lt_or_ge i M.length with h2|h2
  ·exact h2
  ·rw[List.getElem?_eq_none h2] at h;cases h
 rw[List.getElem?_eq_getElem hi] at h
 rw[←Option.some.inj h,List.set_getElem_self]
theorem Ops.appendG {d i:Nat} {e:TypeId} {g0:Bool} {z:Value} {u:α} {g:Gr α} {ys zs:List α} (hT:slB P T=some e) (ht:tyB P e=some (0+1,g0)) (hz:qe P e=some z) (hZ:∀w F,All2 [f u] w F z.cells.toList) (h1:∀u,One (f u)) (hby:jQ P e 1024=true)
    (hx:Has E Γ M x (ze g ys.length)) (hM:M[i]?=some (grM f g ys)) (hy:Has E Γ M y (SlM f zs)) (hn':ys.length+zs.length≤4294967296) (h0:0<zs.length) (hd:Nat.blt d E.n=true)
    (k:∀g':Gr α,Ops E P ops Q rest ((d,ze g' (ys.length+zs.length))::Γ) (M.set i (grM f g' (ys++zs)))):
    Ops E P ops Q (⟨some d,.call ⟨.builtin .append,#[x,y],#[T,T]⟩,ty,pos,after,none⟩::rest) Γ M:=by
  intro a w F s
  refine wpList_plain rfl fun K hK=>?_
  have hd':d<E.n:=by simpa [Nat.blt_eq] using hd
  obtain⟨a1,cap,e2,g1,g2,g3,g4⟩:=hy a w F s
  have hu:=qw hT
  obtain⟨inf,hi,hb⟩:∃i,P.info? e=some i∧i.bytes≤1024:=by
    unfold jQ at hby
    cases hi:P.info? e with
    | none=>simp[hi] at hby
    | some i=>rw[hi] at hby;exact⟨i,rfl,Nat.le_of_ble_eq_true hby⟩
  have hsz:inf.size=1:=by
    have:=qV (P:=P) (w:=w) ht
    simp[sizeOf,typeInfo,go_sem,hi] at this;exact this
  have hzz:inf.zero=some z:=by unfold qe at hz;rw[hi] at hz;simpa using hz
  have hone:z.cells.size=1:=by have:=(hZ w F).len;simpa using this.symm
  have hzs:∀k,(Builtin.zeroCells z.cells k).toList=(List.replicate k z.cells.toList).flatten:=fun k=>by
    unfold Builtin.zeroCells
    rw[vv rfl]
  have hall:∀k,All2 ((List.replicate k u).map f) w F ((List.replicate k z.cells.toList).flatten):=by
    intro k
    induction k with
    | zero=>trivial
    | succ k ih=>
      rw[List.replicate_succ,List.replicate_succ,List.flatten_cons,List.map_cons]
      exact All2.append (hZ w F) ih
  rcases g4 with g4|⟨b1,off,rfl,hF,vs,hv,hc⟩
  · omega
  have hlen:=hv.len
  simp only[List.length_map] at hlen
  have hnews:∀j u,vs[j]?=some u→w.cell? ((⟨b1,off,none⟩:Addr).add j)=some u:=fun j u hj=>by rw[xN];exact hc j u hj
  have hnl:vs.length=zs.length*inf.size:=by rw[hsz];omega
  -- a new row
  have hfresh:∀(olds:List Value),All2 (ys.map f) w F olds→∀cp,ys.length+zs.length≤cp→cp≤maxLen→
      K (a.put (some d) (.slice (some ⟨w.heap.size,0,none⟩) (ys.length+zs.length) cp)) { w with heap:=w.heap.push (.cells (olds++vs++(Builtin.zeroCells z.cells (cp-(ys.length+zs.length))).toList).toArray e),drawn:=w.drawn+1 }:=by
    intro olds ho cp h1 h2
    have hcs:All2 ((ys++zs++List.replicate (cp-(ys.length+zs.length)) u).map f) w F (olds++vs++(Builtin.zeroCells z.cells (cp-(ys.length+zs.length))).toList):=by
      rw[List.map_append,List.map_append,hzs];exact All2.append (All2.append ho hv) (hall _)
    have s1:=(s.adv (Adv.drew w F)).alloc (T:=e) (All2.mono (w:=w) (w':={ w with drawn:=w.drawn+1 }) (fun _ _=>rfl) (fun _ h=>h) _ _ hcs)
    refine hK _ _ (k ⟨some w.heap.size,cp,List.replicate (cp-(ys.length+zs.length)) u⟩ _ _ F ((s1.swap (i:=i)).put hd' (.inr ⟨_,rfl,rfl,?_,h2⟩)))
    simp;omega
  unfold Oper.wp
  have hml:ys.length+zs.length≤maxLen:=by rw[qS];omega
  rcases hx a w F s with ⟨hob,hyl,e1⟩|⟨b,hob,e1,hcap,hcm0⟩
  · have hbytes:zs.length*inf.bytes≤281474976710656:=by have:=Nat.mul_le_mul (show zs.length≤4294967296 by omega) hb;omega
    have hy0:ys=[]:=List.eq_nil_of_length_eq_zero hyl
    have hr:=run_append_nil (P:=P) w T ty e inf z hu hi hzz ⟨b1,off,none⟩ zs.length cap vs hnl hnews (by omega) (by omega) hbytes
    have hf:=hfresh [] (by rw[hy0];trivial) (grownCap w zs.length 0 e) (by rw[hyl,Nat.zero_add];exact grownCap_ge _ _ _ _) (grownCap_le_maxLen _ _ _ _ (by omega))
    rw[hyl,Nat.zero_add,List.nil_append] at hf
    have hr2:(execOp a.eval (⟨some d,.call ⟨.builtin .append,#[x,y],#[T,T]⟩,ty,pos,after,none⟩:Oper)).run P w=.ok (.value (.slice (some ⟨w.heap.size,0,none⟩) zs.length (grownCap w zs.length 0 e))) { w with heap:=w.heap.push (.cells (vs++(Builtin.zeroCells z.cells (grownCap w zs.length 0 e-zs.length)).toList).toArray e),drawn:=w.drawn+1 }:=by
      have earr:vs.toArray++Builtin.zeroCells z.cells (grownCap w zs.length 0 e-zs.length)=(vs++(Builtin.zeroCells z.cells (grownCap w zs.length 0 e-zs.length)).toList).toArray:=by apply Array.ext';simp
      simp only[execOp,resolve,invoke,builtin,Sem.run_bind]
      rw[←earr]
      simp[e1,e2,Sem.run_bind,hr]
      first|rfl|exact⟨rfl,rfl⟩|done
    rw[hr2]
    exact hf
  · have hM':M[i]?=some (some b,zC ((ys++g.sp).map f)):=by rw[hM];unfold grM;rw[hob]
    obtain⟨o,ho,us,T',rfl,hus⟩:=wZ s hM'
    have husl:=hus.len
    simp only[List.length_map,List.length_append] at husl
    rcases Nat.lt_or_ge g.c (ys.length+zs.length) with hg|hg
    · have holds:All2 (ys.map f) w F (us.take ys.length):=by
        have:=hus.take ys.length
        rw[List.map_append,List.take_left' (by simp)] at this
        exact this
      have hcell:∀j u,(us.take ys.length)[j]?=some u→w.cell? ((⟨b,0,none⟩:Addr).add j)=some u:=fun j u hj=>by
        have hjl:j<ys.length:=by
          rcases Nat.lt_or_ge j ys.length with h|h
          · exact h
          · rw[List.getElem?_take_eq_none h] at hj;cases hj
        rw[List.getElem?_take_of_lt hjl] at hj
        rw[xN]
        simp only[World.cell?,ho,Nat.zero_add]
        simpa using hj
      have hfit:Builtin.nextslicecap (ys.length+zs.length) g.c*inf.bytes≤281474976710656:=by
        have h1:=nextslicecap_le hg
        have h2:=Nat.mul_le_mul (Nat.le_trans h1 (show 2*(ys.length+zs.length)≤8589934592 by omega)) hb
        omega
      have hr:=run_append_grow (P:=P) w T ty e inf z hu hi hzz ⟨b,0,none⟩ ys.length g.c (us.take ys.length) (by rw[List.length_take,hsz];omega) hcell ⟨b1,off,none⟩ zs.length cap vs hnl hnews hg (by omega) hfit
      have hf:=hfresh _ holds (grownCap w (ys.length+zs.length) g.c e) (grownCap_ge _ _ _ _) (grownCap_le_maxLen _ _ _ _ hml)
      have hr2:(execOp a.eval (⟨some d,.call ⟨.builtin .append,#[x,y],#[T,T]⟩,ty,pos,after,none⟩:Oper)).run P w=.ok (.value (.slice (some ⟨w.heap.size,0,none⟩) (ys.length+zs.length) (grownCap w (ys.length+zs.length) g.c e))) { w with heap:=w.heap.push (.cells (us.take ys.length++vs++(Builtin.zeroCells z.cells (grownCap w (ys.length+zs.length) g.c e-(ys.length+zs.length))).toList).toArray e),drawn:=w.drawn+1 }:=by
        have earr:(us.take ys.length).toArray++vs.toArray++Builtin.zeroCells z.cells (grownCap w (ys.length+zs.length) g.c e-(ys.length+zs.length))=(us.take ys.length++vs++(Builtin.zeroCells z.cells (grownCap w (ys.length+zs.length) g.c e-(ys.length+zs.length))).toList).toArray:=by apply Array.ext';simp
        simp only[execOp,resolve,invoke,builtin,Sem.run_bind]
        rw[←earr]
        simp[e1,e2,Sem.run_bind,hr]
        first|rfl|exact⟨rfl,rfl⟩|done
      rw[hr2]
      exact hf
    · have hvone:∀v∈vs,v.oneCell'=true:=hv.one (fun S hS=>by obtain⟨u,_,rfl⟩:=List.mem_map.1 hS;exact h1 u)
      have hst:=run_storeCells_at P b ys.length T' vs 0 us.toArray w ho (by simp;omega) hvone
      simp only[Nat.add_zero] at hst
      have hfc:=run_firstCells_some (P:=P) w 1 zs.length ⟨b1,off,none⟩ zs.length cap vs (by omega) hnews
      have hr:(Builtin.append_ #[T,T] ty #[.slice (some ⟨b,0,none⟩) ys.length g.c,.slice (some ⟨b1,off,none⟩) zs.length cap]).run P w=.ok (.slice (some ⟨b,0,none⟩) (ys.length+zs.length) g.c) (w.setRow b (us.take ys.length++vs++us.drop (ys.length+vs.length)).toArray):=by
        have hst':(storeCells ⟨b,ys.length,none⟩ vs).run P w=.ok () (w.setRow b (us.take ys.length++vs++us.drop (ys.length+vs.length)).toArray):=by simpa using hst
        simp[Builtin.append_,run_underlying hu,sizeOf,typeInfo,hi,hsz,Builtin.lenOf,hg,hfc,Addr.add_lit,hst']
      have hr2:(execOp a.eval (⟨some d,.call ⟨.builtin .append,#[x,y],#[T,T]⟩,ty,pos,after,none⟩:Oper)).run P w=.ok (.value (.slice (some ⟨b,0,none⟩) (ys.length+zs.length) g.c)) (w.setRow b (us.take ys.length++vs++us.drop (ys.length+vs.length)).toArray):=by
        simp only[execOp,resolve,invoke,builtin,Sem.run_bind]
        simp[e1,e2,Sem.run_bind,hr]
      rw[hr2]
      have hF:∀k,F k→(w.setRow b (us.take ys.length++vs++us.drop (ys.length+vs.length)).toArray).heap[k]?=w.heap[k]?:=fun k hk=>xo _ _ _ _ (fun e=>by
        subst e;exact (s.mem.each k _ (List.mem_of_getElem? hM')).2.2.1 hk)
      have hnew:All2 ((ys++zs++g.sp.drop zs.length).map f) w F (us.take ys.length++vs++us.drop (ys.length+vs.length)):=by
        have e1:=hus.take ys.length
        rw[List.map_append,List.take_left' (by simp)] at e1
        have e2:=hus.drop (ys.length+vs.length)
        rw[List.map_append,List.drop_append,List.drop_of_length_le (by simp),List.nil_append,List.length_map,←hlen,Nat.add_sub_cancel_left,←List.map_drop] at e2
        rw[List.map_append,List.map_append]
        rw[←hlen]
        exact (e1.append hv).append e2
      refine hK _ _ (k ⟨some b,g.c,g.sp.drop zs.length⟩ _ _ F ?_)
      exact (s.write (w':=w.setRow b (us.take ys.length++vs++us.drop (ys.length+vs.length)).toArray) (C':=zC ((ys++zs++g.sp.drop zs.length).map f)) hM' rfl rfl rfl (jF _ _ _) (fun k hk=>xo _ _ _ _ hk) (setRow_heap _ _ _ _ _ _ ho) ⟨_,T',rfl,All2.mono hF (fun _ h=>h) _ _ hnew⟩).put hd' (.inr ⟨b,rfl,rfl,by simp;omega,hcm0⟩)
theorem Cv.freezeG {t i:Nat} {g:Gr α} {ys:List α} (hW:E.W=[]) (ht:zR Γ t=some (ze g ys.length)) (hM:M[i]?=some (grM f g ys)):Cv E Γ M ((t,SlM f ys)::Γ) (M.eraseIdx i):=by
  intro a w F s
  rcases id (s.slots t _ ht) with ⟨hob,hyl,e1⟩|⟨b,hob,e1,hcap,hcm0⟩
  · refine⟨F,{ s with slots:=?_,mem:=⟨s.mem.apart.sublist (List.eraseIdx_sublist _ _),fun k C hk=>s.mem.each k C ((List.eraseIdx_sublist _ _).subset hk)⟩ }⟩
    intro t' S' ht'
    simp only[zR] at ht'
    cases hb:Nat.beq t t' with
    | false=>rw[hb] at ht';exact s.slots t' S' ht'
    | true=>
      rw[hb] at ht'
      obtain rfl:SlM f ys=S':=by simpa using ht'
      obtain rfl:=Nat.eq_of_beq_eq_true hb
      rw[e1,List.eq_nil_of_length_eq_zero hyl]
      exact nilM _ _
  · have hM':M[i]?=some (some b,zC ((ys++g.sp).map f)):=by rw[hM];unfold grM;rw[hob]
    have s2:Sat E ((t,qW b 0 ys.length g.c)::Γ) M a w F:=s.wider (fun t' S' ht'=>by
      simp only[zR] at ht'
      cases hb:Nat.beq t t' with
      | false=>rw[hb] at ht';exact s.slots t' S' ht'
      | true=>
        rw[hb] at ht'
        obtain rfl:qW b 0 ys.length g.c=S':=by simpa using ht'
        obtain rfl:=Nat.eq_of_beq_eq_true hb
        exact⟨e1,by omega,hcm0⟩)
    have he:((ys++g.sp).drop 0).take ys.length=ys:=by rw[List.drop_zero,List.take_left' rfl]
    obtain⟨F',s3⟩:=Cv.freeze' (Γ:=(t,qW b 0 ys.length g.c)::Γ) (t:=t) (b:=b) (n:=ys.length) (c:=g.c) (o:=0) hW (by simp[zR,ba]) hM' (by simp) he a w F s2
    refine⟨F',s3.wider fun t' S' ht'=>?_⟩
    simp only[zR] at ht'
    refine s3.slots t' S' ?_
    simp only[zR]
    cases hb:Nat.beq t t' with
    | false=>rw[hb] at ht';simpa using ht'
    | true=>rw[hb] at ht';simpa using ht'
theorem jY {g:Gr α} {n n':Nat} (h:n=n'):ze g n=ze g n':=h▸rfl
theorem gY {g:Gr α} {ys ys':List α} {r:Mem} (h:ys=ys'):(grM f g ys::r:Mem)=grM f g ys'::r:=h▸rfl
end
end Go.En
namespace Go.En
open Go.RowKit
section
variable {E : Env} {P : Program} {Γ : Ctx} {M : Mem} {ty : TypeId} {pos : String} {after : Array Edge} {gd : Option (Nat × Bool)} {d : Option Tmp} {x y : Operand} {ts : Array TypeId} {m n : Int}
theorem OK1.minI (hx:Has E Γ M x (isI m)) (hy:Has E Γ M y (isI n)):OK1 E P Γ M ⟨d,.call ⟨.builtin .min,#[x,y],ts⟩,ty,pos,after,gd⟩ (isI (if n<m then n else m)):=
 .run fun a w F s=>by
  have e1:=evI hx a w F s
  have e2:=evI hy a w F s
  refine⟨_,by simp only[execOp,resolve,invoke,builtin,Sem.run_bind];simp[e1,e2,Sem.run_bind,run_min_int2];rfl,?_⟩
  have h1:=(hx a w F s).2
  have h2:=(hy a w F s).2
  split
  ·exact⟨rfl,h2⟩
  ·exact⟨rfl,h1⟩
theorem OK1.maxI (hx:Has E Γ M x (isI m)) (hy:Has E Γ M y (isI n)):OK1 E P Γ M ⟨d,.call ⟨.builtin .max,#[x,y],ts⟩,ty,pos,after,gd⟩ (isI (if m<n then n else m)):=
 .run fun a w F s=>by
  have e1:=evI hx a w F s
  have e2:=evI hy a w F s
  refine⟨_,by simp only[execOp,resolve,invoke,builtin,Sem.run_bind];simp[e1,e2,Sem.run_bind,run_max_int2];rfl,?_⟩
  have h1:=(hx a w F s).2
  have h2:=(hy a w F s).2
  split
  ·exact⟨rfl,h2⟩
  ·exact⟨rfl,h1⟩
end
end Go.En
namespace Go.En
open Go.RowKit
section
variable {E : Env} {P : Program} {Γ : Ctx} {M : Mem} {ty : TypeId} {pos : String} {after : Array Edge} {gd : Option (Nat × Bool)} {d : Option Tmp}
 {ops : Array Oper} {Q : Exit → Act → World → Prop} {rest : List Oper}
theorem Sat.sub {M':Mem} {a:Act} {w:World} {F:Blk} (s:Sat E Γ M a w F) (h:M'.Sublist M):Sat E Γ M' a w F:=
 {s with mem:=⟨s.mem.apart.sublist h,fun b C hb=>s.mem.each b C (h.subset hb)⟩ }
def StS (E:Env) (P:Program) (Δ:Ctx) (M:Mem) (o:Oper) (M':Mem):Prop:=o.guard=none∧∀a w F,Sat E Δ M a w F→∀(K:Act→World→Prop) (Q:Exit→Act→World→Prop),
 (∀w',(∀b,F b→w'.heap[b]?=w.heap[b]?)→(∀Γ'',Sat E Γ'' M a w F→Sat E Γ'' M' a w' F)→K a w')→o.wp P a w K Q
theorem StS.store {x y:Operand} {b off i n:Nat} {g:Bool} {T:TypeId} {Ss Ss1:List VP} {S:VP} [sh:Shape S Ss1] [o1:Ones Ss1] (hx:Has E Γ M x (qX b off)) (hy:Has E Γ M y S)
  (hM:M[i]?=some (some b,zC Ss)) (hT:tyB P T=some (n,g)) (hn:Nat.beq Ss1.length n=true) (hl:Nat.ble (off+n) Ss.length=true) {Ss':List VP} {M':Mem} (hS:Ss.take off++Ss1++Ss.drop (off+n)=Ss')
  (hM':M.set i (some b,zC Ss')=M'):StS E P Γ M ⟨none,.store T x y,ty,pos,after,none⟩ M':=by
 refine⟨rfl,fun a w F s K Q hK=>?_⟩
 obtain⟨o,hb,vs,T',rfl,hv⟩:=wZ s hM
 have h1:a.eval x=.pointer (some ⟨b,off,none⟩):=hx a w F s
 have hy':=sh.cells _ _ _ (hy a w F s)
 have hn':Ss1.length=n:=Nat.eq_of_beq_eq_true hn
 have hl':=Nat.le_of_ble_eq_true hl
 have e1:=hv.len
 have e2:=hy'.len
 have hcs:(a.eval y).cells.size=n:=by rw[←Array.length_toList,←e2,hn']
 unfold Oper.wp
 have hr:(execOp a.eval (⟨none,.store T x y,ty,pos,after,none⟩:Oper)).run P w=.ok .skip (w.setRow b (vs.take off++(a.eval y).cells.toList++vs.drop (off+n)).toArray):=by
  have h2:=run_storeCells_at P b off T' (a.eval y).cells.toList 0 vs.toArray w hb (by simp;omega) (hy'.one o1.ones)
  simp only[Nat.add_zero,Array.length_toList,hcs] at h2
  simp only[execOp,h1,Instr.storeAt,Instr.sureAddr,storeVar,Sem.run_bind,Sem.run_pure,Result.andThen_ok,qV hT,hcs]
  simp only[ne_eq,not_true_eq_false,if_false,h2,Result.andThen_ok]
 rw[hr]
 have hF:∀k,F k→(w.setRow b (vs.take off++(a.eval y).cells.toList++vs.drop (off+n)).toArray).heap[k]?=w.heap[k]?:=fun k hk=>xo _ _ _ _ (fun e=>by
  subst e;exact (s.mem.each k _ (List.mem_of_getElem? hM)).2.2.1 hk)
 refine hK _ hF fun Γ'' s''=>?_
 rw[←hM']
 refine s''.write hM rfl rfl rfl (jF _ _ _) (fun k hk=>xo _ _ _ _ hk) (setRow_heap _ _ _ _ _ _ hb) ⟨_,T',rfl,?_⟩
 refine All2.mono hF (fun _ h=>h) _ _ ?_
 rw[←hS]
 exact ((hv.take off).append hy').append (hv.drop _)
def DrH (E:Env) (P:Program) (id:Nat) (l:List Oper) (Γ:Ctx) (M Ms:Mem) (Q:Exit→Act→World→Prop) (i:Nat) (Θ:Ctx):Prop:=
 ∀Ss,DrW E P l Γ Ms i Ss→(∀t S,zR Θ t=some S→∃(j:Nat) (o:Oper),j<i∧l[j]?=some o∧o.dst=some t∧Ss[j]?=some S)→Tri E P (.region id l.toArray true) Γ M Q
def yu : List Bool→Mem→Mem
 | true::bs,m::M=>m::yu bs M
 | false::bs,_::M=>yu bs M
 | _,_=>[]
theorem Tri.drh {id:Nat} {l:List Oper} {Ms:Mem} (bs:List Bool) (e:yu bs M=Ms) (h:DrH E P id l Γ M Ms Q 0 []):Tri E P (.region id l.toArray true) Γ M Q:=h [] .nil (fun t S ht=>by simp[zR] at ht)
theorem DrH.sx {id i d:Nat} {l:List Oper} {Θ:Ctx} {S:VP} {o:Oper} {Ms:Mem} (ts:List Nat) (h1:l[i]?=some o) (h2:o.dst=some d) (h3:Nat.blt d E.n=true)
    (h4:vL l i ts=true) (h5:OKX E P l.toArray (qh ts Θ++Γ) Ms o S) (k:DrH E P id l Γ M Ms Q (i+1) ((d,S)::Θ)):DrH E P id l Γ M Ms Q i Θ:=by
  intro Ss hD hΘ
  obtain⟨hlen,_⟩:=hD.at
  refine k (Ss++[S]) (.snoc _ hD h1 h2 h3 (fun t S' ht=>?_) h5) (fun t S' ht=>?_)
  · rw[zg] at ht
    cases hl:zR (qh ts Θ) t with
    | none=>rw[hl] at ht;exact .inr (by simpa using ht)
    | some S''=>
      rw[hl] at ht
      obtain rfl:S''=S':=by simpa using ht
      obtain⟨hm,hl2⟩:=vD _ _ _ hl
      obtain⟨j,oj,b0,b1,b2,b3⟩:=hΘ t S'' hl2
      refine .inl ⟨j,oj,?_,b1,b2,b3⟩
      have:=List.all_eq_true.1 h4 j (by simpa using b0)
      rw[b1] at this
      simp only[Option.bind_some,b2,Bool.or_eq_true] at this
      rcases this with h|h
      · exact h
      · have:=List.all_eq_true.1 h t hm
        simp[Nat.beq_refl] at this
  · simp only[zR] at ht
    cases hb:Nat.beq d t with
    | true=>
      rw[hb] at ht;simp at ht;subst ht
      obtain rfl:=Nat.eq_of_beq_eq_true hb
      exact⟨i,o,by omega,h1,h2,by rw[List.getElem?_append_right (by omega)];simp[hlen]⟩
    | false=>
      rw[hb] at ht
      obtain⟨j,oj,b0,b1,b2,b3⟩:=hΘ t S' ht
      exact⟨j,oj,by omega,b1,b2,by rw[List.getElem?_append_left (by omega)];exact b3⟩
theorem DrH.st {id i d:Nat} {l:List Oper} {Θ:Ctx} {S:VP} {o:Oper} {Ms:Mem} (ts:List Nat) (h1:l[i]?=some o) (h2:o.dst=some d) (h3:Nat.blt d E.n=true)
  (h4:vL l i ts=true) (h5:OKG E P l.toArray (qh ts Θ++Γ) Ms o S) (k:DrH E P id l Γ M Ms Q (i+1) ((d,S)::Θ)):DrH E P id l Γ M Ms Q i Θ:=DrH.sx ts h1 h2 h3 h4 h5.x k
theorem DrH.so {id i d:Nat} {l:List Oper} {Θ:Ctx} {S:VP} {o:Oper} {Ms:Mem} (ts:List Nat) (h:obO E.n l i=some (o,d)) (h5:OK1 E P (qh ts Θ++Γ) Ms o S) (k:DrH E P id l Γ M Ms Q (i+1) ((d,S)::Θ)) (h4:vL l i ts=true:=by kernel_rfl):DrH E P id l Γ M Ms Q i Θ:=
  let ⟨h1,h2,h3,h0⟩:=dC h
  DrH.st ts h1 h2 h3 h4 (.o h0 h5) k
theorem DrH.m {id i d:Nat} {l:List Oper} {Θ:Ctx} {S:VP} {o:Oper} {Ms:Mem} (ts:List Nat) (h:omO E.n (qh ts Θ++Γ) l i=some (o,d,S)) (k:DrH E P id l Γ M Ms Q (i+1) ((d,S)::Θ)) (h4:vL l i ts=true:=by kernel_rfl):DrH E P id l Γ M Ms Q i Θ:=
  let ⟨h1,h2⟩:=gC h
  let ⟨g1,g2,g3,_⟩:=bA h2
  DrH.st ts h1 g1 g3 h4 (.o g2 (.mvo h2)) k
theorem DrH.s {id i d:Nat} {l:List Oper} {Θ:Ctx} {S:VP} {o:Oper} {Ms:Mem} (ts:List Nat) (h1:l[i]?=some o) (h2:o.dst=some d) (h3:Nat.blt d E.n=true) (h5:OKG E P l.toArray (qh ts Θ++Γ) Ms o S) (k:DrH E P id l Γ M Ms Q (i+1) ((d,S)::Θ)) (h4:vL l i ts=true:=by kernel_rfl):DrH E P id l Γ M Ms Q i Θ:=
 DrH.st ts h1 h2 h3 h4 h5 k
def pQ (l:List Oper) (n1 m:Nat):Bool:=(List.range m).all fun j=>(((qZ l [])[n1+m]?).getD 0).testBit (n1+j)
end
end Go.En
namespace Go.En
open Go.RowKit
section
variable {E : Env} {P : Program} {Γ : Ctx} {M : Mem} {ty : TypeId} {pos : String} {after : Array Edge} {gd : Option (Nat × Bool)} {d : Option Tmp}
 {ops : Array Oper} {Q : Exit → Act → World → Prop} {rest : List Oper}
def oz (o:Option Nat):VP:=.pure fun v=>∀b,o=some b→v=.pointer (some ⟨b,0,none⟩)
def xx : List Nat→List (Option Nat)→Ctx
 | d::ds,o::B=>(d,oz o)::xx ds B
 | _,_=>[]
def jH : List MP→List (Option Nat)→Mem
 | C::Cs,o::B=>(o,C)::jH Cs B
 | _,_=>[]
theorem Has.op {t b:Nat} (h:zR Γ t=some (oz (some b))):Has E Γ M (.tmp t) (qX b 0):=fun a w F s=>s.slots t _ h b rfl
theorem jX : ∀(ds:List Nat) (B:List (Option Nat)) (t:Nat) (S:VP),zR (xx ds B) t=some S→∃(j:Nat) (o:Option Nat),ds[j]?=some t∧B[j]?=some o∧S=oz o
  | [],B,t,S,h=>by simp[xx,zR] at h
  | d::ds,[],t,S,h=>by simp[xx,zR] at h
  | d::ds,o::B,t,S,h=>by
    simp only[xx,zR] at h
    cases hb:Nat.beq d t with
    | true=>rw[hb] at h;simp at h;exact⟨0,o,by simp[Nat.eq_of_beq_eq_true hb],rfl,h.symm⟩
    | false=>rw[hb] at h;obtain⟨j,o',h1,h2,h3⟩:=jX ds B t S h;exact⟨j+1,o',by simpa using h1,by simpa using h2,h3⟩
theorem bf (ds:List Nat) (B:List (Option Nat)) (t:Nat) (S:VP) (h:zR (xx ds B) t=some S):∃j:Nat,ds[j]?=some t:=by
 obtain⟨j,o,h1,_⟩:=jX ds B t S h;exact⟨j,h1⟩
theorem cG : ∀(ds:List Nat) (B:List (Option Nat)) (j b:Nat) (t:Nat) (S:VP),zR (xx ds (B.set j (some b))) t=some S→(ds[j]?=some t∧S=oz (some b))∨zR (xx ds B) t=some S
  | [],B,j,b,t,S,h=>by simp[xx,zR] at h
  | d::ds,[],j,b,t,S,h=>by simp[xx,zR] at h
  | d::ds,o::B,0,b,t,S,h=>by
    simp only[List.set_cons_zero,xx,zR] at h⊢
    cases hb:Nat.beq d t with
    | true=>rw[hb] at h;simp at h;exact .inl ⟨by simp[Nat.eq_of_beq_eq_true hb],h.symm⟩
    | false=>rw[hb] at h;exact .inr h
  | d::ds,o::B,j+1,b,t,S,h=>by
    simp only[List.set_cons_succ,xx,zR] at h⊢
    cases hb:Nat.beq d t with
    | true=>rw[hb] at h;exact .inr h
    | false=>
      rw[hb] at h
      rcases cG ds B j b t S h with h1|h1
      · exact .inl ⟨by simpa using h1.1,h1.2⟩
      · exact .inr h1
theorem nN : ∀(Cs:List MP) (B:List (Option Nat)) (q b:Nat) {n:Nat} {M:Mem} {C:MP},B.length=n→Cs.length=n→Cs[q]?=some C→q<n→(jH Cs B++M).set q (some b,C)=jH Cs (B.set q (some b))++M
  | [],B,q,b,n,M,C,h1,h2,h3,h4=>by simp at h3
  | C0::Cs,[],q,b,n,M,C,h1,h2,h3,h4=>by simp at h1;omega
  | C0::Cs,o::B,0,b,n,M,C,h1,h2,h3,h4=>by simp at h3;subst h3;rfl
  | C0::Cs,o::B,q+1,b,n,M,C,h1,h2,h3,h4=>by
    obtain⟨n,rfl⟩:∃k,n=k+1:=⟨n-1,by omega⟩
    have:=nN Cs B q b (n:=n) (M:=M) (C:=C) (by simpa using h1) (by simpa using h2) (by simpa using h3) (by omega)
    simp only[jH,List.cons_append,List.set_cons_succ,this]
theorem nr : ∀{B:List (Option Nat)},(∀(j:Nat) (o:Option Nat),B[j]?=some o→o≠none)→∃bs:List Nat,bs.length=B.length∧B=bs.map some
  | [],_=>⟨[],rfl,rfl⟩
  | none::B,h=>absurd rfl (h 0 none rfl)
  | some b::B,h=>by
    obtain⟨bs,h1,h2⟩:=nr (B:=B) fun j o hj=>h (j+1) o (by simpa using hj)
    exact⟨b::bs,by simp[h1],by rw[h2];rfl⟩
structure AlAt (E:Env) (P:Program) (l:List Oper) (n0 n1 k:Nat) (ds:List Nat) (Cs:Nat→List MP) (j:Nat):Prop where
 full:∃(d:Nat) (T:TypeId) (z:Value) (Zs:List VP) (ty:TypeId) (pos:String) (after:Array Edge),ds[j]?=some d∧l[n0+j]?=some ⟨some d,.alloc T,ty,pos,after,none⟩∧d<E.n∧qe P T=some z∧(∀w F,All2 Zs w F z.cells.toList)∧
  ∀m,m≤k→(Cs m)[j]?=some (zC Zs)∨∃m',m'<m∧(((qZ l [])[n1+m']?).getD 0).testBit (n0+j)=true
theorem AlAt.ex {l:List Oper} {n0 n1 k:Nat} {ds:List Nat} {Cs:Nat→List MP} {j:Nat} (h:AlAt E P l n0 n1 k ds Cs j):∃(d:Nat) (T:TypeId) (z:Value) (ty:TypeId) (pos:String) (after:Array Edge),ds[j]?=some d∧l[n0+j]?=some ⟨some d,.alloc T,ty,pos,after,none⟩∧True:=by
 obtain⟨d,T,z,Zs,ty,pos,after,q1,q2,_⟩:=h.full;exact⟨d,T,z,ty,pos,after,q1,q2,trivial⟩
inductive Als (E:Env) (P:Program) (l:List Oper):Nat→List Nat→List (List VP)→Prop
 | nil {i:Nat}:Als E P l i [] []
 | cons {i d : Nat} {T : TypeId} {z : Value} {Zs : List VP} {ds : List Nat} {zs : List (List VP)} {ty : TypeId} {pos : String} {after : Array Edge} (h1 : l[i]? = some ⟨some d, .alloc T, ty, pos, after, none⟩) (h2 : Nat.blt d E.n = true)
   (h3:qe P T=some z) (h4:∀w F,All2 Zs w F z.cells.toList) (r:Als E P l (i+1) ds zs):Als E P l i (d::ds) (Zs::zs)
theorem Als.len {l:List Oper}:∀{i:Nat} {ds:List Nat} {zs:List (List VP)},Als E P l i ds zs→zs.length=ds.length
 | _,_,_,.nil=>rfl
 | _,_,_,.cons _ _ _ _ r=>congrArg (·+1) r.len
theorem Als.at {l:List Oper}:∀{i:Nat} {ds:List Nat} {zs:List (List VP)},Als E P l i ds zs→∀q,q<ds.length→∃(d:Nat) (T:TypeId) (z:Value) (Zs:List VP) (ty:TypeId) (pos:String) (after:Array Edge),ds[q]?=some d∧l[i+q]?=some ⟨some d,.alloc T,ty,pos,after,none⟩∧d<E.n∧qe P T=some z∧(∀w F,All2 Zs w F z.cells.toList)∧zs[q]?=some Zs
  | _,_,_,.nil,q,h=>by simp at h
  | i,_,_,.cons h1 h2 h3 h4 r,0,_=>⟨_,_,_,_,_,_,_,rfl,h1,by simpa [Nat.blt_eq] using h2,h3,h4,rfl⟩
  | i,_,_,.cons h1 h2 h3 h4 r,q+1,h=>by
    obtain⟨d,T,z,Zs,ty,pos,after,a1,a2,a3,a4,a5,a6⟩:=r.at q (by simpa using h)
    exact⟨d,T,z,Zs,ty,pos,after,by simpa using a1,by rw[show i+(q+1)=i+1+q by omega];exact a2,a3,a4,a5,by simpa using a6⟩
theorem tP {A B:Ctx} {t:Nat} {S:VP} (h:zR A t=some S):zR (A++B) t=some S:=by rw[zg,h];rfl
theorem Has.up {Δ X:Ctx} {M':Mem} {y:Operand} {S:VP} (h:Has E Δ [] y S):Has E (Δ++X) M' y S:=fun a w F s=>h a w F ((s.wider fun t S ht=>s.slots t S (tP ht)).sub (List.nil_sublist _))
theorem ru : ∀(Cs:List MP) (B:List (Option Nat)) (q:Nat) {o:Option Nat} {C:MP} {M:Mem},B[q]?=some o→Cs[q]?=some C→(jH Cs B++M)[q]?=some (o,C)
  | [],B,q,o,C,M,h1,h2=>by simp at h2
  | C0::Cs,[],q,o,C,M,h1,h2=>by simp at h1
  | C0::Cs,o0::B,0,o,C,M,h1,h2=>by simp at h1 h2;subst h1;subst h2;rfl
  | C0::Cs,o0::B,q+1,o,C,M,h1,h2=>by
    have:=ru Cs B q (M:=M) (by simpa using h1) (by simpa using h2)
    simpa [jH] using this
theorem kJ : ∀(Cs:List MP) (B:List (Option Nat)) (q:Nat) {o:Option Nat} {C:MP} {M:Mem},B[q]?=some o→(jH Cs B++M).set q (o,C)=jH (Cs.set q C) B++M∨Cs.length≤q
  | [],B,q,o,C,M,h1=>.inr (by simp)
  | C0::Cs,[],q,o,C,M,h1=>by simp at h1
  | C0::Cs,o0::B,0,o,C,M,h1=>by simp at h1;subst h1;exact .inl rfl
  | C0::Cs,o0::B,q+1,o,C,M,h1=>by
    rcases kJ Cs B q (C:=C) (M:=M) (by simpa using h1) with h|h
    · exact .inl (by simp only[jH,List.cons_append,List.set_cons_succ,h])
    · exact .inr (by simpa using h)
theorem dG : ∀(ds:List Nat) (B:List (Option Nat)) (q d:Nat) (o:Option Nat),(∀i,i<q→ds[i]?≠some d)→ds[q]?=some d→B[q]?=some o→zR (xx ds B) d=some (oz o)
  | [],B,q,d,o,h0,h1,h2=>by simp at h1
  | e::ds,[],q,d,o,h0,h1,h2=>by simp at h2
  | e::ds,o'::B,0,d,o,h0,h1,h2=>by simp at h1 h2;subst h1;subst h2;simp[xx,zR,ba]
  | e::ds,o'::B,q+1,d,o,h0,h1,h2=>by
    have hne:Nat.beq e d=false:=by
      cases hb:Nat.beq e d with
      | false=>rfl
      | true=>exact absurd (by simp[Nat.eq_of_beq_eq_true hb]) (h0 0 (by omega))
    simp only[xx,zR,hne]
    exact dG ds B q d o (fun i hi=>by simpa using h0 (i+1) (by omega)) (by simpa using h1) (by simpa using h2)
theorem dw {bs:List Nat} (h:bs.length=1):∃a,bs=[a]:=by match bs,h with|[a],_=>exact⟨a,rfl⟩
theorem len2 {bs:List Nat} (h:bs.length=2):∃a b,bs=[a,b]:=by match bs,h with|[a,b],_=>exact⟨a,b,rfl⟩
theorem len3 {bs:List Nat} (h:bs.length=3):∃a b c,bs=[a,b,c]:=by match bs,h with|[a,b,c],_=>exact⟨a,b,c,rfl⟩
end
end Go.En
namespace Go.En
open Go.RowKit
section
variable {E : Env} {P : Program} {Γ : Ctx} {M : Mem} {ty : TypeId} {pos : String} {after : Array Edge} {gd : Option (Nat × Bool)} {d : Option Tmp}
 {ops : Array Oper} {Q : Exit → Act → World → Prop} {rest : List Oper}
structure MidD2 (E:Env) (P:Program) (l:List Oper) (Γ:Ctx) (Ss:List VP) (n1:Nat) (ds:List Nat) (m:Nat) (Cs:List MP) (M:Mem) (Cs':List MP) (M':Mem):Prop where
 ex:∃(o:Oper) (Δ:Ctx) (req:List Nat),l[n1+m]?=some o∧
  (∀t S,zR Δ t=some S→(∃(j:Nat) (oj:Oper),(((qZ l [])[n1+m]?).getD 0).testBit j=true∧l[j]?=some oj∧oj.dst=some t∧Ss[j]?=some S)∨zR Γ t=some S)∧
  (∀j,j<m→(((qZ l [])[n1+m]?).getD 0).testBit (n1+j)=true)∧(∀j∈req,j<ds.length∧(((qZ l [])[n1+m]?).getD 0).testBit (n1-ds.length+j)=true)∧
  ((o.dst=none∧∀B:List (Option Nat),B.length=ds.length→(∀j∈req,∃b,B[j]?=some (some b))→StS E P (Δ++xx ds B) (jH Cs B++M) o (jH Cs' B++M'))∨∃d S,o.dst=some d∧d<E.n∧Cs'=Cs∧M'=M∧OKG E P l.toArray Δ [] o S)
theorem zDM {l:List Oper} {n0 n1 k:Nat} {Ss:List VP} {Ms:Mem} {ds:List Nat} {Cs:Nat→List MP} {f:Nat→Mem} (hn1:n1=n0+ds.length) (hD:DrW E P l Γ Ms n0 Ss) (hsub:∀m,m≤k→Ms.Sublist (f m)) (hmid:∀m,m<k→MidD2 E P l Γ Ss n1 ds m (Cs m) (f m) (Cs (m+1)) (f (m+1)))
    (hCl:∀m,m≤k→(Cs m).length=ds.length) (hal:∀j,j<ds.length→AlAt E P l n0 n1 k ds Cs j)
    (hap:we l (n1+k) Γ=true) (htl:am l (n1+k)=true) (hnl:n1+k≤l.length) (kk:∀bs:List Nat,bs.length=ds.length→Ops E P l.toArray Q (l.drop (n1+k)) (wC (l.take n0) Ss++(xx ds (bs.map some)++Γ)) (jH (Cs k) (bs.map some)++f k)):
    ∀(fuel:Nat) (listed:Array Bool) (a:Act) (w:World) (F:Blk) (m:Nat) (B:List (Option Nat)),m≤k→B.length=ds.length→(∀j o,B[j]?=some o→(o=none↔listed.getD (n0+j) false=false))→listed.toList.countP (·==false)≤fuel→listed.size=l.length→
    (∀j,n1+m≤j→j<l.length→listed.getD j true=false)→(∀j,n1≤j→j<n1+m→listed.getD j true=true)→wI l (fun j=>listed.getD j false=true)→Sat E (xx ds B++Γ) (jH (Cs m) B++f m) a w F→Done l Ss (fun j=>listed.getD j false=true) a w F→
    wpAny P .any l.toArray Q fuel listed a w:=by
  obtain⟨hlen,hat⟩:=hD.at
  have hsp:=cK htl
  have gd:∀(listed:Array Bool) j,j<listed.size→listed.getD j true=listed.getD j false:=fun listed j hj=>by simp[hj]
  have hapart:∀i d,i<n1+k→(l[i]?).bind (·.dst)=some d→(∀t S,zR Γ t=some S→t≠d)∧∀j e,j<n1+k→j≠i→(l[j]?).bind (·.dst)=some e→e≠d:=by
    intro i d hi hd
    unfold we at hap
    rw[List.all_eq_true] at hap
    have h1:=hap i (by simpa using hi)
    rw[hd] at h1
    simp only[Bool.and_eq_true] at h1
    refine⟨jk h1.1,fun j e hj hne he=>?_⟩
    have h2:=List.all_eq_true.1 h1.2 j (by simpa using hj)
    rw[he] at h2
    simp only[Bool.or_eq_true,Bool.not_eq_true'] at h2
    rcases h2 with h2|h2
    · exact absurd (Nat.eq_of_beq_eq_true h2).symm hne
    · exact fun e'=>Nat.ne_of_beq_eq_false h2 e'.symm
  have hend:∀(fuel:Nat) (listed:Array Bool) (a:Act) (w:World) (F:Blk) (m:Nat) (B:List (Option Nat)),m≤k→B.length=ds.length→(∀j o,B[j]?=some o→(o=none↔listed.getD (n0+j) false=false))→listed.toList.countP (·==false)≤fuel→listed.size=l.length→
      (∀j,n1+m≤j→j<l.length→listed.getD j true=false)→wI l (fun j=>listed.getD j false=true)→Sat E (xx ds B++Γ) (jH (Cs m) B++f m) a w F→Done l Ss (fun j=>listed.getD j false=true) a w F→
      (∀j,j<n1+k→j<l.length→listed.getD j true=true)→wpAny P .any l.toArray Q fuel listed a w:=by
    intro fuel listed a w F m B hm hBl hB hcnt hsz htail hc s hdone hall
    obtain rfl:m=k:=by
      rcases Nat.lt_or_ge m k with h|h
      · have h1:=htail (n1+m) (Nat.le_refl _) (by omega)
        have h2:=hall (n1+m) (by omega) (by omega)
        rw[h1] at h2;cases h2
      · omega
    have hge:=gv hsz htail
    obtain⟨bs,hbl,hbe⟩:=nr (B:=B) (fun j o hj=>by
      intro e
      have hjl:j<ds.length:=by
        rcases Nat.lt_or_ge j B.length with h|h
        · omega
        · rw[List.getElem?_eq_none h] at hj;cases hj
      have h1:=(hB j o hj).1 e
      have h2:=hall (n0+j) (by omega) (by omega)
      rw[gd listed (n0+j) (by omega),h1] at h2;cases h2)
    subst hbe
    refine oe htl fuel (n1+m) listed a w (Nat.le_refl _) (by omega) hsz hall htail hc (kk bs (by simpa using hBl) a w F (s.wider ?_))
    intro t S ht
    rw[zg] at ht
    cases hl:zR (wC (l.take n0) Ss) t with
    | none=>rw[hl] at ht;exact s.slots t S (by simpa using ht)
    | some S'=>
      rw[hl] at ht
      obtain rfl:S'=S:=by simpa using ht
      obtain⟨j,o,h1,h2,h3⟩:=vx _ _ _ _ hl
      have hj:j<n0:=by
        rcases Nat.lt_or_ge j n0 with h'|h'
        · exact h'
        · rw[List.getElem?_eq_none (by omega)] at h3;cases h3
      rw[List.getElem?_take_of_lt hj] at h1
      exact hdone j o t S' (by have h4:=hall j (by omega) (by omega);rw[gd listed j (by omega)] at h4;exact h4) h1 h2 h3
  intro fuel
  induction fuel with
  | zero=>
    intro listed a w F m B hm hBl hB hcnt hsz htail hmids hc s hdone
    refine hend 0 listed a w F m B hm hBl hB hcnt hsz htail hc s hdone fun j hj hjl=>?_
    have hlt:j<listed.size:=by omega
    have h0:listed.toList.countP (·==false)=0:=by omega
    rw[List.countP_eq_zero] at h0
    have:=h0 listed[j] (by simp)
    simp[hlt]
    simpa using this
  | succ fuel ih=>
    intro listed a w F m B hm hBl hB hcnt hsz htail hmids hc s hdone
    by_cases hall:∀j,j<n1+k→j<l.length→listed.getD j true=true
    · exact hend _ listed a w F m B hm hBl hB hcnt hsz htail hc s hdone hall
    · have hex:∃j,j<n1+k∧listed.getD j true=false:=by
        refine Classical.byContradiction fun hno=>hall fun j hj _=>?_
        cases hb:listed.getD j true with
        | true=>rfl
        | false=>exact absurd ⟨j,hj,hb⟩ hno
      refine⟨fun hr=>?_,fun i hi=>?_⟩
      · obtain⟨j,⟨hj1,hj2⟩,hmin⟩:=exists_least hex
        have:j∈Region.ready .any l.toArray listed:=by
          rw[mem_ready]
          have hjl:j<l.length:=by omega
          refine⟨hj2,l[j],by simp[hjl],fun e he hb=>?_⟩
          have hlt:=hsp.1 j _ (List.getElem?_eq_getElem hjl) e he hb
          cases hbb:listed.getD e.on true with
          | true=>rw[gd listed e.on (by omega)] at hbb;exact hbb
          | false=>have:=hmin e.on ⟨by omega,hbb⟩;omega
        rw[hr] at this;simp at this
      · have hi':=hi
        rw[mem_ready] at hi
        obtain⟨g1,o,g2,g3⟩:=hi
        have g2':l[i]?=some o:=by simpa using g2
        have hil:i<l.length:=by
          rcases Nat.lt_or_ge i l.length with h'|h'
          · exact h'
          · rw[List.getElem?_eq_none h'] at g2';cases g2'
        have hin:i<n1+k:=by
          rcases Nat.lt_or_ge i (n1+k) with h'|h'
          · exact h'
          · obtain⟨j,hj1,hj2⟩:=hex
            obtain⟨q,hq,hb⟩:=hsp.2 i hil h' j (by omega)
            have:=wx hc i o g2' g3 j q hq hb
            have e:listed.getD j false=true:=this
            rw[←gd listed j (by omega),hj2] at e;cases e
        have hmask:i<(qZ l []).length:=by rw[xY];simpa using hil
        have hcount:(listed.setIfInBounds i true).toList.countP (·==false)≤fuel:=by
          have hlt:i<listed.toList.length:=by simp;omega
          have hli:listed.toList[i]=false:=by
            have:i<listed.size:=by omega
            simp[this] at g1;simpa using g1
          rw[Array.toList_setIfInBounds,List.countP_set hlt]
          rw[hli]
          have hpos:0<listed.toList.countP (·==false):=List.countP_pos_iff.2 ⟨false,by rw[←hli];exact List.getElem_mem _,rfl⟩
          simp only[beq_self_eq_true,if_true]
          show _-1+0≤fuel
          omega
        have hclosed:wI l (fun j=>(listed.setIfInBounds i true).getD j false=true):=by
          intro j oj hj hL e he hb
          by_cases ek:j=i
          · subst ek
            rw[g2'] at hj;obtain rfl:=Option.some.inj hj
            exact getD_set_true (g3 e he hb)
          · exact getD_set_true (hc j oj hj (by
              have hL':(listed.setIfInBounds i true).getD j false=true:=hL
              rwa [getD_set_ne false (fun h=>ek h.symm)] at hL') e he hb)
        have hΓs:∀t S,zR Γ t=some S→S.h w F (a.tmps.getD t undef):=fun t S ht=>by
          refine s.slots t S ?_
          rw[zg]
          cases hl:zR (xx ds B) t with
          | none=>simpa using ht
          | some S'=>
            obtain⟨j,hj⟩:=bf _ _ _ _ hl
            obtain⟨ap1,_⟩:=hapart (n0+j) t (by
              rcases Nat.lt_or_ge j ds.length with h|h
              · omega
              · rw[List.getElem?_eq_none h] at hj;cases hj) (by
              have hjl:j<ds.length:=by
                rcases Nat.lt_or_ge j ds.length with h|h
                · exact h
                · rw[List.getElem?_eq_none h] at hj;cases hj
              obtain⟨d,T,z,ty,pos,after,q1,q2,_⟩:=(hal j hjl).ex
              rw[q2];rw[hj] at q1;obtain rfl:=Option.some.inj q1;rfl)
            exact absurd rfl (ap1 t S ht)
        have hctx:∀Δ:Ctx,(∀t S,zR Δ t=some S→(∃(j:Nat) (oj:Oper),(((qZ l [])[i]?).getD 0).testBit j=true∧l[j]?=some oj∧oj.dst=some t∧Ss[j]?=some S)∨zR Γ t=some S)→
            ∀t S,zR Δ t=some S→S.h w F (a.tmps.getD t undef):=by
          intro Δ a6 t S' ht
          rcases a6 t S' ht with ⟨j,oj,b0,b1,b2,b3⟩|h
          · rw[List.getElem?_eq_getElem hmask] at b0
            exact hdone j oj t S' (wx hc i o g2' g3 j _ (List.getElem?_eq_getElem hmask) (by simpa using b0)) b1 b2 b3
          · exact hΓs t S' h
        have ho:l.toArray[i]?=some o:=by simpa using g2'
        have hBset:∀(i':Nat),i'=i→(∀j,j<ds.length→n0+j≠i')→∀j o,B[j]?=some o→(o=none↔(listed.setIfInBounds i true).getD (n0+j) false=false):=by
          intro i' hi' hne j o' hj
          subst hi'
          have hjl:j<ds.length:=by
            rcases Nat.lt_or_ge j B.length with h|h
            · omega
            · rw[List.getElem?_eq_none h] at hj;cases hj
          rw[getD_set_ne false (fun e=>hne j hjl e.symm)]
          exact hB j o' hj
        rcases Nat.lt_or_ge i n0 with hin1|hin1
        · obtain⟨o',d,S,Δ,a1,a2,a3,a4,a6,a7⟩:=hat i hin1
          rw[g2'] at a1;obtain rfl:=Option.some.inj a1
          have hbind:(l[i]?).bind (·.dst)=some d:=by rw[g2'];exact a2
          obtain⟨ap1,ap2⟩:=hapart i d (by omega) hbind
          have ap3:∀t S,zR (xx ds B++Γ) t=some S→t≠d:=fun t S ht=>by
            rw[zg] at ht
            cases hl:zR (xx ds B) t with
            | none=>rw[hl] at ht;exact ap1 t S (by simpa using ht)
            | some S'=>
              obtain⟨j,hj⟩:=bf _ _ _ _ hl
              have hjl:j<ds.length:=by
                rcases Nat.lt_or_ge j ds.length with h|h
                · exact h
                · rw[List.getElem?_eq_none h] at hj;cases hj
              obtain⟨d',T,z,ty,pos,after,q1,q2,_⟩:=(hal j hjl).ex
              rw[hj] at q1;obtain rfl:=Option.some.inj q1
              exact ap2 (n0+j) t (by omega) (by omega) (by rw[q2];rfl)
          have hsat:Sat E Δ Ms a w F:=(s.wider (hctx Δ a6)).sub ((hsub m hm).trans (List.sublist_append_right _ _))
          have hstep:=a7 a w F hsat (wpAny P .any l.toArray Q fuel (listed.setIfInBounds i true)) Q
          have hgo:∀v w' F',AdvX E Ms a w F w' F'→S.h w' F' v→wpAny P .any l.toArray Q fuel (listed.setIfInBounds i true) (a.put o.dst v) w':=by
            intro v w' F' ad hv
            rw[a2]
            have s1:=ad.adv _ _ ((hsub m hm).trans (List.sublist_append_right _ _)) s
            refine ih _ _ w' F' m B hm hBl (hBset i rfl (fun j _=>by omega)) hcount (by simp[hsz]) (fun j hj hjl=>?_) (fun j h1 h2=>?_) hclosed (s1.putOut a3 v ap3) ?_
            · rw[getD_set_ne true (by omega)];exact htail j hj hjl
            · rw[getD_set_ne true (by omega)];exact hmids j h1 h2
            · intro j oj dj Sj hL hj hdj hSj
              rw[jI (by rw[s1.size];exact a3)]
              by_cases ek:j=i
              · subst ek
                rw[g2'] at hj;obtain rfl:=Option.some.inj hj
                rw[a2] at hdj;obtain rfl:=Option.some.inj hdj
                rw[a4] at hSj;obtain rfl:=Option.some.inj hSj
                rw[if_pos rfl];exact hv
              · have hjn:j<n0:=by
                  rcases Nat.lt_or_ge j n0 with h'|h'
                  · exact h'
                  · rw[List.getElem?_eq_none (by omega)] at hSj;cases hSj
                have hne:=ap2 j dj (by omega) ek (by rw[hj];exact hdj)
                rw[if_neg (fun e=>hne e.symm)]
                refine Sj.mono _ _ _ _ _ (hdone j oj dj Sj ?_ hj hdj hSj) ad.same ad.sub
                have hL':(listed.setIfInBounds i true).getD j false=true:=hL
                rwa [getD_set_ne false (fun h=>ek h.symm)] at hL'
          have hres:=hstep hgo
          unfold wpOp
          rw[ho]
          exact hres
        · rcases Nat.lt_or_ge i n1 with hin2|hin2
          · -- a new block
            obtain⟨q,rfl⟩:∃q,i=n0+q:=⟨i-n0,by omega⟩
            have hql:q<ds.length:=by omega
            obtain⟨d,T,z,Zs,ty,pos,after,q1,q2,q3,q4,q5,q6⟩:=(hal q hql).full
            rw[g2'] at q2;obtain rfl:=Option.some.inj q2
            obtain⟨ap1,ap2⟩:=hapart (n0+q) d (by omega) (by rw[g2'];rfl)
            have hBq:B[q]?=some none:=by
              have hlt:q<B.length:=by omega
              have h1:=(hB q B[q] (List.getElem?_eq_getElem hlt)).2 (by rw[←gd listed (n0+q) (by omega)];exact g1)
              rw[List.getElem?_eq_getElem hlt,h1]
            have hCq:(Cs m)[q]?=some (zC Zs):=by
              rcases q6 m hm with h|⟨m',hm',hb⟩
              · exact h
              · have hml:n1+m'<l.length:=by omega
                have hL:listed.getD (n1+m') false=true:=by rw[←gd listed (n1+m') (by omega)];exact hmids _ (by omega) (by omega)
                have hmk2:n1+m'<(qZ l []).length:=by rw[xY];simpa using hml
                rw[List.getElem?_eq_getElem hmk2] at hb
                have:=wx hc (n1+m') _ (List.getElem?_eq_getElem hml) (fun e he hb'=>hc (n1+m') _ (List.getElem?_eq_getElem hml) hL e he hb') (n0+q) _ (List.getElem?_eq_getElem hmk2) (by simpa using hb)
                have e:listed.getD (n0+q) false=true:=this
                rw[←gd listed (n0+q) (by omega),g1] at e;cases e
            unfold wpOp
            rw[ho]
            show if Region.wanted _ (yielded l.toArray a.tmps) then _ else _
            rw[if_pos (by simp[Region.wanted])]
            refine .inl ?_
            unfold Oper.wp
            have hr:(execOp a.eval (⟨some d,.alloc T,ty,pos,after,none⟩:Oper)).run P w=.ok (.value (.pointer (some ⟨w.heap.size,0,none⟩))) { w with heap:=w.heap.push (.cells z.cells T) }:=by
              have:=wu (w:=w) q4
              simp only[execOp,Instr.alloc,newVar,newRow,newObj,Sem.run_bind,this,Result.andThen_ok]
              simp[go_sem];rfl
            rw[hr]
            show wpAny P .any l.toArray Q fuel (listed.setIfInBounds (n0+q) true) (a.put (some d) _) _
            have ad:Adv w F { w with heap:=w.heap.push (.cells z.cells T) } F:=⟨Keep.alloc _ _ _,fun _ h=>h,fun _ h=>.inl h⟩
            have s1:=(s.alloc (T:=T) (q5 w F)).swap (i:=q)
            have hM:(jH (Cs m) B++f m).set q (some w.heap.size,zC Zs)=jH (Cs m) (B.set q (some w.heap.size))++f m:=nN _ _ _ _ hBl (hCl m hm) hCq hql
            rw[hM] at s1
            refine ih _ _ _ F m (B.set q (some w.heap.size)) hm (by simp[hBl]) (fun j o' hj=>?_) hcount (by simp[hsz]) (fun j hj hjl=>?_) (fun j h1 h2=>?_) hclosed ?_ ?_
            · by_cases e:j=q
              · subst e
                rw[List.getElem?_set_self (by omega)] at hj
                obtain rfl:=Option.some.inj hj
                have:n0+j<listed.size:=by omega
                simp[this]
              · rw[List.getElem?_set_ne (fun h=>e h.symm)] at hj
                rw[getD_set_ne false (by omega)]
                exact hB j o' hj
            · rw[getD_set_ne true (by omega)];exact htail j hj hjl
            · rw[getD_set_ne true (by omega)];exact hmids j h1 h2
            · have hsz2:d<a.tmps.size:=by rw[s1.size];exact q3
              have hslots:∀t S,zR (xx ds (B.set q (some w.heap.size))++Γ) t=some S→S.h { w with heap:=w.heap.push (.cells z.cells T) } F ((a.put (some d) (.pointer (some ⟨w.heap.size,0,none⟩))).tmps.getD t undef):=by
                intro t S ht
                rw[jI hsz2]
                rw[zg] at ht
                cases hl:zR (xx ds (B.set q (some w.heap.size))) t with
                | none=>
                  rw[hl] at ht
                  have ht':zR Γ t=some S:=by simpa using ht
                  rw[if_neg (fun e=>ap1 t S ht' e.symm)]
                  exact S.mono _ _ _ _ _ (hΓs t S ht') (ad.same s.flt) ad.sub
                | some S'=>
                  rw[hl] at ht
                  obtain rfl:S'=S:=by simpa using ht
                  rcases cG _ _ _ _ _ _ hl with ⟨e1,e2⟩|h
                  · rw[q1] at e1;obtain rfl:=Option.some.inj e1
                    rw[if_pos rfl,e2]
                    intro b hb
                    obtain rfl:=Option.some.inj hb;rfl
                  · by_cases e:d=t
                    · subst e
                      rw[if_pos rfl]
                      obtain⟨j,o',h1,h2,h3⟩:=jX _ _ _ _ h
                      have hjq:j=q:=by
                        refine Classical.byContradiction fun hne=>?_
                        have hjl:j<ds.length:=by
                          rcases Nat.lt_or_ge j ds.length with h|h
                          · exact h
                          · rw[List.getElem?_eq_none h] at h1;cases h1
                        obtain⟨d',T',z',ty',pos',after',r1,r2,_⟩:=(hal j hjl).ex
                        rw[h1] at r1;obtain rfl:=Option.some.inj r1
                        exact ap2 (n0+j) d (by omega) (by omega) (by rw[r2];rfl) rfl
                      subst hjq
                      rw[hBq] at h2;obtain rfl:=Option.some.inj h2
                      rw[h3]
                      intro b hb;cases hb
                    · rw[if_neg e]
                      exact S'.mono _ _ _ _ _ (s.slots t S' (by rw[zg,h];rfl)) (ad.same s.flt) ad.sub
              exact { defers:=s1.defers,size:=by simp[Act.put,s1.size],keep:=s1.keep,f0:=s1.f0,fnew:=s1.fnew,flt:=s1.flt,mem:=s1.mem,slots:=hslots }
            · intro j oj dj Sj hL hj hdj hSj
              have hjn:j<n0:=by
                rcases Nat.lt_or_ge j n0 with h'|h'
                · exact h'
                · rw[List.getElem?_eq_none (by omega)] at hSj;cases hSj
              have hne:=ap2 j dj (by omega) (by omega) (by rw[hj];exact hdj)
              rw[jI (by rw[s1.size];exact q3),if_neg (fun e=>hne e.symm)]
              refine Sj.mono _ _ _ _ _ (hdone j oj dj Sj ?_ hj hdj hSj) (ad.same s.flt) ad.sub
              have hL':(listed.setIfInBounds (n0+q) true).getD j false=true:=hL
              rwa [getD_set_ne false (by omega)] at hL'
          -- a store: the next one of the row
          have him:n1+m≤i:=by
            rcases Nat.lt_or_ge i (n1+m) with h|h
            · rw[hmids i hin2 h] at g1;cases g1
            · exact h
          have hieq:i=n1+m:=by
            rcases Nat.lt_or_ge (n1+m) i with h|h
            · obtain⟨o',Δ,req,b1,b3,b4,b5⟩:=(hmid (i-n1) (by omega)).ex
              have hb:=b4 m (by omega)
              rw[show n1+(i-n1)=i by omega,List.getElem?_eq_getElem hmask] at hb
              have:=wx hc i o g2' g3 (n1+m) _ (List.getElem?_eq_getElem hmask) (by simpa using hb)
              have e:listed.getD (n1+m) false=true:=this
              rw[←gd listed (n1+m) (by omega),htail (n1+m) (Nat.le_refl _) (by omega)] at e;cases e
            · omega
          subst hieq
          have hmk:m<k:=by omega
          obtain⟨o',Δ,req,b1,b3,b4,b7,b8⟩:=(hmid m hmk).ex
          rw[g2'] at b1;obtain rfl:=Option.some.inj b1
          have hreq:∀j∈req,∃b,B[j]?=some (some b):=fun j hj=>by
            obtain⟨hjl,hb⟩:=b7 j hj
            rw[show n1-ds.length+j=n0+j by omega] at hb
            rw[List.getElem?_eq_getElem hmask] at hb
            have hL:listed.getD (n0+j) false=true:=wx hc (n1+m) o g2' g3 (n0+j) _ (List.getElem?_eq_getElem hmask) (by simpa using hb)
            have hlt:j<B.length:=by omega
            cases hBj:B[j] with
            | none=>
              have:=(hB j none (by rw[List.getElem?_eq_getElem hlt,hBj])).1 rfl
              rw[hL] at this;cases this
            | some b=>exact⟨b,by rw[List.getElem?_eq_getElem hlt,hBj]⟩
          rcases b8 with ⟨b2,b8⟩|⟨d,S,e1,e2,e3,e4,e5⟩
          rotate_left
          · obtain⟨ap1,ap2⟩:=hapart (n1+m) d (by omega) (by rw[g2'];exact e1)
            have ap3:∀t S,zR (xx ds B++Γ) t=some S→t≠d:=fun t S ht=>by
              rw[zg] at ht
              cases hl:zR (xx ds B) t with
              | none=>rw[hl] at ht;exact ap1 t S (by simpa using ht)
              | some S'=>
                obtain⟨j,hj⟩:=bf _ _ _ _ hl
                have hjl:j<ds.length:=by
                  rcases Nat.lt_or_ge j ds.length with h|h
                  · exact h
                  · rw[List.getElem?_eq_none h] at hj;cases hj
                obtain⟨d',T,z,ty,pos,after,q1,q2,_⟩:=(hal j hjl).ex
                rw[hj] at q1;obtain rfl:=Option.some.inj q1
                exact ap2 (n0+j) t (by omega) (by omega) (by rw[q2];rfl)
            have hsat:Sat E Δ [] a w F:=(s.wider (hctx Δ b3)).sub (List.nil_sublist _)
            have hstep:=e5 a w F hsat (wpAny P .any l.toArray Q fuel (listed.setIfInBounds (n1+m) true)) Q
            have hgo:∀v w' F',Adv w F w' F'→S.h w' F' v→wpAny P .any l.toArray Q fuel (listed.setIfInBounds (n1+m) true) (a.put o.dst v) w':=by
              intro v w' F' ad hv
              rw[e1]
              have s1:=s.adv ad
              refine ih _ _ w' F' (m+1) B hmk hBl (hBset _ rfl (fun j hj=>by omega)) hcount (by simp[hsz]) (fun j hj hjl=>?_) (fun j h1 h2=>?_) hclosed (by rw[e3,e4];exact s1.putOut e2 v ap3) ?_
              · rw[getD_set_ne true (by omega)];exact htail j (by omega) hjl
              · by_cases e:j=n1+m
                · subst e
                  have:n1+m<listed.size:=by omega
                  simp[this]
                · rw[getD_set_ne true (by omega)];exact hmids j h1 (by omega)
              · intro j oj dj Sj hL hj hdj hSj
                have hjn:j<n0:=by
                  rcases Nat.lt_or_ge j n0 with h'|h'
                  · exact h'
                  · rw[List.getElem?_eq_none (by omega)] at hSj;cases hSj
                have hne:=ap2 j dj (by omega) (by omega) (by rw[hj];exact hdj)
                rw[jI (by rw[s1.size];exact e2),if_neg (fun e=>hne e.symm)]
                refine Sj.mono _ _ _ _ _ (hdone j oj dj Sj ?_ hj hdj hSj) (ad.same s.flt) ad.sub
                have hL':(listed.setIfInBounds (n1+m) true).getD j false=true:=hL
                rwa [getD_set_ne false (by omega)] at hL'
            have hres:=hstep hgo
            unfold wpOp
            rw[ho]
            exact hres
          obtain⟨b5,b6⟩:=b8 B hBl hreq
          have hsat:Sat E (Δ++xx ds B) (jH (Cs m) B++f m) a w F:=s.wider (fun t S ht=>by
            rw[zg] at ht
            cases hl:zR Δ t with
            | some S'=>
              rw[hl] at ht
              obtain rfl:S'=S:=by simpa using ht
              exact hctx Δ b3 t S' hl
            | none=>
              rw[hl] at ht
              have ht':zR (xx ds B) t=some S:=by simpa using ht
              exact s.slots t S (by rw[zg,ht'];rfl))
          have hgo:∀w',(∀b,F b→w'.heap[b]?=w.heap[b]?)→(∀Γ'',Sat E Γ'' (jH (Cs m) B++f m) a w F→Sat E Γ'' (jH (Cs (m+1)) B++f (m+1)) a w' F)→wpAny P .any l.toArray Q fuel (listed.setIfInBounds (n1+m) true) a w':=by
            intro w' hF hS
            refine ih _ _ w' F (m+1) B hmk hBl (hBset _ rfl (fun j hj=>by omega)) hcount (by simp[hsz]) (fun j hj hjl=>?_) (fun j h1 h2=>?_) hclosed (hS _ s) ?_
            · rw[getD_set_ne true (by omega)];exact htail j (by omega) hjl
            · by_cases e:j=n1+m
              · subst e
                have:n1+m<listed.size:=by omega
                simp[this]
              · rw[getD_set_ne true (by omega)];exact hmids j h1 (by omega)
            · intro j oj dj Sj hL hj hdj hSj
              have hjn:j<n0:=by
                rcases Nat.lt_or_ge j n0 with h'|h'
                · exact h'
                · rw[List.getElem?_eq_none (by omega)] at hSj;cases hSj
              refine Sj.mono _ _ _ _ _ (hdone j oj dj Sj ?_ hj hdj hSj) hF (fun _ h=>h)
              have hL':(listed.setIfInBounds (n1+m) true).getD j false=true:=hL
              rwa [getD_set_ne false (by omega)] at hL'
          unfold wpOp
          rw[ho]
          show if Region.wanted o (yielded l.toArray a.tmps) then _ else _
          rw[if_pos (by simp[Region.wanted,b5])]
          exact .inl (b6 a w F hsat _ Q hgo)
def DrN2 (E:Env) (P:Program) (id:Nat) (l:List Oper) (Γ:Ctx) (M Ms:Mem) (Q:Exit→Act→World→Prop) (n0 n1:Nat) (ds:List Nat) (zs:List (List VP)) (Θ:Ctx) (m:Nat) (Cs:List MP) (Mc:Mem):Prop:=
  ∀(Ss:List VP) (CF:Nat→List MP) (f:Nat→Mem),DrW E P l Γ Ms n0 Ss→(∀t S,zR Θ t=some S→∃(j:Nat) (o:Oper),j<n0∧l[j]?=some o∧o.dst=some t∧Ss[j]?=some S)→n1=n0+ds.length→Als E P l n0 ds zs→
    CF 0=zs.map zC→f 0=M→CF m=Cs→f m=Mc→(∀j,j≤m→Ms.Sublist (f j))→(∀j,j≤m→(CF j).length=ds.length)→(∀j,j<m→MidD2 E P l Γ Ss n1 ds j (CF j) (f j) (CF (j+1)) (f (j+1)))→
    (∀q,q<ds.length→∀j,j≤m→(CF j)[q]?=(zs.map zC)[q]?∨∃m',m'<j∧(((qZ l [])[n1+m']?).getD 0).testBit (n0+q)=true)→Tri E P (.region id l.toArray true) Γ M Q
theorem DrH.als2 {id n0 n1:Nat} {l:List Oper} {Θ:Ctx} {Ms:Mem} {ds:List Nat} {zs:List (List VP)} {Cs:List MP} (hn:n1=n0+ds.length) (ha:Als E P l n0 ds zs) (hs:Ms.Sublist M) (hC:zs.map zC=Cs) (k:DrN2 E P id l Γ M Ms Q n0 n1 ds zs Θ 0 Cs M):DrH E P id l Γ M Ms Q n0 Θ:=by
 intro Ss hD hΘ
 subst hC
 refine k Ss (fun _=>zs.map zC) (fun _=>M) hD hΘ hn ha rfl rfl rfl rfl (fun j hj=>hs) (fun j hj=>by simp[ha.len]) (fun j hj=>absurd hj (by omega)) (fun q hq j hj=>.inl rfl)
theorem DrN2.new {id n0 n1 m:Nat} {l:List Oper} {Θ:Ctx} {Ms Mc:Mem} {ds:List Nat} {zs:List (List VP)} {Cs Cs':List MP} (ts:List Nat) (j:Nat) {dj n:Nat} {g:Bool} {T:TypeId} {y:Operand} {Ss0 Ss1 Ss':List VP} {S:VP} [sh:Shape S Ss1] [o1:Ones Ss1]
    (h1:l[n1+m]?=some ⟨none,.store T (.tmp dj) y,ty,pos,after,none⟩) (h4:vL l (n1+m) ts=true) (hc:pQ l n1 m=true) (hdj:ds[j]?=some dj) (hfirst:((List.range j).all fun i=>!Nat.beq (ds.getD i 0) dj)=true) (hno:zR (qh ts Θ++Γ) dj=none)
    (hb:(((qZ l [])[n1+m]?).getD 0).testBit (n1-ds.length+j)=true) (hC:Cs[j]?=some (zC Ss0)) (hy:Has E (qh ts Θ++Γ) [] y S) (hT:tyB P T=some (n,g)) (hn:Nat.beq Ss1.length n=true) (hl:Nat.ble (0+n) Ss0.length=true)
    (hS:Ss0.take 0++Ss1++Ss0.drop (0+n)=Ss') (hCs:Cs.set j (zC Ss')=Cs') (k:DrN2 E P id l Γ M Ms Q n0 n1 ds zs Θ (m+1) Cs' Mc):DrN2 E P id l Γ M Ms Q n0 n1 ds zs Θ m Cs Mc:=by
  intro Ss CF f hD hΘ hn1 hal hC0 hf0 hCm hfm hsub hlen hmid hq
  have hjl:j<ds.length:=by
    rcases Nat.lt_or_ge j ds.length with h|h
    · exact h
    · rw[List.getElem?_eq_none h] at hdj;cases hdj
  have hCl:Cs.length=ds.length:=by rw[←hCm];exact hlen m (Nat.le_refl _)
  refine k Ss (fun i=>if i=m+1 then Cs' else CF i) (fun i=>if i=m+1 then Mc else f i) hD hΘ hn1 hal (by simp[hC0]) (by simp[hf0]) (by simp) (by simp) (fun i hi=>?_) (fun i hi=>?_) (fun i hi=>?_) (fun q hql i hi=>?_)
  · show Ms.Sublist (if i=m+1 then Mc else f i)
    split
    · rw[←hfm];exact hsub m (Nat.le_refl _)
    · exact hsub i (by omega)
  · show (if i=m+1 then Cs' else CF i).length=_
    split
    · rw[←hCs,List.length_set,hCl]
    · exact hlen i (by omega)
  · show MidD2 E P l Γ Ss n1 ds i (if i=m+1 then Cs' else CF i) (if i=m+1 then Mc else f i) (if i+1=m+1 then Cs' else CF (i+1)) (if i+1=m+1 then Mc else f (i+1))
    rw[if_neg (by omega),if_neg (by omega)]
    by_cases e:i=m
    · subst e
      rw[if_pos rfl,if_pos rfl,hfm,hCm]
      refine⟨_,qh ts Θ++Γ,[j],h1,fun t S' ht=>?_,fun i' hi'=>?_,fun j' hj'=>?_,.inl ⟨rfl,fun B hBl hreq=>?_⟩⟩
      · rw[zg] at ht
        cases hl2:zR (qh ts Θ) t with
        | none=>rw[hl2] at ht;exact .inr (by simpa using ht)
        | some S''=>
          rw[hl2] at ht
          obtain rfl:S''=S':=by simpa using ht
          obtain⟨hm2,hl3⟩:=vD _ _ _ hl2
          obtain⟨i',oj,b0,b1,b2,b3⟩:=hΘ t S'' hl3
          refine .inl ⟨i',oj,?_,b1,b2,b3⟩
          have:=List.all_eq_true.1 h4 i' (by simp;omega)
          rw[b1] at this
          simp only[Option.bind_some,b2,Bool.or_eq_true] at this
          rcases this with h|h
          · exact h
          · have:=List.all_eq_true.1 h t hm2
            simp[Nat.beq_refl] at this
      · exact List.all_eq_true.1 hc i' (by simpa using hi')
      · obtain rfl:j'=j:=by simpa using hj'
        exact⟨hjl,hb⟩
      · obtain⟨b,hBj⟩:=hreq j (by simp)
        have hlk:zR ((qh ts Θ++Γ)++xx ds B) dj=some (oz (some b)):=by
          rw[zg,hno]
          refine dG ds B j dj (some b) (fun i' hi' e=>?_) hdj hBj
          have:=List.all_eq_true.1 hfirst i' (by simpa using hi')
          rw[List.getD,e] at this
          simp[ba] at this
        refine StS.store (b:=b) (off:=0) (i:=j) (Ss:=Ss0) (Ss':=Ss') (Has.op hlk) (Has.up hy) (ru _ _ _ hBj hC) hT hn hl hS ?_
        rcases kJ Cs B j (C:=zC Ss') (M:=Mc) hBj with h|h
        · rw[h,hCs]
        · omega
    · rw[if_neg (by omega),if_neg (by omega)]
      exact hmid i (by omega)
  · show (if i=m+1 then Cs' else CF i)[q]?=_∨_
    by_cases e:i=m+1
    · rw[if_pos e]
      by_cases ej:q=j
      · subst ej
        refine .inr ⟨m,by omega,?_⟩
        rwa [show n1-ds.length+q=n0+q by omega] at hb
      · rw[←hCs,List.getElem?_set_ne (fun h=>ej h.symm),←hCm]
        rcases hq q hql m (Nat.le_refl _) with h|⟨m',hm',hb'⟩
        · exact .inl h
        · exact .inr ⟨m',by omega,hb'⟩
    · rw[if_neg e]
      exact hq q hql i (by omega)
theorem DrN2.asg {id n0 n1 m:Nat} {l:List Oper} {Θ:Ctx} {Ms Mc:Mem} {ds:List Nat} {zs:List (List VP)} {Cs:List MP} (ts:List Nat) {S:VP} {o:Oper} {d:Nat}
    (h1:l[n1+m]?=some o) (h2:o.dst=some d) (h3:Nat.blt d E.n=true) (h4:vL l (n1+m) ts=true) (hc:pQ l n1 m=true) (h5:OKG E P l.toArray (qh ts Θ++Γ) [] o S) (hs:Ms.Sublist Mc) (k:DrN2 E P id l Γ M Ms Q n0 n1 ds zs Θ (m+1) Cs Mc):DrN2 E P id l Γ M Ms Q n0 n1 ds zs Θ m Cs Mc:=by
  intro Ss CF f hD hΘ hn1 hal hC0 hf0 hCm hfm hsub hlen hmid hq
  have hCl:Cs.length=ds.length:=by rw[←hCm];exact hlen m (Nat.le_refl _)
  refine k Ss (fun i=>if i=m+1 then Cs else CF i) (fun i=>if i=m+1 then Mc else f i) hD hΘ hn1 hal (by simp[hC0]) (by simp[hf0]) (by simp) (by simp) (fun i hi=>?_) (fun i hi=>?_) (fun i hi=>?_) (fun q hql i hi=>?_)
  · show Ms.Sublist (if i=m+1 then Mc else f i)
    split
    · exact hs
    · exact hsub i (by omega)
  · show (if i=m+1 then Cs else CF i).length=_
    split
    · exact hCl
    · exact hlen i (by omega)
  · skip
    show MidD2 E P l Γ Ss n1 ds i (if i=m+1 then Cs else CF i) (if i=m+1 then Mc else f i) (if i+1=m+1 then Cs else CF (i+1)) (if i+1=m+1 then Mc else f (i+1))
    rw[if_neg (by omega),if_neg (by omega)]
    by_cases e:i=m
    · subst e
      rw[if_pos rfl,if_pos rfl,hfm,hCm]
      refine⟨_,qh ts Θ++Γ,[],h1,fun t S' ht=>?_,fun i' hi'=>?_,fun j' hj'=>absurd hj' (by simp),.inr ⟨_,S,h2,by simpa [Nat.blt_eq] using h3,rfl,rfl,h5⟩⟩
      · rw[zg] at ht
        cases hl2:zR (qh ts Θ) t with
        | none=>rw[hl2] at ht;exact .inr (by simpa using ht)
        | some S''=>
          rw[hl2] at ht
          obtain rfl:S''=S':=by simpa using ht
          obtain⟨hm2,hl3⟩:=vD _ _ _ hl2
          obtain⟨i',oj,b0,b1,b2,b3⟩:=hΘ t S'' hl3
          refine .inl ⟨i',oj,?_,b1,b2,b3⟩
          have:=List.all_eq_true.1 h4 i' (by simp;omega)
          rw[b1] at this
          simp only[Option.bind_some,b2,Bool.or_eq_true] at this
          rcases this with h|h
          · exact h
          · have:=List.all_eq_true.1 h t hm2
            simp[Nat.beq_refl] at this
      · exact List.all_eq_true.1 hc i' (by simpa using hi')
    · rw[if_neg (by omega),if_neg (by omega)]
      exact hmid i (by omega)
  · show (if i=m+1 then Cs else CF i)[q]?=_∨_
    by_cases e:i=m+1
    · rw[if_pos e,←hCm]
      rcases hq q hql m (Nat.le_refl _) with h|⟨m',hm',hb'⟩
      · exact .inl h
      · exact .inr ⟨m',by omega,hb'⟩
    · rw[if_neg e]
      exact hq q hql i (by omega)
theorem DrN2.fin {id n0 n1 m n:Nat} {l:List Oper} {Θ:Ctx} {Ms Mc:Mem} {ds:List Nat} {zs:List (List VP)} {Cs:List MP} (hm:P.follows .mixedOrders=true) (hn:n=n1+m) (hap:we l n Γ=true) (htl:am l n=true) (hnl:Nat.ble n l.length=true)
    (k:∀bs:List Nat,bs.length=ds.length→Ops E P l.toArray Q (l.drop n) (Θ++(xx ds (bs.map some)++Γ)) (jH Cs (bs.map some)++Mc)):DrN2 E P id l Γ M Ms Q n0 n1 ds zs Θ m Cs Mc:=by
  intro Ss CF f hD hΘ hn1 hal hC0 hf0 hCm hfm hsub hlen hmid hq
  subst hn
  have hnl':=Nat.le_of_ble_eq_true hnl
  have hap1:∀i d,i<n1+m→(l[i]?).bind (·.dst)=some d→(∀t S,zR Γ t=some S→t≠d)∧∀j e,j<n1+m→j≠i→(l[j]?).bind (·.dst)=some e→e≠d:=by
    intro i d hi hd
    have h1:=List.all_eq_true.1 hap i (by simpa using hi)
    rw[hd] at h1
    simp only[Bool.and_eq_true] at h1
    refine⟨jk h1.1,fun j e hj hne he=>?_⟩
    have h2:=List.all_eq_true.1 h1.2 j (by simpa using hj)
    rw[he] at h2
    simp only[Bool.or_eq_true,Bool.not_eq_true'] at h2
    rcases h2 with h2|h2
    · exact absurd (Nat.eq_of_beq_eq_true h2).symm hne
    · exact fun e'=>Nat.ne_of_beq_eq_false h2 e'.symm
  have hk:∀bs:List Nat,bs.length=ds.length→Ops E P l.toArray Q (l.drop (n1+m)) (wC (l.take n0) Ss++(xx ds (bs.map some)++Γ)) (jH (CF m) (bs.map some)++f m):=by
    intro bs hbs
    rw[hfm,hCm]
    refine fun a w F s=>k bs hbs a w F (s.wider fun t S ht=>?_)
    rw[zg] at ht
    cases hl:zR Θ t with
    | none=>
      rw[hl] at ht
      have ht':zR (xx ds (bs.map some)++Γ) t=some S:=by simpa using ht
      have hno:zR (wC (l.take n0) Ss) t=none:=by
        cases hd:zR (wC (l.take n0) Ss) t with
        | none=>rfl
        | some S'=>
          obtain⟨j,o,b1,b2,b3⟩:=vx _ _ _ _ hd
          have hj:j<n0:=by
            rcases Nat.lt_or_ge j n0 with h'|h'
            · exact h'
            · rw[List.getElem?_eq_none (by simp;omega)] at b1;cases b1
          rw[List.getElem?_take_of_lt hj] at b1
          obtain⟨p1,p2⟩:=hap1 j t (by omega) (by rw[b1];exact b2)
          rw[zg] at ht'
          cases hg:zR (xx ds (bs.map some)) t with
          | none=>rw[hg] at ht';exact absurd rfl (p1 t S (by simpa using ht'))
          | some S''=>
            obtain⟨q,hq'⟩:=bf _ _ _ _ hg
            have hql:q<ds.length:=by
              rcases Nat.lt_or_ge q ds.length with h|h
              · exact h
              · rw[List.getElem?_eq_none h] at hq';cases hq'
            obtain⟨d,T,z,Zs,ty,pos,after,a1,a2,_⟩:=hal.at q hql
            rw[hq'] at a1;obtain rfl:=Option.some.inj a1
            exact absurd rfl (p2 (n0+q) t (by omega) (by omega) (by rw[a2];rfl))
      exact s.slots t S (by rw[zg,hno];simpa using ht')
    | some S'=>
      rw[hl] at ht
      obtain rfl:S'=S:=by simpa using ht
      obtain⟨j,o,b0,b1,b2,b3⟩:=hΘ t S' hl
      have hex:∀(l':List Oper) (Ss':List VP) (j:Nat),(l'[j]?).bind (·.dst)=some t→Ss'[j]?=some S'→(∀j',j'≠j→(l'[j']?).bind (·.dst)≠some t)→zR (wC l' Ss') t=some S':=by
        intro l'
        induction l' with
        | nil=>intro Ss' j h;simp at h
        | cons o' l' ih=>
          intro Ss' j h1 h2 h3
          cases Ss' with
          | nil=>simp at h2
          | cons T Ss'=>
            cases j with
            | zero=>
              simp at h1 h2
              subst h2
              simp[wC,h1,zR]
            | succ j=>
              have hrec:=ih Ss' j (by simpa using h1) (by simpa using h2) (fun j' hj'=>by simpa using h3 (j'+1) (by omega))
              have h0:=h3 0 (by omega)
              simp at h0
              simp only[wC]
              cases hd:o'.dst with
              | none=>exact hrec
              | some d'=>
                simp only[zR]
                have hne:Nat.beq d' t=false:=by
                  cases hb:Nat.beq d' t with
                  | false=>rfl
                  | true=>exact absurd (by rw[hd,Nat.eq_of_beq_eq_true hb]) h0
                rw[hne];exact hrec
      have hlk:=hex (l.take n0) Ss j (by rw[List.getElem?_take_of_lt b0,b1];exact b2) b3 (fun j' hj' he=>by
        have hj'n:j'<n0:=by
          rcases Nat.lt_or_ge j' n0 with h'|h'
          · exact h'
          · rw[List.getElem?_eq_none (by simp;omega)] at he;simp at he
        rw[List.getElem?_take_of_lt hj'n] at he
        exact (hap1 j t (by omega) (by rw[b1];exact b2)).2 j' t (by omega) hj' he rfl)
      exact s.slots t S' (by rw[zg,hlk];rfl)
  intro a w F s
  refine wp_region_any hm ?_
  have s1:=s.adv (Adv.drew w F)
  have hzl:=hal.len
  refine zDM hn1 hD hsub hmid hlen (fun q hql=>?_) hap htl hnl' hk _ _ a _ F 0 (List.replicate ds.length none) (Nat.zero_le _) (by simp) (fun j o hj=>?_) ?_ (by simp) (fun j hj hjl=>?_) (fun j h1 h2=>absurd h2 (by omega)) ?_ ?_ ?_
  · obtain⟨d,T,z,Zs,ty,pos,after,a1,a2,a3,a4,a5,a6⟩:=hal.at q hql
    refine⟨d,T,z,Zs,ty,pos,after,a1,a2,a3,a4,a5,fun m' hm'=>?_⟩
    have:=hq q hql m' hm'
    rw[List.getElem?_map,a6] at this
    simpa using this
  · have hjl:j<ds.length:=by
      rcases Nat.lt_or_ge j ds.length with h|h
      · exact h
      · rw[List.getElem?_eq_none (by simpa using h)] at hj;cases hj
    rw[List.getElem?_replicate,if_pos hjl] at hj
    obtain rfl:=Option.some.inj hj
    have:n0+j<l.length:=by omega
    simp[this]
  · simp
    exact Nat.le_trans List.countP_le_length (by simp)
  · have:j<l.length:=hjl
    simp[this]
  · intro i o hi hL
    simp[Array.getD_eq_getD_getElem?,Array.getElem?_replicate] at hL
    split at hL <;> simp at hL
  · rw[hf0,hC0]
    have hgn:∀(Cs:List MP) (k:Nat),∀x∈jH Cs (List.replicate k none),x.1=none:=by
      intro Cs
      induction Cs with
      | nil=>intro k x hx;simp[jH] at hx
      | cons C Cs ih=>
        intro k x hx
        cases k with
        | zero=>simp[jH] at hx
        | succ k=>
          rw[List.replicate_succ] at hx
          simp only[jH,List.mem_cons] at hx
          rcases hx with rfl|hx
          · rfl
          · exact ih k x hx
    have hgc:∀(ds:List Nat) (k:Nat) t S,zR (xx ds (List.replicate k none)) t=some S→S=oz none:=by
      intro ds k t S h
      obtain⟨j,o,h1,h2,h3⟩:=jX _ _ _ _ h
      rw[List.getElem?_replicate] at h2
      split at h2
      · obtain rfl:=Option.some.inj h2;exact h3
      · cases h2
    refine { s1 with slots:=fun t S ht=>?_,mem:=⟨?_,fun b C hb=>?_⟩ }
    · rw[zg] at ht
      cases hl:zR (xx ds (List.replicate ds.length none)) t with
      | none=>rw[hl] at ht;exact s1.slots t S (by simpa using ht)
      | some S'=>
        rw[hl] at ht
        obtain rfl:S'=S:=by simpa using ht
        rw[hgc _ _ _ _ hl]
        intro b hb;cases hb
    · rw[List.pairwise_append]
      refine⟨?_,s1.mem.apart,fun x hx y hy=>.inl (hgn _ _ x hx)⟩
      exact List.Pairwise.imp_of_mem (R:=fun _ _=>True) (fun hx _ _=>.inl (hgn _ _ _ hx)) (List.pairwise_of_forall (fun _ _=>trivial))
    · rcases List.mem_append.1 hb with h|h
      · have:=hgn _ _ _ h;cases this
      · exact s1.mem.each b C h
  · intro j o d S hL
    simp[Array.getD_eq_getD_getElem?,Array.getElem?_replicate] at hL
    split at hL <;> simp at hL
theorem DrN2.fn {id n0 n1 m n:Nat} {l:List Oper} {Θ:Ctx} {Ms Mc:Mem} {ds:List Nat} {zs:List (List VP)} {Cs:List MP} (hm:P.follows .mixedOrders=true) (hn:n=n1+m)
    (k:∀bs:List Nat,bs.length=ds.length→Ops E P l.toArray Q (l.drop n) (Θ++(xx ds (bs.map some)++Γ)) (jH Cs (bs.map some)++Mc)) (hap:we l n Γ=true:=by kernel_rfl) (htl:am l n=true:=by kernel_rfl) (hnl:Nat.ble n l.length=true:=by kernel_rfl):DrN2 E P id l Γ M Ms Q n0 n1 ds zs Θ m Cs Mc:=DrN2.fin hm hn hap htl hnl k
theorem DrH.mid2 {id n0:Nat} {l:List Oper} {Θ:Ctx} {Ms:Mem} (hs:Ms.Sublist M) (k:DrN2 E P id l Γ M Ms Q n0 n0 [] [] Θ 0 [] M):DrH E P id l Γ M Ms Q n0 Θ:=DrH.als2 (ds:=[]) (zs:=[]) rfl .nil hs rfl k
theorem DrN2.st0 {id n1 m:Nat} {l:List Oper} {Θ:Ctx} {Ms Mc M':Mem} {o:Oper} (ts:List Nat) (h1:l[n1+m]?=some o) (h2:o.dst=none) (h4:vL l (n1+m) ts=true) (hc:pQ l n1 m=true)
    (h5:StS E P (qh ts Θ++Γ) Mc o M') (hs:Ms.Sublist M') (k:DrN2 E P id l Γ M Ms Q n1 n1 [] [] Θ (m+1) [] M'):DrN2 E P id l Γ M Ms Q n1 n1 [] [] Θ m [] Mc:=by
  intro Ss CF f hD hΘ hn1 hal hC0 hf0 hCm hfm hsub hlen hmid hq
  have hCl:([]:List MP).length=([]:List Nat).length:=rfl
  refine k Ss (fun i=>if i=m+1 then [] else CF i) (fun i=>if i=m+1 then M' else f i) hD hΘ hn1 hal (by simp[hC0]) (by simp[hf0]) (by simp) (by simp) (fun i hi=>?_) (fun i hi=>?_) (fun i hi=>?_) (fun q hql i hi=>?_)
  · show Ms.Sublist (if i=m+1 then M' else f i)
    split
    · exact hs
    · exact hsub i (by omega)
  · show (if i=m+1 then [] else CF i).length=_
    split
    · exact hCl
    · exact hlen i (by omega)
  · skip
    show MidD2 E P l Γ Ss n1 [] i (if i=m+1 then [] else CF i) (if i=m+1 then M' else f i) (if i+1=m+1 then [] else CF (i+1)) (if i+1=m+1 then M' else f (i+1))
    rw[if_neg (by omega),if_neg (by omega)]
    by_cases e:i=m
    · subst e
      rw[if_pos rfl,if_pos rfl,hfm,hCm]
      refine⟨_,qh ts Θ++Γ,[],h1,fun t S' ht=>?_,fun i' hi'=>?_,fun j' hj'=>absurd hj' (by simp),.inl ⟨h2,fun B hBl hreq=>by
        obtain rfl:=List.eq_nil_of_length_eq_zero hBl
        show StS E P ((qh ts Θ++Γ)++[]) _ o _
        rw[List.append_nil];exact h5⟩⟩
      · rw[zg] at ht
        cases hl2:zR (qh ts Θ) t with
        | none=>rw[hl2] at ht;exact .inr (by simpa using ht)
        | some S''=>
          rw[hl2] at ht
          obtain rfl:S''=S':=by simpa using ht
          obtain⟨hm2,hl3⟩:=vD _ _ _ hl2
          obtain⟨i',oj,b0,b1,b2,b3⟩:=hΘ t S'' hl3
          refine .inl ⟨i',oj,?_,b1,b2,b3⟩
          have:=List.all_eq_true.1 h4 i' (by simp;omega)
          rw[b1] at this
          simp only[Option.bind_some,b2,Bool.or_eq_true] at this
          rcases this with h|h
          · exact h
          · have:=List.all_eq_true.1 h t hm2
            simp[Nat.beq_refl] at this
      · exact List.all_eq_true.1 hc i' (by simpa using hi')
    · rw[if_neg (by omega),if_neg (by omega)]
      exact hmid i (by omega)
  · show (if i=m+1 then [] else CF i)[q]?=_∨_
    by_cases e:i=m+1
    · rw[if_pos e,←hCm]
      rcases hq q hql m (Nat.le_refl _) with h|⟨m',hm',hb'⟩
      · exact .inl h
      · exact .inr ⟨m',by omega,hb'⟩
    · rw[if_neg e]
      exact hq q hql i (by omega)
theorem DrN2.fin0 {id n1 m n:Nat} {l:List Oper} {Θ:Ctx} {Ms Mc:Mem} (hm:P.follows .mixedOrders=true) (hn:n=n1+m) (hap:we l n Γ=true) (htl:am l n=true) (hnl:Nat.ble n l.length=true)
  (k:Ops E P l.toArray Q (l.drop n) (Θ++Γ) Mc):DrN2 E P id l Γ M Ms Q n1 n1 [] [] Θ m [] Mc:=DrN2.fin hm hn hap htl hnl fun bs hbs=>by
 obtain rfl:=List.eq_nil_of_length_eq_zero hbs
 exact k
end
end Go.En
namespace Go.En
open Go.RowKit
section
variable {E : Env} {P : Program} {Γ : Ctx} {M : Mem} {ty : TypeId} {pos : String} {after : Array Edge} {gd : Option (Nat × Bool)} {d : Option Tmp}
 {ops : Array Oper} {Q : Exit → Act → World → Prop} {rest : List Oper} {T T' : TypeId} {x y : Operand} {α : Type} {f : α → VP} {fk : α → List VP} {xs : List α} {k : Nat}
theorem xa (hk:∀y,(fk y).length=k):∀(xs:List α),(xs.flatMap fk).length=xs.length*k
 | []=>by simp
 | a::l=>by rw[List.flatMap_cons,List.length_append,hk,xa hk l,List.length_cons,Nat.succ_mul];omega
theorem vy (hk:∀y,(fk y).length=k):∀(n:Nat) (xs:List α),(xs.flatMap fk).take (n*k)=(xs.take n).flatMap fk
  | 0,xs=>by simp
  | n+1,[]=>by simp
  | n+1,a::l=>by
    rw[List.flatMap_cons,List.take_succ_cons,List.flatMap_cons,Nat.succ_mul,Nat.add_comm,←hk a,List.take_length_add_append,hk a,vy hk n l]
theorem bo (hk:∀y,(fk y).length=k):∀(n:Nat) (xs:List α),(xs.flatMap fk).drop (n*k)=(xs.drop n).flatMap fk
  | 0,xs=>by simp
  | n+1,[]=>by simp
  | n+1,a::l=>by
    rw[List.flatMap_cons,List.drop_succ_cons,Nat.succ_mul,Nat.add_comm,←hk a,List.drop_length_add_append,hk a,bo hk n l]
theorem eA (hk:∀y,(fk y).length=k) (l h:Nat) (xs:List α):((xs.flatMap fk).take (h*k)).drop (l*k)=((xs.take h).drop l).flatMap fk:=by
 rw[vy hk,bo hk]
theorem lm {n:Nat} {Ss:List VP} {xs:List α} (h1:n=xs.length) (h2:Ss=xs.flatMap fk):SlL k n Ss=SlK k fk xs:=by subst h1;subst h2;rfl
theorem OK1.slLK {e:TypeId} {g:Bool} {z:Int} (hT:slB P T=some e) (ht:tyB P e=some (k,g)) (hk:∀y,(fk y).length=k) (hx:Has E Γ M x (SlK k fk xs)) (hy:Has E Γ M y (isI z)) (h:0≤z∧z≤xs.length):
  OK1 E P Γ M ⟨d,.slice T x (some y) none none,ty,pos,after,gd⟩ (SlK k fk (xs.drop z.toNat)):=
 OK1.slG (l:=z.toNat) (h:=xs.length) hT ht hx (fun a w F s cap hc=>by
  simp only[Instr.sliceBounds,Option.map_some,Option.map_none,evI hy a w F s,Sem.run_bind,Sem.run_pure,Result.andThen_ok,xp h.1 h.2]) (by omega) (Nat.le_refl _)
  (lm (by simp) (by rw[eA hk,List.take_length]))
theorem OK1.slHK {e:TypeId} {g:Bool} {z:Int} (hT:slB P T=some e) (ht:tyB P e=some (k,g)) (hk:∀y,(fk y).length=k) (hx:Has E Γ M x (SlK k fk xs)) (hy:Has E Γ M y (isI z)) (h:0≤z∧z≤xs.length):
  OK1 E P Γ M ⟨d,.slice T x none (some y) none,ty,pos,after,gd⟩ (SlK k fk (xs.take z.toNat)):=
 OK1.slG (l:=0) (h:=z.toNat) hT ht hx (fun a w F s cap hc=>by
  simp only[Instr.sliceBounds,Option.map_some,Option.map_none,evI hy a w F s,Sem.run_bind,Sem.run_pure,Result.andThen_ok,xp h.1 (show z≤(cap:Int) by omega)]) (by omega) (by omega)
  (lm (by simp;omega) (by rw[eA hk,List.drop_zero]))
theorem All2.rep {z:List VP} {vs:List Value} {w:World} {F:Blk} (h:All2 z w F vs):∀c,All2 ((List.replicate c z).flatten) w F ((List.replicate c vs).flatten)
 | 0=>trivial
 | c+1=>by rw[List.replicate_succ,List.replicate_succ,List.flatten_cons,List.flatten_cons];exact All2.append h (All2.rep h c)
theorem ct {u:α}:∀c,(List.replicate c u).flatMap fk=(List.replicate c (fk u)).flatten
 | 0=>rfl
 | c+1=>by rw[List.replicate_succ,List.replicate_succ,List.flatMap_cons,List.flatten_cons,ct c]
theorem Ops.makeK {d:Nat} {e:TypeId} {g:Bool} {z:Value} {n c:Nat} {u:α} (hT:slB P T=some e) (ht:tyB P e=some (k,g)) (hz:qe P e=some z) (hZ:∀w F,All2 (fk u) w F z.cells.toList) (hk:∀y,(fk y).length=k) (hby:jQ P e 1024=true)
  (hx:Has E Γ M x (isI (n:Int))) (hy:Has E Γ M y (isI (c:Int))) (hn:n≤c∧c≤4294967296) (hd:Nat.blt d E.n=true)
  (kk:∀b,Ops E P ops Q rest ((d,qW b 0 n c)::Γ) ((some b,zC ((List.replicate c u).flatMap fk))::M)):Ops E P ops Q (⟨some d,.makeSlice T x y,ty,pos,after,none⟩::rest) Γ M:=by
 intro a w F s
 refine wpList_plain rfl fun K hK=>?_
 unfold Oper.wp
 have hm:z.cells.size=k:=by have:=(hZ w F).len;rw[hk] at this;simpa using this.symm
 obtain⟨i,hi,hb⟩:∃i,P.info? e=some i∧i.bytes≤1024:=by
  unfold jQ at hby
  cases hi:P.info? e with
  | none=>simp[hi] at hby
  | some i=>rw[hi] at hby;exact⟨i,rfl,Nat.le_of_ble_eq_true hby⟩
 have hr:(execOp a.eval (⟨some d,.makeSlice T x y,ty,pos,after,none⟩:Oper)).run P w=.ok (.value (.slice (some ⟨w.heap.size,0,none⟩) n c)) { w with heap:=w.heap.push (.cells ((List.replicate c z.cells.toList).flatten).toArray e) }:=by
  simp only[execOp,evI hx a w F s,evI hy a w F s,Sem.run_bind,mJ hT ht hz hi hb hn.1 hn.2 hm,Result.andThen_ok,Sem.run_pure]
 rw[hr]
 have hall:All2 ((List.replicate c u).flatMap fk) w F ((List.replicate c z.cells.toList).flatten):=by rw[ct];exact (hZ w F).rep c
 have s1:=s.alloc (T:=e) hall
 have hd':d<E.n:=by simpa [Nat.blt_eq] using hd
 exact hK _ _ (kk w.heap.size _ _ F (s1.put hd' ⟨rfl,hn.1,by rw[qS];omega⟩))
theorem zAV (hk:∀y,(fk y).length=k) (z:α):∀(j:Nat) (xs:List α),j<xs.length→(xs.flatMap fk).take (j*k)++fk z++(xs.flatMap fk).drop (j*k+k)=(xs.set j z).flatMap fk
  | j,xs,hj=>by
    rw[←Nat.succ_mul,vy hk,bo hk,List.set_eq_take_append_cons_drop,if_pos hj,List.flatMap_append,List.flatMap_cons,List.append_assoc]
theorem Ops.storeK {b i j:Nat} {g:Bool} {T:TypeId} {S:VP} {z:α} [sh:Shape S (fk z)] [o1:Ones (fk z)] (hk:∀y,(fk y).length=k) (hx:Has E Γ M x (qX b (j*k))) (hy:Has E Γ M y S)
  (hM:M[i]?=some (some b,zC (xs.flatMap fk))) (hT:tyB P T=some (k,g)) (hl:j<xs.length) {M':Mem}
  (hM':M.set i (some b,zC ((xs.set j z).flatMap fk))=M') (kk:Ops E P ops Q rest Γ M'):Ops E P ops Q (⟨none,.store T x y,ty,pos,after,none⟩::rest) Γ M:=
 Ops.store (Ss1:=fk z) hx hy hM hT (by rw[hk,Nat.beq_eq]) (by
  rw[Nat.ble_eq,xa hk,←Nat.succ_mul];exact Nat.mul_le_mul_right k hl) (Ss':=(xs.set j z).flatMap fk) (zAV hk z j xs hl) hM' kk
theorem Cv.freezeL {t b o n c i:Nat} {Ss:List VP} (hW:E.W=[]) (ht:zR Γ t=some (qW b o n c)) (hM:M[i]?=some (some b,zC Ss)) (hl:o+n*k≤Ss.length):Cv E Γ M ((t,SlL k n ((Ss.drop o).take (n*k)))::Γ) (M.eraseIdx i):=by
  intro a w F s
  obtain⟨h1,h2,h3,ob,h4,vs,T',rfl,hv⟩:=s.mem.each b _ (List.mem_of_getElem? hM)
  refine⟨fun k=>F k∨k=b,?_⟩
  have hsub:∀k,F k→(F k∨k=b):=fun k hk=>.inl hk
  have hi:i<M.length:=by
    rcases Nat.lt_or_ge i M.length with h|h
    · exact h
    · rw[List.getElem?_eq_none h] at hM;cases hM
  have hMi:M[i]=(some b,zC Ss):=by rw[List.getElem?_eq_getElem hi] at hM;exact Option.some.inj hM
  have hbW:E.w0.heap.size≤b:=h1.resolve_right (by rw[hW];simp)
  obtain⟨e1,e2,e3⟩:=s.slots t _ ht
  · refine { defers:=s.defers,size:=s.size,keep:=s.keep,f0:=fun k hk=>.inl (s.f0 k hk),fnew:=?_,flt:=?_,slots:=?_,mem:=⟨s.mem.apart.sublist (List.eraseIdx_sublist _ _),?_⟩ }
    · rintro k (hk|rfl)
      · exact s.fnew k hk
      · exact .inr ⟨hbW,h2⟩
    · rintro k (hk|rfl)
      · exact s.flt k hk
      · exact h2
    · intro t' S' ht'
      simp only[zR] at ht'
      cases hb:Nat.beq t t' with
      | false=>rw[hb] at ht';exact S'.mono _ _ _ _ _ (s.slots t' S' ht') (fun _ _=>rfl) hsub
      | true=>
        rw[hb] at ht'
        obtain rfl:SlL k n ((Ss.drop o).take (n*k))=S':=by simpa using ht'
        obtain rfl:=Nat.eq_of_beq_eq_true hb
        have hlen:((Ss.drop o).take (n*k)).length=n*k:=by rw[List.length_take,List.length_drop];omega
        refine⟨some ⟨b,o,none⟩,c,e1,e2,e3,hlen,?_⟩
        right
        refine⟨b,o,rfl,.inr rfl,(vs.drop o).take (n*k),All2.mono (fun _ _=>rfl) hsub _ _ ((hv.drop o).take (n*k)),fun j u hj=>?_⟩
        have hjn:j<n*k:=by
          rcases Nat.lt_or_ge j (n*k) with h|h
          · exact h
          · rw[List.getElem?_take_eq_none h] at hj;cases hj
        rw[List.getElem?_take_of_lt hjn,List.getElem?_drop] at hj
        simp[World.cell?,h4,hj]
    · intro k C hk
      obtain⟨j,hji,hj⟩:=List.mem_eraseIdx_iff_getElem?.1 hk
      obtain⟨g1,g2,g3,o2,g4,g5⟩:=s.mem.each k C (List.mem_of_getElem? hj)
      have hkb:k≠b:=by
        intro e;subst e
        have hjl:j<M.length:=by
          rcases Nat.lt_or_ge j M.length with h|h
          · exact h
          · rw[List.getElem?_eq_none h] at hj;cases hj
        have hMj:M[j]=(some k,C):=by rw[List.getElem?_eq_getElem hjl] at hj;exact Option.some.inj hj
        rcases Nat.lt_or_gt_of_ne hji with hlt|hlt
        · have hp:=List.pairwise_iff_getElem.1 s.mem.apart j i hjl hi hlt
          rw[hMi,hMj] at hp;simp at hp
        · have hp:=List.pairwise_iff_getElem.1 s.mem.apart i j hi hjl hlt
          rw[hMi,hMj] at hp;simp at hp
      exact⟨g1,g2,fun h=>h.elim g3 hkb,o2,g4,C.mono _ _ _ _ _ g5 (fun _ _=>rfl) hsub⟩
theorem Cv.freezeK {t b n c i:Nat} {ys:List α} (hk:∀y,(fk y).length=k) (hW:E.W=[]) (ht:zR Γ t=some (qW b 0 n c)) (hM:M[i]?=some (some b,zC (xs.flatMap fk))) (hl:n≤xs.length) (he:xs.take n=ys):
  Cv E Γ M ((t,SlK k fk ys)::Γ) (M.eraseIdx i):=by
 have h:=Cv.freezeL (E:=E) (k:=k) hW ht hM (by rw[xa hk,Nat.zero_add];exact Nat.mul_le_mul_right k hl)
 rw[List.drop_zero,vy hk,he] at h
 rwa [lm (by rw[←he,List.length_take];omega) rfl] at h
def zj (fk:α→List VP) (g:Gr α) (ys:List α):Option Nat×MP:=(g.ob,zC ((ys++g.sp).flatMap fk))
theorem Cv.grow0K (fk:α→List VP):Cv E Γ M Γ (zj fk Gr.nil []::M):=fun a w F s=>
 ⟨F,{ s with mem:=⟨List.Pairwise.cons (fun x hx=>.inl rfl) s.mem.apart,fun b C hb=>by
  rcases List.mem_cons.1 hb with e|hb
  ·cases e
  ·exact s.mem.each b C hb⟩ }⟩
theorem All2.ofFlat {w:World} {F:Blk} {vs:List Value} (hk:∀y,(fk y).length=k) (h:All2 (xs.flatMap fk) w F vs):vs.length=xs.length*k:=by
 rw[←h.len,xa hk]
theorem Ops.appendGK {d i:Nat} {e:TypeId} {g0:Bool} {z:Value} {u:α} {g:Gr α} {ys zs:List α} (hk:∀y,(fk y).length=k) (hk0:0<k) (h1:∀u,Ones (fk u)) (hT:slB P T=some e) (ht:tyB P e=some (k,g0)) (hz:qe P e=some z) (hZ:∀w F,All2 (fk u) w F z.cells.toList) (hby:jQ P e 1024=true)
  (hx:Has E Γ M x (ze g ys.length)) (hM:M[i]?=some (zj fk g ys)) (hy:Has E Γ M y (SlK k fk zs)) (hn':ys.length+zs.length≤4294967296) (h0:0<zs.length) (hd:Nat.blt d E.n=true)
  (kk:∀g':Gr α,Ops E P ops Q rest ((d,ze g' (ys.length+zs.length))::Γ) (M.set i (zj fk g' (ys++zs)))):
  Ops E P ops Q (⟨some d,.call ⟨.builtin .append,#[x,y],#[T,T]⟩,ty,pos,after,none⟩::rest) Γ M:=by
 intro a w F s
 refine wpList_plain rfl fun K hK=>?_
 have hd':d<E.n:=by simpa [Nat.blt_eq] using hd
 obtain⟨a1,cap,e2,g1,g2,g3,g4⟩:=hy a w F s
 have hu:=qw hT
 obtain⟨inf,hi,hb⟩:∃i,P.info? e=some i∧i.bytes≤1024:=by
  unfold jQ at hby
  cases hi:P.info? e with
  | none=>simp[hi] at hby
  | some i=>rw[hi] at hby;exact⟨i,rfl,Nat.le_of_ble_eq_true hby⟩
 have hsz:inf.size=k:=by
  have:=qV (P:=P) (w:=w) ht
  simp[sizeOf,typeInfo,go_sem,hi] at this;exact this
 have hzz:inf.zero=some z:=by unfold qe at hz;rw[hi] at hz;simpa using hz
 have hone:z.cells.size=k:=by have:=(hZ w F).len;rw[hk] at this;simpa using this.symm
 have hzs:∀k,(Builtin.zeroCells z.cells k).toList=(List.replicate k z.cells.toList).flatten:=fun k=>by
  unfold Builtin.zeroCells
  rw[vv rfl]
 have hall:∀c,All2 ((List.replicate c u).flatMap fk) w F ((List.replicate c z.cells.toList).flatten):=fun c=>by rw[ct];exact (hZ w F).rep c
 rcases g4 with g4|⟨b1,off,rfl,hF,vs,hv,hc⟩
 ·omega
 have hlen:=hv.ofFlat hk
 have hnews:∀j u,vs[j]?=some u→w.cell? ((⟨b1,off,none⟩:Addr).add j)=some u:=fun j u hj=>by rw[xN];exact hc j u hj
 have hnl:vs.length=zs.length*inf.size:=by rw[hsz];exact hlen
 -- a new row
 have hfresh:∀(olds:List Value),All2 (ys.flatMap fk) w F olds→∀cp,ys.length+zs.length≤cp→cp≤maxLen→
   K (a.put (some d) (.slice (some ⟨w.heap.size,0,none⟩) (ys.length+zs.length) cp)) { w with heap:=w.heap.push (.cells (olds++vs++(Builtin.zeroCells z.cells (cp-(ys.length+zs.length))).toList).toArray e),drawn:=w.drawn+1 }:=by
  intro olds ho cp h1 h2
  have hcs:All2 ((ys++zs++List.replicate (cp-(ys.length+zs.length)) u).flatMap fk) w F (olds++vs++(Builtin.zeroCells z.cells (cp-(ys.length+zs.length))).toList):=by
   rw[List.flatMap_append,List.flatMap_append,hzs];exact All2.append (All2.append ho hv) (hall _)
  have s1:=(s.adv (Adv.drew w F)).alloc (T:=e) (All2.mono (w:=w) (w':={ w with drawn:=w.drawn+1 }) (fun _ _=>rfl) (fun _ h=>h) _ _ hcs)
  refine hK _ _ (kk ⟨some w.heap.size,cp,List.replicate (cp-(ys.length+zs.length)) u⟩ _ _ F ((s1.swap (i:=i)).put hd' (.inr ⟨_,rfl,rfl,?_,h2⟩)))
  simp;omega
 unfold Oper.wp
 have hml:ys.length+zs.length≤maxLen:=by rw[qS];omega
 rcases hx a w F s with ⟨hob,hyl,e1⟩|⟨b,hob,e1,hcap,hcm0⟩
 ·have hbytes:zs.length*inf.bytes≤281474976710656:=by have:=Nat.mul_le_mul (show zs.length≤4294967296 by omega) hb;omega
  have hy0:ys=[]:=List.eq_nil_of_length_eq_zero hyl
  have hr:=run_append_nil (P:=P) w T ty e inf z hu hi hzz ⟨b1,off,none⟩ zs.length cap vs hnl hnews (by omega) (by omega) hbytes
  have hf:=hfresh [] (by rw[hy0];trivial) (grownCap w zs.length 0 e) (by rw[hyl,Nat.zero_add];exact grownCap_ge _ _ _ _) (grownCap_le_maxLen _ _ _ _ (by omega))
  rw[hyl,Nat.zero_add,List.nil_append] at hf
  have hr2:(execOp a.eval (⟨some d,.call ⟨.builtin .append,#[x,y],#[T,T]⟩,ty,pos,after,none⟩:Oper)).run P w=.ok (.value (.slice (some ⟨w.heap.size,0,none⟩) zs.length (grownCap w zs.length 0 e))) { w with heap:=w.heap.push (.cells (vs++(Builtin.zeroCells z.cells (grownCap w zs.length 0 e-zs.length)).toList).toArray e),drawn:=w.drawn+1 }:=by
   have earr:vs.toArray++Builtin.zeroCells z.cells (grownCap w zs.length 0 e-zs.length)=(vs++(Builtin.zeroCells z.cells (grownCap w zs.length 0 e-zs.length)).toList).toArray:=by apply Array.ext';simp
   simp only[execOp,resolve,invoke,builtin,Sem.run_bind]
   rw[←earr]
   simp[e1,e2,Sem.run_bind,hr]
   first|rfl|exact⟨rfl,rfl⟩|done
  rw[hr2]
  exact hf
 ·have hM':M[i]?=some (some b,zC ((ys++g.sp).flatMap fk)):=by rw[hM];unfold zj;rw[hob]
  obtain⟨o,ho,us,T',rfl,hus⟩:=wZ s hM'
  have husl:=hus.ofFlat hk
  rw[List.length_append] at husl
  have hyk:ys.length*k≤us.length:=by rw[husl];exact Nat.mul_le_mul_right k (by omega)
  rcases Nat.lt_or_ge g.c (ys.length+zs.length) with hg|hg
  ·have holds:All2 (ys.flatMap fk) w F (us.take (ys.length*k)):=by
    have:=hus.take (ys.length*k)
    rwa [vy hk,List.take_left' rfl] at this
   have hcell:∀j u,(us.take (ys.length*k))[j]?=some u→w.cell? ((⟨b,0,none⟩:Addr).add j)=some u:=fun j u hj=>by
    have hjl:j<ys.length*k:=by
     rcases Nat.lt_or_ge j (ys.length*k) with h|h
     ·exact h
     ·rw[List.getElem?_take_eq_none h] at hj;cases hj
    rw[List.getElem?_take_of_lt hjl] at hj
    rw[xN]
    simp only[World.cell?,ho,Nat.zero_add]
    simpa using hj
   have hfit:Builtin.nextslicecap (ys.length+zs.length) g.c*inf.bytes≤281474976710656:=by
    have h1:=nextslicecap_le hg
    have h2:=Nat.mul_le_mul (Nat.le_trans h1 (show 2*(ys.length+zs.length)≤8589934592 by omega)) hb
    omega
   have hr:=run_append_grow (P:=P) w T ty e inf z hu hi hzz ⟨b,0,none⟩ ys.length g.c (us.take (ys.length*k)) (by rw[List.length_take,hsz];omega) hcell ⟨b1,off,none⟩ zs.length cap vs hnl hnews hg (by omega) hfit
   have hf:=hfresh _ holds (grownCap w (ys.length+zs.length) g.c e) (grownCap_ge _ _ _ _) (grownCap_le_maxLen _ _ _ _ hml)
   have hr2:(execOp a.eval (⟨some d,.call ⟨.builtin .append,#[x,y],#[T,T]⟩,ty,pos,after,none⟩:Oper)).run P w=.ok (.value (.slice (some ⟨w.heap.size,0,none⟩) (ys.length+zs.length) (grownCap w (ys.length+zs.length) g.c e))) { w with heap:=w.heap.push (.cells (us.take (ys.length*k)++vs++(Builtin.zeroCells z.cells (grownCap w (ys.length+zs.length) g.c e-(ys.length+zs.length))).toList).toArray e),drawn:=w.drawn+1 }:=by
    have earr:(us.take (ys.length*k)).toArray++vs.toArray++Builtin.zeroCells z.cells (grownCap w (ys.length+zs.length) g.c e-(ys.length+zs.length))=(us.take (ys.length*k)++vs++(Builtin.zeroCells z.cells (grownCap w (ys.length+zs.length) g.c e-(ys.length+zs.length))).toList).toArray:=by apply Array.ext';simp
    simp only[execOp,resolve,invoke,builtin,Sem.run_bind]
    rw[←earr]
    simp[e1,e2,Sem.run_bind,hr]
    first|rfl|exact⟨rfl,rfl⟩|done
   rw[hr2]
   exact hf
  ·have hvone:∀v∈vs,v.oneCell'=true:=hv.one (fun S hS=>by obtain⟨u,_,hu⟩:=List.mem_flatMap.1 hS;exact (h1 u).ones S hu)
   have hsum:ys.length*k+vs.length≤us.length:=by
    rw[hlen,husl,←Nat.add_mul];exact Nat.mul_le_mul_right k (by omega)
   have hst:=run_storeCells_at P b (ys.length*k) T' vs 0 us.toArray w ho (by simp;omega) hvone
   simp only[Nat.add_zero] at hst
   have hfc:=run_firstCells_some (P:=P) w k zs.length ⟨b1,off,none⟩ zs.length cap vs (by rw[hlen]) hnews
   have hr:(Builtin.append_ #[T,T] ty #[.slice (some ⟨b,0,none⟩) ys.length g.c,.slice (some ⟨b1,off,none⟩) zs.length cap]).run P w=.ok (.slice (some ⟨b,0,none⟩) (ys.length+zs.length) g.c) (w.setRow b (us.take (ys.length*k)++vs++us.drop (ys.length*k+vs.length)).toArray):=by
    have hst':(storeCells ⟨b,ys.length*k,none⟩ vs).run P w=.ok () (w.setRow b (us.take (ys.length*k)++vs++us.drop (ys.length*k+vs.length)).toArray):=by simpa using hst
    simp[Builtin.append_,run_underlying hu,sizeOf,typeInfo,hi,hsz,Builtin.lenOf,hg,hfc,Addr.add_lit,hst']
   have hr2:(execOp a.eval (⟨some d,.call ⟨.builtin .append,#[x,y],#[T,T]⟩,ty,pos,after,none⟩:Oper)).run P w=.ok (.value (.slice (some ⟨b,0,none⟩) (ys.length+zs.length) g.c)) (w.setRow b (us.take (ys.length*k)++vs++us.drop (ys.length*k+vs.length)).toArray):=by
    simp only[execOp,resolve,invoke,builtin,Sem.run_bind]
    simp[e1,e2,Sem.run_bind,hr]
   rw[hr2]
   have hF:∀k',F k'→(w.setRow b (us.take (ys.length*k)++vs++us.drop (ys.length*k+vs.length)).toArray).heap[k']?=w.heap[k']?:=fun k' hk'=>xo _ _ _ _ (fun e=>by
    subst e;exact (s.mem.each k' _ (List.mem_of_getElem? hM')).2.2.1 hk')
   have hnew:All2 ((ys++zs++g.sp.drop zs.length).flatMap fk) w F (us.take (ys.length*k)++vs++us.drop (ys.length*k+vs.length)):=by
    have e1:=hus.take (ys.length*k)
    rw[vy hk,List.take_left' rfl] at e1
    have e2:=hus.drop (ys.length*k+vs.length)
    rw[hlen,←Nat.add_mul,bo hk,List.drop_append,List.drop_of_length_le (by omega),List.nil_append,Nat.add_sub_cancel_left] at e2
    rw[List.flatMap_append,List.flatMap_append,hlen,←Nat.add_mul]
    exact (e1.append hv).append e2
   refine hK _ _ (kk ⟨some b,g.c,g.sp.drop zs.length⟩ _ _ F ?_)
   exact (s.write (w':=w.setRow b (us.take (ys.length*k)++vs++us.drop (ys.length*k+vs.length)).toArray) (C':=zC ((ys++zs++g.sp.drop zs.length).flatMap fk)) hM' rfl rfl rfl (jF _ _ _) (fun k hk=>xo _ _ _ _ hk) (setRow_heap _ _ _ _ _ _ ho) ⟨_,T',rfl,All2.mono hF (fun _ h=>h) _ _ hnew⟩).put hd' (.inr ⟨b,rfl,rfl,by simp;omega,hcm0⟩)
theorem vm {w:World} {F:Blk}:(SlK k fk ([]:List α)).h w F (.slice none 0 0):=⟨none,0,rfl,Nat.le_refl _,by rw[qS];omega,by simp,.inl rfl⟩
theorem Cv.freezeGK {t i:Nat} {g:Gr α} {ys:List α} (hk:∀y,(fk y).length=k) (hW:E.W=[]) (ht:zR Γ t=some (ze g ys.length)) (hM:M[i]?=some (zj fk g ys)):Cv E Γ M ((t,SlK k fk ys)::Γ) (M.eraseIdx i):=by
  intro a w F s
  rcases id (s.slots t _ ht) with ⟨hob,hyl,e1⟩|⟨b,hob,e1,hcap,hcm0⟩
  · refine⟨F,{ s with slots:=?_,mem:=⟨s.mem.apart.sublist (List.eraseIdx_sublist _ _),fun k C hk=>s.mem.each k C ((List.eraseIdx_sublist _ _).subset hk)⟩ }⟩
    intro t' S' ht'
    simp only[zR] at ht'
    cases hb:Nat.beq t t' with
    | false=>rw[hb] at ht';exact s.slots t' S' ht'
    | true=>
      rw[hb] at ht'
      obtain rfl:SlK k fk ys=S':=by simpa using ht'
      obtain rfl:=Nat.eq_of_beq_eq_true hb
      rw[e1,List.eq_nil_of_length_eq_zero hyl]
      exact vm
  · have hM':M[i]?=some (some b,zC ((ys++g.sp).flatMap fk)):=by rw[hM];unfold zj;rw[hob]
    have s2:Sat E ((t,qW b 0 ys.length g.c)::Γ) M a w F:=s.wider (fun t' S' ht'=>by
      simp only[zR] at ht'
      cases hb:Nat.beq t t' with
      | false=>rw[hb] at ht';exact s.slots t' S' ht'
      | true=>
        rw[hb] at ht'
        obtain rfl:qW b 0 ys.length g.c=S':=by simpa using ht'
        obtain rfl:=Nat.eq_of_beq_eq_true hb
        exact⟨e1,by omega,hcm0⟩)
    obtain⟨F',s3⟩:=Cv.freezeK (Γ:=(t,qW b 0 ys.length g.c)::Γ) (t:=t) (b:=b) (n:=ys.length) (c:=g.c) hk hW (by simp[zR,ba]) hM' (by simp) (List.take_left' rfl) a w F s2
    refine⟨F',s3.wider fun t' S' ht'=>?_⟩
    simp only[zR] at ht'
    refine s3.slots t' S' ?_
    simp only[zR]
    cases hb:Nat.beq t t' with
    | false=>rw[hb] at ht';simpa using ht'
    | true=>rw[hb] at ht';simpa using ht'
theorem lR {g:Gr α} {ys ys':List α} {r:Mem} (h:ys=ys'):(zj fk g ys::r:Mem)=zj fk g ys'::r:=h▸rfl
theorem ln {xs xs':List α} (h:xs=xs'):SlK k fk xs=SlK k fk xs':=h▸rfl
end
end Go.En
namespace Go.En
open Go.RowKit
section
variable {E : Env} {P : Program} {Γ : Ctx} {M : Mem} {ty : TypeId} {pos : String} {after : Array Edge} {gd : Option (Nat × Bool)} {d : Option Tmp}
 {T T' : TypeId} {x y : Operand} {α : Type} {fk : α → List VP} {xs : List α} {k : Nat}
theorem Has.cWK : Has E Γ M (.const (.slice none 0 0)) (SlK k fk ([]:List α)):=fun _ _ _ _=>vm
theorem ixo2 {n:Nat}:0+n*2=n*2:=by omega
theorem OK1.loadK {b i j:Nat} {x':α} (hk:∀y,(fk y).length=k) (hx:Has E Γ M x (qX b (j*k))) (hM:M[i]?=some (some b,zC (xs.flatMap fk))) (hT:tyB P T=some (k,true)) (hS:xs[j]?=some x'):
  OK1 E P Γ M ⟨d,.load T x,ty,pos,after,gd⟩ (zk (fk x')):=
 OK1.load hx hM hT (by
  have hj:j<xs.length:=by
   rcases Nat.lt_or_ge j xs.length with h|h
   ·exact h
   ·rw[List.getElem?_eq_none h] at hS;cases hS
  rw[Nat.ble_eq,xa hk,←Nat.succ_mul];exact Nat.mul_le_mul_right k hj) (aF xs j x' (fun y _=>hk y) hS)
theorem Cv.winGr {t b n c i:Nat} (ht:zR Γ t=some (qW b 0 n c)) (hM:M[i]?=some (some b,zC (xs.flatMap fk))) (hn:n≤xs.length) (hc:xs.length=c):
    Cv E Γ M ((t,ze (⟨some b,c,xs.drop n⟩:Gr α) n)::Γ) (M.set i (zj fk ⟨some b,c,xs.drop n⟩ (xs.take n))):=fun a w F s=>by
  have hset:M.set i (zj fk ⟨some b,c,xs.drop n⟩ (xs.take n))=M:=by
    refine set_self ?_
    rw[hM];unfold zj;simp only[List.take_append_drop]
  rw[hset]
  refine⟨F,s.wider fun t' S' ht'=>?_⟩
  simp only[zR] at ht'
  cases hb:Nat.beq t t' with
  | false=>rw[hb] at ht';exact s.slots t' S' ht'
  | true=>
    rw[hb] at ht'
    obtain rfl:ze (⟨some b,c,xs.drop n⟩:Gr α) n=S':=by simpa using ht'
    obtain rfl:=Nat.eq_of_beq_eq_true hb
    obtain⟨e1,e2,e3⟩:=s.slots _ _ ht
    exact .inr ⟨b,rfl,e1,by show n+(xs.drop n).length=c;rw[List.length_drop];omega,e3⟩
end
abbrev zc (p:Bool×List Nat):List VP:=[isB p.1,zD p.2]
theorem zN : ∀p,(zc p).length=2:=fun _=>rfl
abbrev isZs (xs:List (Bool×List Nat)):VP:=SlK 2 zc xs
end Go.En
namespace Go.En
open Go.RowKit
def dI {ι:Type} (P:Program) (As:ι→List VP) (R:ι→VP):VP:=
 ⟨fun w F v=>∃(g:FuncId) (first cap:List Value) (Bs Cs:List VP),v=.func (.func g) first.toArray cap.toArray∧(∀i,Ctr P g (Bs++As i++Cs) (R i))∧All2 Bs w F first∧All2 Cs w F cap,
 fun w w' F F' v h h1 h2=>by
  obtain⟨g,first,cap,Bs,Cs,e,hC,hB,hc⟩:=h
  exact⟨g,first,cap,Bs,Cs,e,hC,All2.mono h1 h2 _ _ hB,All2.mono h1 h2 _ _ hc⟩⟩
instance {ι:Type} {P:Program} {As:ι→List VP} {R:ι→VP}:One (dI P As R):=⟨fun w F v h=>by obtain⟨g,first,cap,Bs,Cs,e,_⟩:=h;rw[e];rfl⟩
instance {ι:Type} {P:Program} {As:ι→List VP} {R:ι→VP}:Shape (dI P As R) [dI P As R]:=.of_one inferInstance
instance {Ss:List VP}:One (aZ Ss):=⟨fun w F v h=>by obtain⟨b,off,e,_⟩:=h;rw[e];rfl⟩
instance {Ss:List VP}:Shape (aZ Ss) [aZ Ss]:=.of_one inferInstance
section
variable {E : Env} {P : Program} {Γ : Ctx} {M : Mem} {ty : TypeId} {pos : String} {after : Array Edge} {gd : Option (Nat × Bool)} {d : Option Tmp}
 {ops : Array Oper} {Q : Exit → Act → World → Prop} {rest : List Oper} {T T' : TypeId} {x y : Operand} {α ι : Type} {As : ι → List VP} {R : ι → VP}
theorem Has.fn {g:FuncId} (h:∀i,Ctr P g (As i) (R i)):Has E Γ M (.func g) (dI P As R):=
 fun a w F s=>⟨g,[],[],[],[],rfl,fun i=>by rw[List.nil_append,List.append_nil];exact h i,trivial,trivial⟩
theorem OK1.makeFn {g:FuncId} {xs ys:List Operand} {Bs Cs:List VP} (h:∀i,Ctr P g (Bs++As i++Cs) (R i)) (hx:HasL E Γ M xs Bs) (hy:HasL E Γ M ys Cs):
  OK1 E P Γ M ⟨d,.makeFunc (.func g) xs.toArray ys.toArray,ty,pos,after,gd⟩ (dI P As R):=
 .run fun a w F s=>by
  refine⟨.func (.func g) (xs.map a.eval).toArray (ys.map a.eval).toArray,?_,g,_,_,Bs,Cs,rfl,h,hx.all s,hy.all s⟩
  simp[execOp,Instr.makeFunc,go_sem]
theorem OK1.callV {xs:List Operand} {ts:Array TypeId} (i:ι) (hf:Has E Γ M x (dI P As R)) (hx:HasL E Γ M xs (As i)):
  OK1 E P Γ M ⟨d,.call ⟨.value x,xs.toArray,ts⟩,ty,pos,after,gd⟩ (R i):=by
 intro a w F s K Q hK
 unfold Oper.wp
 obtain⟨g,first,cap,Bs,Cs,e,hC,hB,hc⟩:=hf a w F s
 have hr:(execOp a.eval (⟨d,.call ⟨.value x,xs.toArray,ts⟩,ty,pos,after,gd⟩:Oper)).run P w=.ok (.enter g (first++xs.map a.eval++cap).toArray) w:=by
  have:=jh (hC i).1 (first++xs.map a.eval++cap).toArray w
  simp only[execOp,resolve,Sem.run_bind,e,Deferred.ofValue,Sem.run_pure,Result.andThen_ok,invoke]
  simpa [go_sem] using this
 rw[hr]
 refine ((hC i).2 w F _ s.flt ((hB.append (hx.all s)).append hc)).mono ?_
 rintro e w' ⟨v,rfl,hk,hv⟩
 exact hK v w' _ ⟨hk,fun b hb=>.inl hb,fun b hb=>hb⟩ hv
theorem Cv.freezeBox {t b i:Nat} {Ss:List VP} (hW:E.W=[]) (ht:zR Γ t=some (qX b 0)) (hM:M[i]?=some (some b,zC Ss)):Cv E Γ M ((t,aZ Ss)::Γ) (M.eraseIdx i):=by
  intro a w F s
  obtain⟨h1,h2,h3,ob,h4,vs,T',rfl,hv⟩:=s.mem.each b _ (List.mem_of_getElem? hM)
  refine⟨fun k=>F k∨k=b,?_⟩
  have hsub:∀k,F k→(F k∨k=b):=fun k hk=>.inl hk
  have hi:i<M.length:=by
    rcases Nat.lt_or_ge i M.length with h|h
    · exact h
    · rw[List.getElem?_eq_none h] at hM;cases hM
  have hMi:M[i]=(some b,zC Ss):=by rw[List.getElem?_eq_getElem hi] at hM;exact Option.some.inj hM
  have hbW:E.w0.heap.size≤b:=h1.resolve_right (by rw[hW];simp)
  have e1:a.tmps.getD t undef=.pointer (some ⟨b,0,none⟩):=s.slots t _ ht
  refine { defers:=s.defers,size:=s.size,keep:=s.keep,f0:=fun k hk=>.inl (s.f0 k hk),fnew:=?_,flt:=?_,slots:=?_,mem:=⟨s.mem.apart.sublist (List.eraseIdx_sublist _ _),?_⟩ }
  · rintro k (hk|rfl)
    · exact s.fnew k hk
    · exact .inr ⟨hbW,h2⟩
  · rintro k (hk|rfl)
    · exact s.flt k hk
    · exact h2
  · intro t' S' ht'
    simp only[zR] at ht'
    cases hb:Nat.beq t t' with
    | false=>rw[hb] at ht';exact S'.mono _ _ _ _ _ (s.slots t' S' ht') (fun _ _=>rfl) hsub
    | true=>
      rw[hb] at ht'
      obtain rfl:aZ Ss=S':=by simpa using ht'
      obtain rfl:=Nat.eq_of_beq_eq_true hb
      refine⟨b,0,e1,.inr rfl,vs,All2.mono (fun _ _=>rfl) hsub _ _ hv,fun j u hj=>?_⟩
      simp[World.cell?,h4,hj]
  · intro k C hk
    obtain⟨j,hji,hj⟩:=List.mem_eraseIdx_iff_getElem?.1 hk
    obtain⟨g1,g2,g3,o2,g4,g5⟩:=s.mem.each k C (List.mem_of_getElem? hj)
    have hkb:k≠b:=by
      intro e;subst e
      have hjl:j<M.length:=by
        rcases Nat.lt_or_ge j M.length with h|h
        · exact h
        · rw[List.getElem?_eq_none h] at hj;cases hj
      have hMj:M[j]=(some k,C):=by rw[List.getElem?_eq_getElem hjl] at hj;exact Option.some.inj hj
      rcases Nat.lt_or_gt_of_ne hji with hlt|hlt
      · have hp:=List.pairwise_iff_getElem.1 s.mem.apart j i hjl hi hlt
        rw[hMi,hMj] at hp;simp at hp
      · have hp:=List.pairwise_iff_getElem.1 s.mem.apart i j hi hjl hlt
        rw[hMi,hMj] at hp;simp at hp
    exact⟨g1,g2,fun h=>h.elim g3 hkb,o2,g4,C.mono _ _ _ _ _ g5 (fun _ _=>rfl) hsub⟩
end
end Go.En
