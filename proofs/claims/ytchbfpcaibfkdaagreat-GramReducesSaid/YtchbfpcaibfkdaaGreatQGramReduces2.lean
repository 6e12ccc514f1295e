/- Rules and contracts, part 2 of 6. -/
import Derived.Test.YtchbfpcaibfkdaaGreatQGramReduces1
import Derived.Laws.MathBits
import Derived.ProofKit
import Derived.OpenShut
import Derived.ChangeOld
import Derived.Carry
import Derived.ChangeSlices
import Derived.Test.YtchbfpcaibfkdaaGreatProg
import Derived.KernelRfl
set_option linter.unusedVariables false
namespace Go.En
open Go.RowKit
section
variable {E : Env} {P : Program} {Γ : Ctx} {M : Mem} {ty : TypeId} {pos : String} {after : Array Edge} {gd : Option (Nat × Bool)} {d : Option Tmp}
 {ops : Array Oper} {Q : Exit → Act → World → Prop} {rest : List Oper} {T T' : TypeId} {x y : Operand} {α : Type} {f : α → VP} {fk : α → List VP} {xs : List α} {k : Nat}
theorem Sat.freezeBw {a:Act} {w:World} {F:Blk} {i b:Nat} {Ss:List VP} (s:Sat E Γ M a w F) (hW:∀k,k∈E.W→∃C,(some k,C)∈M.eraseIdx i) (hM:M[i]?=some (some b,zC Ss)):
  Sat E Γ (M.eraseIdx i) a w (fun k=>F k∨k=b)∧∃vs T',w.heap[b]?=some (.cells (List.toArray vs) T' (0,0))∧All2 Ss w (fun k=>F k∨k=b) vs:=by
 obtain⟨h1,h2,h3,ob,h4,vs,T',rfl,hv⟩:=s.mem.each b _ (List.mem_of_getElem? hM)
 have hsub:∀k,F k→(F k∨k=b):=fun k hk=>.inl hk
 have hi:i<M.length:=by
  rcases Nat.lt_or_ge i M.length with h|h
  ·exact h
  ·rw[List.getElem?_eq_none h] at hM;cases hM
 have hMi:M[i]=(some b,zC Ss):=by rw[List.getElem?_eq_getElem hi] at hM;exact Option.some.inj hM
 have hne:∀k C,(some k,C)∈M.eraseIdx i→k≠b:=fun k C hk e=>by
  subst e
  obtain⟨j,hji,hj⟩:=List.mem_eraseIdx_iff_getElem?.1 hk
  have hjl:j<M.length:=by
   rcases Nat.lt_or_ge j M.length with h|h
   ·exact h
   ·rw[List.getElem?_eq_none h] at hj;cases hj
  have hMj:M[j]=(some k,C):=by rw[List.getElem?_eq_getElem hjl] at hj;exact Option.some.inj hj
  rcases Nat.lt_or_gt_of_ne hji with hlt|hlt
  ·have hp:=List.pairwise_iff_getElem.1 s.mem.apart j i hjl hi hlt
   rw[hMi,hMj] at hp;simp at hp
  ·have hp:=List.pairwise_iff_getElem.1 s.mem.apart i j hi hjl hlt
   rw[hMi,hMj] at hp;simp at hp
 have hbW:E.w0.heap.size≤b:=h1.resolve_right fun h=>by
  obtain⟨C,hC⟩:=hW b h
  exact hne b C hC rfl
 refine⟨?_,vs,T',h4,All2.mono (fun _ _=>rfl) hsub _ _ hv⟩
 refine { defers:=s.defers,size:=s.size,keep:=s.keep,f0:=fun k hk=>.inl (s.f0 k hk),fnew:=?_,flt:=?_,slots:=fun t S ht=>S.mono _ _ _ _ _ (s.slots t S ht) (fun _ _=>rfl) hsub,mem:=⟨s.mem.apart.sublist (List.eraseIdx_sublist _ _),?_⟩ }
 ·rintro k (hk|rfl)
  ·exact s.fnew k hk
  ·exact .inr ⟨hbW,h2⟩
 ·rintro k (hk|rfl)
  ·exact s.flt k hk
  ·exact h2
 ·intro k C hk
  obtain⟨j,hji,hj⟩:=List.mem_eraseIdx_iff_getElem?.1 hk
  obtain⟨g1,g2,g3,o2,g4,g5⟩:=s.mem.each k C (List.mem_of_getElem? hj)
  have hkb:=hne k C hk
  exact⟨g1,g2,fun h=>h.elim g3 hkb,o2,g4,C.mono _ _ _ _ _ g5 (fun _ _=>rfl) hsub⟩
theorem noW {i:Nat} (hW:E.W=[]):∀k,k∈E.W→∃C,(some k,C)∈M.eraseIdx i:=fun k h=>by rw[hW] at h;cases h
theorem Sat.drop1 {a:Act} {w:World} {F:Blk} {i:Nat} (s:Sat E Γ M a w F):Sat E Γ (M.eraseIdx i) a w F:=
 {s with mem:=⟨s.mem.apart.sublist (List.eraseIdx_sublist _ _),fun k C hk=>s.mem.each k C ((List.eraseIdx_sublist _ _).subset hk)⟩ }
theorem Sat.freezeGrw {a:Act} {w:World} {F:Blk} {i n:Nat} {g:Gr α} {Ts Us:List VP} (s:Sat E Γ M a w F) (hW:∀k,k∈E.W→∃C,(some k,C)∈M.eraseIdx i) (hM:M[i]?=some (g.ob,zC Ts)) (hl:n*k≤Ts.length) (he:Ts.take (n*k)=Us):
    ∃F',(∀b,F b→F' b)∧Sat E Γ (M.eraseIdx i) a w F'∧∀v,(ze g n).h w F v→(SlL k n Us).h w F' v:=by
  cases hob:g.ob with
  | none=>
    refine⟨F,fun _ h=>h,s.drop1,?_⟩
    rintro v (⟨_,rfl,rfl⟩|⟨b,hb,_⟩)
    · subst he;exact⟨none,0,rfl,Nat.le_refl _,by rw[qS];omega,by simp,.inl rfl⟩
    · rw[hob] at hb;cases hb
  | some b=>
    rw[hob] at hM
    obtain⟨s',vs,T',hb,hv⟩:=s.freezeBw hW hM
    refine⟨_,fun _ h=>.inl h,s',?_⟩
    rintro v (⟨h0,_⟩|⟨b',hb',rfl,h1,h2⟩)
    · rw[hob] at h0;cases h0
    · obtain rfl:b=b':=by rw[hob] at hb';exact Option.some.inj hb'
      have hvl:=hv.len
      refine⟨_,_,rfl,by omega,h2,by rw[←he,List.length_take];omega,.inr ⟨b,0,rfl,.inr rfl,vs.take (n*k),by rw[←he];exact hv.take _,fun j u hj=>?_⟩⟩
      have hjn:j<n*k:=by
        rcases Nat.lt_or_ge j (n*k) with h|h
        · exact h
        · rw[List.getElem?_take_eq_none h] at hj;cases hj
      rw[List.getElem?_take_of_lt hjn] at hj
      simp[World.cell?,hb,hj]
theorem Sat.memSet {a:Act} {w:World} {F:Blk} {i b:Nat} {C C':MP} (s:Sat E Γ M a w F) (hM:M[i]?=some (some b,C)) (h:∀o,C.h w F o→C'.h w F o):Sat E Γ (M.set i (some b,C')) a w F:=by
 obtain⟨h1,h2,h3,o,ho,hC⟩:=s.mem.each b C (List.mem_of_getElem? hM)
 exact s.write hM rfl rfl rfl rfl (fun _ _=>rfl) ho (h o hC)
theorem All2.setAt : ∀{Ss:List VP} {w:World} {F:Blk} {vs:List Value} (o:Nat) {S S':VP},All2 Ss w F vs→Ss[o]?=some S→(∀v,S.h w F v→S'.h w F v)→All2 (Ss.set o S') w F vs
  | [],_,_,_,o,_,_,_,h,_=>by simp at h
  | S0::Ss,_,_,v::vs,0,S,S',h,e,k=>by
    obtain rfl:S0=S:=by simpa using e
    exact⟨k v h.1,h.2⟩
  | S0::Ss,_,_,v::vs,o+1,S,S',h,e,k=>⟨h.1,All2.setAt o h.2 (by simpa using e) k⟩
  | _::_,_,_,[],_,_,_,h,_,_=>h.elim
theorem Cv.growF {i b o:Nat} {Ss Ts:List VP} (α:Type) (hM:M[i]?=some (some b,zC Ss)) (ho:Ss[o]?=some zi) (hT:Ss.set o (ze (Gr.nil:Gr α) 0)=Ts):Cv E Γ M Γ ((none,zC [])::M.set i (some b,zC Ts)):=fun a w F s=>by
 have s1:Sat E Γ (M.set i (some b,zC Ts)) a w F:=s.memSet hM fun ob ⟨vs,ty,e,h⟩=>⟨vs,ty,e,by
  rw[←hT]
  exact h.setAt o ho (fun v hv=>by rw[show v=.slice none 0 0 from hv];exact gr0)⟩
 exact⟨F,{ s1 with mem:=⟨List.Pairwise.cons (fun x hx=>.inl rfl) s1.mem.apart,fun b C hb=>by
  rcases List.mem_cons.1 hb with e|hb
  ·cases e
  ·exact s1.mem.each b C hb⟩ }⟩
theorem Cv.freezeFw {i j b o n:Nat} {g:Gr α} {Ss Ss' Ts Us:List VP} (hW:∀k,k∈E.W→∃C,(some k,C)∈M.eraseIdx i) (hM:M[i]?=some (g.ob,zC Ts)) (hM2:(M.eraseIdx i)[j]?=some (some b,zC Ss)) (ho:Ss[o]?=some (ze g n)) (hl:n*k≤Ts.length) (he:Ts.take (n*k)=Us)
    (hT:Ss.set o (SlL k n Us)=Ss'):Cv E Γ M Γ ((M.eraseIdx i).set j (some b,zC Ss')):=fun a w F s=>by
  obtain⟨F',hsub,s',hv⟩:=s.freezeGrw hW hM hl he
  refine⟨F',?_⟩
  -- the field's cell as it was known before
  obtain⟨_,_,_,ob,hob,vs,ty,e,hvs⟩:=s.drop1 (i:=i) |>.mem.each b _ (List.mem_of_getElem? hM2)
  obtain⟨_,_,_,ob2,hob2,vs2,ty2,e2,hvs2⟩:=s'.mem.each b _ (List.mem_of_getElem? hM2)
  have hsame:∀o',w.heap[b]?=some o'→o'=ob:=fun o' h=>by rw[hob] at h;exact (Option.some.inj h).symm
  refine s'.write hM2 rfl rfl rfl rfl (fun _ _=>rfl) hob ⟨vs,ty,e,?_⟩
  rw[←hT]
  obtain⟨v,hv1,hv2⟩:=hvs.get o _ ho
  have h3:All2 Ss w F' vs:=All2.mono (fun _ _=>rfl) hsub _ _ hvs
  -- place by place
  have key:∀{Ss:List VP} {vs:List Value} (o:Nat),All2 Ss w F' vs→vs[o]?=some v→All2 (Ss.set o (SlL k n Us)) w F' vs:=by
    intro Ss
    induction Ss with
    | nil=>intro vs o h _;simpa using h
    | cons S0 Ss ih=>
      intro vs o h e
      cases vs with
      | nil=>exact h.elim
      | cons u us=>
        cases o with
        | zero=>
          obtain rfl:u=v:=by simpa using e
          exact⟨hv u hv2,h.2⟩
        | succ o=>exact⟨h.1,ih o h.2 (by simpa using e)⟩
  exact key o h3 hv1
theorem Cv.freezeF {i j b o n:Nat} {g:Gr α} {Ss Ss' Ts Us:List VP} (hW:E.W=[]) (hM:M[i]?=some (g.ob,zC Ts)) (hM2:(M.eraseIdx i)[j]?=some (some b,zC Ss)) (ho:Ss[o]?=some (ze g n)) (hl:n*k≤Ts.length) (he:Ts.take (n*k)=Us)
  (hT:Ss.set o (SlL k n Us)=Ss'):Cv E Γ M Γ ((M.eraseIdx i).set j (some b,zC Ss')):=Cv.freezeFw (noW hW) hM hM2 ho hl he hT
theorem nM {g:Gr α} {ys:List α}:(((ys++g.sp).map f).take (ys.length*1))=ys.map f:=by rw[Nat.mul_one,List.map_append,List.take_left' (by simp)]
theorem rr {g:Gr α} {ys:List α}:ys.length*1≤((ys++g.sp).map f).length:=by simp
theorem wB {g:Gr α} {ys:List α} (hk:∀y,(fk y).length=k):(((ys++g.sp).flatMap fk).take (ys.length*k))=ys.flatMap fk:=by rw[vy hk,List.take_left' rfl]
theorem aT {g:Gr α} {ys:List α} (hk:∀y,(fk y).length=k):ys.length*k≤((ys++g.sp).flatMap fk).length:=by rw[xa hk,List.length_append];exact Nat.mul_le_mul_right k (by omega)
end
end Go.En
namespace Go.En
open Go.RowKit
section
variable {E : Env} {P : Program} {Γ : Ctx} {M : Mem} {ty : TypeId} {pos : String} {after : Array Edge} {gd : Option (Nat × Bool)} {d : Option Tmp}
 {ops : Array Oper} {Q : Exit → Act → World → Prop} {rest : List Oper} {T T' : TypeId} {x y : Operand} {α : Type} {f : α → VP} {fk : α → List VP} {xs : List α} {k : Nat}
theorem np {w:World} {e:TypeId} {inf:TypeInfo} {base b2:Option Addr} {n c c2:Nat} (hu:P.underlying T=some (.slice e)) (hi:P.info? e=some inf) (hn:n≤c):
  (Builtin.append_ #[T,T] ty #[.slice base n c,.slice b2 0 c2]).run P w=.ok (.slice base n c) w:=by
 cases base <;> cases b2 <;> simp[Builtin.append_,run_underlying hu,sizeOf,typeInfo,hi,Builtin.lenOf,Builtin.firstCells,loadCells,loadCellsFrom,storeCells,hn]
theorem Ops.appendGK0 {d i:Nat} {e:TypeId} {g0:Bool} {z:Value} {u:α} {g:Gr α} {ys zs:List α} (hk:∀y,(fk y).length=k) (hk0:0<k) (h1:∀u,Ones (fk u)) (hT:slB P T=some e) (ht:tyB P e=some (k,g0)) (hz:qe P e=some z) (hZ:∀w F,All2 (fk u) w F z.cells.toList) (hby:jQ P e 1024=true)
  (hx:Has E Γ M x (ze g ys.length)) (hM:M[i]?=some (zj fk g ys)) (hy:Has E Γ M y (SlK k fk zs)) (hn':ys.length+zs.length≤4294967296) (hd:Nat.blt d E.n=true)
  (kk:∀g':Gr α,Ops E P ops Q rest ((d,ze g' (ys.length+zs.length))::Γ) (M.set i (zj fk g' (ys++zs)))):
  Ops E P ops Q (⟨some d,.call ⟨.builtin .append,#[x,y],#[T,T]⟩,ty,pos,after,none⟩::rest) Γ M:=by
 rcases Nat.eq_zero_or_pos zs.length with h0|h0
 ·obtain rfl:zs=[]:=List.eq_nil_of_length_eq_zero h0
  intro a w F s
  refine wpList_plain rfl fun K hK=>?_
  have hd':d<E.n:=by simpa [Nat.blt_eq] using hd
  obtain⟨a1,cap,e2,g1,g2,g3,g4⟩:=hy a w F s
  have hu:=qw hT
  obtain⟨inf,hi⟩:∃i,P.info? e=some i:=by
   unfold jQ at hby
   cases hi:P.info? e with
   | none=>simp[hi] at hby
   | some i=>exact⟨i,rfl⟩
  have hset:M.set i (zj fk g (ys++[]))=M:=set_self (by rw[hM,List.append_nil])
  have kk1:=kk g
  rw[hset] at kk1
  have hval:=hx a w F s
  obtain⟨base,c,e1,hnc⟩:∃base c,a.eval x=.slice base ys.length c∧ys.length≤c:=by
   rcases hval with ⟨_,hyl,e1⟩|⟨b,_,e1,h,_⟩
   ·exact⟨none,0,by rw[e1,hyl],by omega⟩
   ·exact⟨_,_,e1,by omega⟩
  have hr:=np (P:=P) (T:=T) (ty:=ty) (w:=w) (base:=base) (b2:=a1) (n:=ys.length) (c:=c) (c2:=cap) hu hi hnc
  unfold Oper.wp
  have hr2:(execOp a.eval (⟨some d,.call ⟨.builtin .append,#[x,y],#[T,T]⟩,ty,pos,after,none⟩:Oper)).run P w=.ok (.value (.slice base ys.length c)) w:=by
   simp only[execOp,resolve,invoke,builtin,Sem.run_bind]
   simp[e1,e2,Sem.run_bind,hr]
  rw[hr2]
  refine hK _ _ (kk1 _ _ F (s.put hd' ?_))
  rw[←e1];exact hval
 ·exact Ops.appendGK hk hk0 h1 hT ht hz hZ hby hx hM hy hn' h0 hd kk
theorem Cv.winGrK {t b n c i:Nat} {ys:List α} (ht:zR Γ t=some (qW b 0 n c)) (hM:M[i]?=some (some b,zC (xs.flatMap fk))) (hn:n≤xs.length) (hc:xs.length=c) (hy:xs.take n=ys):
  Cv E Γ M ((t,ze (⟨some b,c,xs.drop n⟩:Gr α) ys.length)::Γ) (M.set i (zj fk ⟨some b,c,xs.drop n⟩ ys)):=by
 have e:ys.length=n:=by rw[←hy,List.length_take];omega
 rw[e,←hy]
 exact Cv.winGr ht hM hn hc
theorem Cv.winGrM {t b n c i:Nat} {ys:List α} (ht:zR Γ t=some (qW b 0 n c)) (hM:M[i]?=some (some b,zC (xs.map f))) (hn:n≤xs.length) (hc:xs.length=c) (hy:xs.take n=ys):
    Cv E Γ M ((t,ze (⟨some b,c,xs.drop n⟩:Gr α) ys.length)::Γ) (M.set i (grM f ⟨some b,c,xs.drop n⟩ ys)):=fun a w F s=>by
  subst hy
  have e:(xs.take n).length=n:=by rw[List.length_take];omega
  rw[e]
  have hset:M.set i (grM f ⟨some b,c,xs.drop n⟩ (xs.take n))=M:=by
    refine set_self ?_
    rw[hM];unfold grM;simp only[List.take_append_drop]
  rw[hset]
  refine⟨F,s.wider fun t' S' ht'=>?_⟩
  simp only[zR] at ht'
  cases hb:Nat.beq t t' with
  | false=>rw[hb] at ht';exact s.slots t' S' ht'
  | true=>
    rw[hb] at ht'
    obtain rfl:ze (⟨some b,c,xs.drop n⟩:Gr α) n=S':=by simpa using ht'
    obtain rfl:=Nat.eq_of_beq_eq_true hb
    obtain⟨e1,e2,e3⟩:=s.slots _ _ ht
    exact .inr ⟨b,rfl,e1,by show n+(xs.drop n).length=c;rw[List.length_drop];omega,e3⟩
theorem Cv.freezeGn {t i n:Nat} {g:Gr α} {ys:List α} (hW:E.W=[]) (ht:zR Γ t=some (ze g n)) (hM:M[i]?=some (grM f g ys)) (hn:n=ys.length):Cv E Γ M ((t,SlM f ys)::Γ) (M.eraseIdx i):=by
 subst hn;exact Cv.freezeG hW ht hM
end
end Go.En
namespace Go.En
open Go.RowKit
section
variable {E : Env} {P : Program} {Γ : Ctx} {M : Mem} {ty : TypeId} {pos : String} {after : Array Edge}
 {ops : Array Oper} {Q : Exit → Act → World → Prop} {rest : List Oper}
theorem zFU {l:List Oper} {i fuel:Nat} {o:Oper} {listed:Array Bool} {a:Act} {w:World} (hr:∀j,j∈Region.ready .any l.toArray listed→j=i) (hi:i∈Region.ready .any l.toArray listed) (ho:l[i]?=some o)
  (hl:wpList P l.toArray Q (o::rest) a w) (hn:∀a w,wpList P l.toArray Q rest a w→wpAny P .any l.toArray Q fuel (listed.setIfInBounds i true) a w):wpAny P .any l.toArray Q (fuel+1) listed a w:=by
 refine⟨fun h0=>?_,fun j hj=>?_⟩
 ·rw[h0] at hi;simp at hi
 ·obtain rfl:=hr j hj
  have ho':l.toArray[j]?=some o:=by simpa using ho
  unfold wpOp
  rw[ho']
  simp only[]
  unfold wpList at hl
  split
  ·rename_i hw;rw[if_pos hw] at hl;exact hl.imp (Oper.wp_mono hn) id
  ·rename_i hw;rw[if_neg hw] at hl;exact hn _ _ hl
end
end Go.En
namespace Go.En
open Go.RowKit
section
variable {E : Env} {P : Program} {Γ : Ctx} {M : Mem} {ty : TypeId} {pos : String} {after : Array Edge}
 {ops : Array Oper} {Q : Exit → Act → World → Prop} {rest : List Oper}
def OKY (E:Env) (P:Program) (Γ:Ctx) (M:Mem) (o:Oper) (S:VP):Prop:=
 ∀a w F,Sat E Γ M a w F→∃v,(∀w',(execOp a.eval o).run P w'=.ok (.value v) w')∧S.h w F v
theorem OKY.mv {d:Option Tmp} {x:Operand} {S:VP} (h:Has E Γ M x S):OKY E P Γ M ⟨d,.move x,ty,pos,after,none⟩ S:=fun a w F s=>⟨_,fun _=>rfl,h a w F s⟩
theorem OKY.as {d:Option Tmp} {x:Operand} {S:VP} (h:Has E Γ M x S):OKY E P Γ M ⟨d,.assign x,ty,pos,after,none⟩ S:=fun a w F s=>⟨_,fun _=>rfl,h a w F s⟩
theorem OKY.ext {d:Option Tmp} {x:Operand} {Ss:List VP} {S:VP} {i:Nat} (hx:Has E Γ M x (zZ Ss)) (hi:Ss[i]?=some S):OKY E P Γ M ⟨d,.extract x i,ty,pos,after,none⟩ S:=fun a w F s=>by
 obtain⟨vs,e,h⟩:=hx a w F s
 obtain⟨v,hv,hS⟩:=h.get i S hi
 exact⟨v,fun w'=>by simp only[execOp,e];simp[Instr.extract,hv,go_sem],hS⟩
theorem OKY.nilc {d:Option Tmp} {x:Operand} {b o:Nat} (h:Has E Γ M x (qX b o)):OKY E P Γ M ⟨d,.nilCheck x,ty,pos,after,none⟩ (qX b o):=fun a w F s=>by
 have e:a.eval x=.pointer (some ⟨b,o,none⟩):=h a w F s
 exact⟨.pointer (some ⟨b,o,none⟩),fun w'=>by simp only[execOp,e];rfl,rfl⟩
theorem OK1.nilc {d:Option Tmp} {gd:Option (Nat×Bool)} {x:Operand} {b o:Nat} (h:Has E Γ M x (qX b o)):OK1 E P Γ M ⟨d,.nilCheck x,ty,pos,after,gd⟩ (qX b o):=.run fun a w F s=>by
 have e:a.eval x=.pointer (some ⟨b,o,none⟩):=h a w F s
 exact⟨.pointer (some ⟨b,o,none⟩),by simp only[execOp,e];rfl,rfl⟩
theorem OK1.nilcP {d:Option Tmp} {gd:Option (Nat×Bool)} {x:Operand} {Ss:List VP} (h:Has E Γ M x (aZ Ss)):OK1 E P Γ M ⟨d,.nilCheck x,ty,pos,after,gd⟩ (aZ Ss):=.run fun a w F s=>by
 have h1:=h a w F s
 obtain⟨b,o,e,_⟩:=id h1
 exact⟨.pointer (some ⟨b,o,none⟩),by simp only[execOp,e];rfl,e▸h1⟩
theorem OKY.fieldAddr {d:Option Tmp} {x:Operand} {b off i o n:Nat} {g:Bool} {T T':TypeId} (hx:Has E Γ M x (qX b off)) (hf:jb P T i=some (o,T')) (ht:tyB P T'=some (n+1,g)):
    OKY E P Γ M ⟨d,.fieldAddr T x i,ty,pos,after,none⟩ (qX b (off+o)):=fun a w F s=>by
    have h1:a.eval x=.pointer (some ⟨b,off,none⟩):=hx a w F s
    refine⟨_,fun w'=>?_,rfl⟩
    unfold jb at hf
    cases hu:P.underlying T with
    | none=>simp[hu] at hf
    | some dd=>
      rw[hu] at hf
      cases dd <;> simp at hf
      rename_i fs
      obtain⟨f,hf1,hf2,hf3⟩:=hf
      subst hf2 hf3
      simp only[execOp,h1,Instr.fieldAt,Instr.sureAddr,fieldPlace,Sem.run_bind,Sem.run_pure,Result.andThen_ok,qd hu,qV ht,hf1]
      simp[xN]
def vM (n:Nat) (bs:List Nat):Array Bool:=bs.foldl (fun acc i=>acc.setIfInBounds i true) (Array.replicate n false)
theorem iB (n:Nat) (bs:List Nat) (i:Nat):vM n (bs++[i])=(vM n bs).setIfInBounds i true:=by unfold vM;rw[List.foldl_append];rfl
theorem pW (n:Nat) (bs:List Nat):(vM n bs).size=n:=by
 unfold vM
 suffices h:∀(bs:List Nat) (acc:Array Bool),acc.size=n→(bs.foldl (fun acc i=>acc.setIfInBounds i true) acc).size=n by exact h bs _ (by simp)
 intro bs
 induction bs with
 | nil=>intro acc h;exact h
 | cons b bs ih=>intro acc h;exact ih _ (by simp[h])
def DrB (E:Env) (P:Program) (l:List Oper) (Γ:Ctx) (M:Mem) (Q:Exit→Act→World→Prop) (bs:List Nat):Prop:=
 ∀a w F,Sat E Γ M a w F→wpAny P .any l.toArray Q (l.length-bs.length) (vM l.length bs) a w
theorem Tri.dry {id:Nat} {l:List Oper} (hm:P.follows .mixedOrders=true) (h:DrB E P l Γ M Q []):Tri E P (.region id l.toArray true) Γ M Q:=by
 intro a w F s
 refine wp_region_any hm ?_
 have:=h a _ F (s.adv (Adv.drew w F))
 simpa [vM] using this
theorem DrB.take {l:List Oper} {bs:List Nat} {i d:Nat} {o:Oper} {S:VP} (hi:l[i]?=some o) (hd:o.dst=some d) (hg:o.guard=none) (hn:Nat.blt d E.n=true) (hs:Region.noSelect l.toArray=true)
  (hf:Region.free .any l.toArray (vM l.length bs) i=true) (hr:(Region.ready .any l.toArray (vM l.length bs)).contains i=true) (hl:Nat.blt bs.length l.length=true) (hQ:∀c a w v,Q (.panic c) (Act.put a (some d) v) w→Q (.panic c) a w)
  (hok:OKY E P Γ M o S) (k:DrB E P l ((d,S)::Γ) M Q (bs++[i])):DrB E P l Γ M Q bs:=by
 intro a w F s
 obtain⟨v,hv,hS⟩:=hok a w F s
 have hd':d<E.n:=by simpa [Nat.blt_eq] using hn
 have hl':bs.length<l.length:=by simpa [Nat.blt_eq] using hl
 have hk:=k (a.put (some d) v) w F (s.put hd' hS)
 obtain⟨f,hfu⟩:∃f,l.length-bs.length=f+1:=⟨l.length-bs.length-1,by omega⟩
 rw[hfu]
 refine wpAny_take (i:=i) (oi:=o) (v:=v) (by simpa using hi) hs hf hr (fun c a w h=>hQ c a w v (by rw[hd] at h;exact h)) (.inl ⟨by simp[Region.wanted,hg],hv⟩) ?_
 rw[hd,←iB]
 rw[List.length_append,List.length_singleton,show l.length-(bs.length+1)=f by omega] at hk
 exact hk
theorem DrB.u {l:List Oper} {bs:List Nat} {d:Nat} {o:Oper} {S:VP} (i:Nat) (h:obO E.n l i=some (o,d)) (hok:OKY E P Γ M o S) (k:DrB E P l ((d,S)::Γ) M Q (bs++[i])) (hs:Region.noSelect l.toArray=true:=by kernel_rfl) (hf:Region.free .any l.toArray (vM l.length bs) i=true:=by kernel_rfl) (hr:(Region.ready .any l.toArray (vM l.length bs)).contains i=true:=by kernel_rfl) (hl:Nat.blt bs.length l.length=true:=by kernel_rfl) (hQ:∀c a w v,Q (.panic c) (Act.put a (some d) v) w→Q (.panic c) a w:=by exact fun _ _ _ _ h=>h):DrB E P l Γ M Q bs:=
  let ⟨h1,h2,h3,h4⟩:=dC h
  DrB.take h1 h2 h4 h3 hs hf hr hl hQ hok k
theorem DrB.tk {l:List Oper} {bs:List Nat} {d:Nat} {o:Oper} {S:VP} (i:Nat) (hi:l[i]?=some o) (hd:o.dst=some d) (hg:o.guard=none) (hn:Nat.blt d E.n=true) (hok:OKY E P Γ M o S) (k:DrB E P l ((d,S)::Γ) M Q (bs++[i])) (hs:Region.noSelect l.toArray=true:=by kernel_rfl) (hf:Region.free .any l.toArray (vM l.length bs) i=true:=by kernel_rfl) (hr:(Region.ready .any l.toArray (vM l.length bs)).contains i=true:=by kernel_rfl) (hl:Nat.blt bs.length l.length=true:=by kernel_rfl) (hQ:∀c a w v,Q (.panic c) (Act.put a (some d) v) w→Q (.panic c) a w:=by exact fun _ _ _ _ h=>h):DrB E P l Γ M Q bs:=
 DrB.take hi hd hg hn hs hf hr hl hQ hok k
def zGM (l:List Oper) (i:Nat):Bool:=match l[i]? with
 | none=>false
 | some oi=>(List.range l.length).all fun j=>j==i||(((qZ l [])[i]?).getD 0).testBit j||match l[j]? with
   | some oj=>oj.after.any (fun e=>Region.binds .any e&&e.on==i)||oi.apart l.toArray oj
   | none=>true
inductive DrL (E:Env) (P:Program) (l:List Oper) (Γ:Ctx) (M:Mem) (es:List Nat):List Nat→List VP→Prop
 | nil:DrL E P l Γ M es [] []
 | snoc {i d:Nat} {az:List Nat} {Ss:List VP} {S:VP} {o:Oper} (Δ:Ctx):DrL E P l Γ M es az Ss→l[i]?=some o→o.dst=some d→Nat.blt d E.n=true→
   (∀t S,zR Δ t=some S→(∃(k j:Nat) (oj:Oper),az[k]?=some j∧(((qZ l [])[i]?).getD 0).testBit j=true∧l[j]?=some oj∧oj.dst=some t∧Ss[k]?=some S)∨zR Γ t=some S)→
   OKG E P l.toArray Δ M o S→(es.contains i=true→OKY E P Δ M o S∧o.guard=none)→DrL E P l Γ M es (az++[i]) (Ss++[S])
theorem DrL.at {l:List Oper} {es az:List Nat} {Ss:List VP} (h:DrL E P l Γ M es az Ss):Ss.length=az.length∧∀(k i:Nat),az[k]?=some i→∃(o:Oper) (d:Nat) (S:VP) (Δ:Ctx),l[i]?=some o∧o.dst=some d∧d<E.n∧Ss[k]?=some S∧
    (∀t S,zR Δ t=some S→(∃(k j:Nat) (oj:Oper),az[k]?=some j∧(((qZ l [])[i]?).getD 0).testBit j=true∧l[j]?=some oj∧oj.dst=some t∧Ss[k]?=some S)∨zR Γ t=some S)∧OKG E P l.toArray Δ M o S∧(es.contains i=true→OKY E P Δ M o S∧o.guard=none):=by
  induction h with
  | nil=>exact⟨rfl,fun k i hk=>by simp at hk⟩
  | @snoc i d az Ss S o Δ h0 h1 h2 h3 h4 h5 h6 ih=>
    obtain⟨ih1,ih2⟩:=ih
    have up:∀{β:Type} (xs:List β) (x:β) (j:Nat) (T:β),xs[j]?=some T→(xs++[x])[j]?=some T:=fun xs x j T hT=>by
      have:j<xs.length:=by
        rcases Nat.lt_or_ge j xs.length with h|h
        · exact h
        · rw[List.getElem?_eq_none h] at hT;cases hT
      rw[List.getElem?_append_left this];exact hT
    refine⟨by simp[ih1],fun k i' hk=>?_⟩
    by_cases e:k=az.length
    · subst e
      rw[List.getElem?_append_right (Nat.le_refl _),Nat.sub_self] at hk
      obtain rfl:i=i':=by simpa using hk
      refine⟨o,d,S,Δ,h1,h2,by simpa [Nat.blt_eq] using h3,by rw[List.getElem?_append_right (by omega)];simp[ih1],fun t T hT=>?_,h5,h6⟩
      rcases h4 t T hT with ⟨k,j,oj,b0,b1,b2,b3,b4⟩|h
      · exact .inl ⟨k,j,oj,up _ _ _ _ b0,b1,b2,b3,up _ _ _ _ b4⟩
      · exact .inr h
    · have hkl:k<az.length:=by
        rcases Nat.lt_or_ge k az.length with h|h
        · exact h
        · rw[List.getElem?_eq_none (by simp;omega)] at hk;cases hk
      rw[List.getElem?_append_left hkl] at hk
      obtain⟨o',d',S',Δ',a1,a2,a3,a4,a5,a6⟩:=ih2 k i' hk
      refine⟨o',d',S',Δ',a1,a2,a3,up _ _ _ _ a4,fun t T hT=>?_,a6⟩
      rcases a5 t T hT with ⟨k,j,oj,b0,b1,b2,b3,b4⟩|h
      · exact .inl ⟨k,j,oj,up _ _ _ _ b0,b1,b2,b3,up _ _ _ _ b4⟩
      · exact .inr h
def nn (l:List Oper):Bool:=(List.range l.length).all fun i=>match l[i]? with
 | none=>true
 | some o=>o.after.toList.all fun e=>!Region.binds .any e||Nat.blt e.on i
def yR (n:Nat) (bs az ts:List Nat):Bool:=(List.range n).all fun i=>bs.contains i||az.contains i||ts.contains i
def wg (l:List Oper) (az:List Nat):List Nat→Bool
 | []=>true
 | t::ts=>(az.all fun j=>(((qZ l [])[t]?).getD 0).testBit j)&&wg l (az++[t]) ts
def kQ (bs az ts:List Nat):Bool:=(ts.all fun t=>!bs.contains t&&!az.contains t)&&(az.all fun t=>!bs.contains t)
def vb : List Nat→Bool
 | []=>true
 | t::ts=>!ts.contains t&&vb ts
def inB (n:Nat) (ts:List Nat):Bool:=ts.all fun t=>Nat.blt t n
def pX (l:List Oper) (az:List Nat) (Γ:Ctx):Bool:=az.all fun i=>match (l[i]?).bind (·.dst) with
  | none=>true
  | some d=>(Γ.all fun p=>!Nat.beq p.1 d)&&az.all fun j=>Nat.beq i j||match (l[j]?).bind (·.dst) with
    | none=>true
    | some e=>!Nat.beq d e
theorem cX {l:List Oper} (h:nn l=true):∀(i:Nat) (o:Oper),l[i]?=some o→∀e∈o.after,Region.binds .any e=true→e.on<i:=by
 intro i o ho e he hb
 have hi:i<l.length:=by
  rcases Nat.lt_or_ge i l.length with h'|h'
  ·exact h'
  ·rw[List.getElem?_eq_none h'] at ho;cases ho
 have:=List.all_eq_true.1 h i (by simpa using hi)
 rw[ho] at this
 have h2:=List.all_eq_true.1 this e (by simpa using he)
 rw[hb] at h2
 simpa [Nat.blt_eq] using h2
theorem zHV {l:List Oper} (hback:nn l=true):∀(ts:List Nat) (pre:List Nat),wg l pre ts=true→vb ts=true→inB l.length ts=true→
    ∀(fuel:Nat) (listed:Array Bool) (a:Act) (w:World),ts.length≤fuel→listed.size=l.length→(∀j,j<l.length→j∉ts→listed.getD j false=true)→(∀j,j∈ts→listed.getD j false=false)→(∀t∈ts,t∉pre)→
    wI l (fun j=>listed.getD j false=true)→wpList P l.toArray Q (ts.filterMap fun i=>l[i]?) a w→wpAny P .any l.toArray Q fuel listed a w:=by
  have hsp:=cX hback
  have gd:∀(listed:Array Bool) j,j<listed.size→listed.getD j true=listed.getD j false:=fun listed j hj=>by simp[hj]
  intro ts
  induction ts with
  | nil=>
    intro pre _ _ _ fuel listed a w hf hsz hall _ _ hc hl
    refine wpAny_done ?_ hl fuel
    cases hr:Region.ready .any l.toArray listed with
    | nil=>rfl
    | cons j js=>
      have hj:j∈Region.ready .any l.toArray listed:=by rw[hr];simp
      rw[mem_ready] at hj
      obtain⟨g1,o,g2,_⟩:=hj
      have g2':l[j]?=some o:=by simpa using g2
      have hjl:j<l.length:=by
        rcases Nat.lt_or_ge j l.length with h'|h'
        · exact h'
        · rw[List.getElem?_eq_none h'] at g2';cases g2'
      rw[gd listed j (by omega),hall j hjl (by simp)] at g1;cases g1
  | cons t ts ih=>
    intro pre hah hnd hin fuel listed a w hf hsz hall hun hpre hc hl
    simp only[wg,Bool.and_eq_true] at hah
    simp only[vb,Bool.and_eq_true,Bool.not_eq_true'] at hnd
    simp only[inB,List.all_cons,Bool.and_eq_true] at hin
    have htl:t<l.length:=by simpa [Nat.blt_eq] using hin.1
    have htn:t∉ts:=by have:=hnd.1;simpa using this
    obtain⟨f,rfl⟩:∃f,fuel=f+1:=⟨fuel-1,by simp at hf;omega⟩
    have hot:l[t]?=some l[t]:=List.getElem?_eq_getElem htl
    -- what the tail's later ones stand behind
    have later:∀(ts':List Nat) (pre':List Nat),wg l pre' ts'=true→∀u∈ts',∀j∈pre',(((qZ l [])[u]?).getD 0).testBit j=true:=by
      intro ts'
      induction ts' with
      | nil=>intro pre' _ u hu;cases hu
      | cons x xs ihx=>
        intro pre' h u hu j hj
        simp only[wg,Bool.and_eq_true] at h
        rcases List.mem_cons.1 hu with rfl|hu
        · exact List.all_eq_true.1 h.1 j hj
        · exact ihx _ h.2 u hu j (List.mem_append_left _ hj)
    have honly:∀j,j∈Region.ready .any l.toArray listed→j=t:=by
      intro j hj
      rw[mem_ready] at hj
      obtain⟨g1,o,g2,g3⟩:=hj
      have g2':l[j]?=some o:=by simpa using g2
      have hjl:j<l.length:=by
        rcases Nat.lt_or_ge j l.length with h'|h'
        · exact h'
        · rw[List.getElem?_eq_none h'] at g2';cases g2'
      refine Classical.byContradiction fun hne=>?_
      have hjt:j∈t::ts:=by
        refine Classical.byContradiction fun hno=>?_
        rw[gd listed j (by omega),hall j hjl hno] at g1;cases g1
      have hjts:j∈ts:=by rcases List.mem_cons.1 hjt with h|h;exact absurd h hne;exact h
      have hbit:=later ts _ hah.2 j hjts t (by simp)
      have hmask:j<(qZ l []).length:=by rw[xY];simpa using hjl
      rw[List.getElem?_eq_getElem hmask] at hbit
      have:=wx hc j o g2' g3 t _ (List.getElem?_eq_getElem hmask) (by simpa using hbit)
      have h0:=hun t (by simp)
      have h1:listed.getD t false=true:=this
      rw[h1] at h0;cases h0
    have hready:t∈Region.ready .any l.toArray listed:=by
      rw[mem_ready]
      refine⟨by rw[gd listed t (by omega)];exact hun t (by simp),l[t],by simp[htl],fun e he hb=>?_⟩
      -- an edge of t leads to what is listed
      have hlt:=hsp t _ hot e he hb
      refine hall e.on (by omega) fun hmem=>?_
      rcases List.mem_cons.1 hmem with h|h
      · omega
      · -- a later one of the tail would stand behind t, and t behind it
        have hbit:=later ts _ hah.2 e.on h t (by simp)
        have hmask:e.on<(qZ l []).length:=by rw[xY];simp;omega
        rw[List.getElem?_eq_getElem hmask] at hbit
        -- qZ lead back
        have hm:∀(i:Nat) (m:Nat),(qZ l [])[i]?=some m→∀j,m.testBit j=true→j<i:=by
          intro i m hm j hj
          have hil:i<l.length:=by
            rcases Nat.lt_or_ge i l.length with h'|h'
            · exact h'
            · rw[List.getElem?_eq_none (by rw[xY];simp;omega)] at hm;cases hm
          have:=wx (l:=l) (L:=fun j=>j<i) (fun i' o' ho' hi' e' he' hb'=>Nat.lt_trans (hsp i' o' ho' e' he' hb') hi') i _ (List.getElem?_eq_getElem hil) (fun e' he' hb'=>hsp i _ (List.getElem?_eq_getElem hil) e' he' hb') j m hm hj
          exact this
        have:=hm e.on _ (List.getElem?_eq_getElem hmask) t (by simpa using hbit)
        omega
    rw[List.filterMap_cons,hot] at hl
    refine zFU (i:=t) honly hready hot hl fun a w hl'=>?_
    refine ih (pre++[t]) hah.2 hnd.2 hin.2 f _ a w (by simp at hf;omega) (by simp[hsz]) (fun j hj hjn=>?_) (fun j hj=>?_) (fun u hu hmem=>?_) ?_ hl'
    · by_cases e:j=t
      · subst e;simp[hsz,htl]
      · exact getD_set_true (hall j hj (by simp[e,hjn]))
    · have hne:t≠j:=fun e=>htn (e▸hj)
      rw[getD_set_ne false hne];exact hun j (by simp[hj])
    · rcases List.mem_append.1 hmem with h|h
      · exact hpre u (by simp[hu]) h
      · obtain rfl:u=t:=by simpa using h
        exact htn hu
    · intro i o ho hL e he hb
      by_cases ei:i=t
      · subst ei
        rw[mem_ready] at hready
        obtain⟨_,o',ho',hall'⟩:=hready
        have h1:l[i]?=some o':=by simpa using ho'
        rw[ho] at h1;obtain rfl:=Option.some.inj h1
        exact getD_set_true (hall' e he hb)
      · exact getD_set_true (hc i o ho (by
          have hL':(listed.setIfInBounds t true).getD i false=true:=hL
          rwa [getD_set_ne false (fun h=>ei h.symm)] at hL') e he hb)
def zGQ (l:List Oper) (az:List Nat) (Ss:List VP) (L:Nat→Prop) (a:Act) (w:World) (F:Blk):Prop:=
 ∀(k j:Nat) (o:Oper) (d:Nat) (S:VP),az[k]?=some j→L j→l[j]?=some o→o.dst=some d→Ss[k]?=some S→S.h w F (a.tmps.getD d undef)
def wR (l:List Oper):List Nat→List VP→Ctx
  | i::az,S::Ss=>match (l[i]?).bind (·.dst) with
    | some d=>(d,S)::wR l az Ss
    | none=>wR l az Ss
  | _,_=>[]
theorem aQ {l:List Oper}:∀(az:List Nat) (Ss:List VP) (t:Nat) (S:VP),zR (wR l az Ss) t=some S→∃(k j:Nat) (o:Oper),az[k]?=some j∧l[j]?=some o∧o.dst=some t∧Ss[k]?=some S
  | [],Ss,t,S,h=>by simp[wR,zR] at h
  | i::az,[],t,S,h=>by simp[wR,zR] at h
  | i::az,S0::Ss,t,S,h=>by
    simp only[wR] at h
    cases hd:(l[i]?).bind (·.dst) with
    | none=>rw[hd] at h;obtain⟨k,j,o,a,b,c,d⟩:=aQ az Ss t S h;exact⟨k+1,j,o,by simpa using a,b,c,by simpa using d⟩
    | some dd=>
      rw[hd] at h
      simp only[zR] at h
      cases hb:Nat.beq dd t with
      | false=>rw[hb] at h;obtain⟨k,j,o,a,b,c,d⟩:=aQ az Ss t S h;exact⟨k+1,j,o,by simpa using a,b,c,by simpa using d⟩
      | true=>
        rw[hb] at h;simp at h;subst h
        obtain rfl:=Nat.eq_of_beq_eq_true hb
        cases ho:l[i]? with
        | none=>rw[ho] at hd;cases hd
        | some o=>rw[ho] at hd;exact⟨0,i,o,rfl,ho,by simpa using hd,rfl⟩
theorem mU : ∀{az:List Nat},vb az=true→∀{k k' j:Nat},az[k]?=some j→az[k']?=some j→k=k'
  | [],_,k,k',j,h,_=>by simp at h
  | a::az,hn,k,k',j,h,h'=>by
    simp only[vb,Bool.and_eq_true,Bool.not_eq_true'] at hn
    have hna:a∉az:=by have:=hn.1;simpa using this
    cases k with
    | zero=>
      cases k' with
      | zero=>rfl
      | succ k'=>
        exfalso
        have e:a=j:=by simpa using h
        exact hna (e▸List.mem_of_getElem? (show az[k']?=some j by simpa using h'))
    | succ k=>
      cases k' with
      | zero=>
        exfalso
        have e:a=j:=by simpa using h'
        exact hna (e▸List.mem_of_getElem? (show az[k]?=some j by simpa using h))
      | succ k'=>rw[mU hn.2 (show az[k]?=some j by simpa using h) (show az[k']?=some j by simpa using h')]
def pJ (l:List Oper) (es az ts:List Nat):Bool:=es.all fun i=>az.contains i&&zGM l i&&match l[i]? with
 | none=>true
 | some o=>o.after.toList.all fun e=>!Region.binds .any e||!ts.contains e.on
theorem zHW {l:List Oper} {bs es az ts:List Nat} {Ss:List VP} (hD:DrL E P l Γ M es az Ss) (hsel:Region.noSelect l.toArray=true) (heg:pJ l es az ts=true) (hQ:∀c a w d v,Q (.panic c) (Act.put a (some d) v) w→Q (.panic c) a w) (hap:pX l az Γ=true) (hback:nn l=true) (hpart:yR l.length bs az ts=true) (hdis:kQ bs az ts=true) (hah:wg l (az.filter fun i=>!es.contains i) ts=true) (hnd:vb ts=true) (hna:vb az=true) (hin:inB l.length ts=true)
    (k:Ops E P l.toArray Q (ts.filterMap fun i=>l[i]?) (wR l az Ss++Γ) M):
    ∀(fuel:Nat) (listed:Array Bool) (a:Act) (w:World) (F:Blk),listed.toList.countP (·==false)≤fuel→listed.size=l.length→(∀j,j∈bs→j<l.length→listed.getD j false=true)→(∀j,j∈ts→listed.getD j false=false)→
    wI l (fun j=>listed.getD j false=true)→Sat E Γ M a w F→zGQ l az Ss (fun j=>listed.getD j false=true) a w F→wpAny P .any l.toArray Q fuel listed a w:=by
  obtain⟨hlen,hat⟩:=hD.at
  have hsp:=cX hback
  have gd:∀(listed:Array Bool) j,j<listed.size→listed.getD j true=listed.getD j false:=fun listed j hj=>by simp[hj]
  have hcase:∀i,i<l.length→i∈bs∨i∈az∨i∈ts:=by
    intro i hi
    have:=List.all_eq_true.1 hpart i (by simpa using hi)
    simp only[Bool.or_eq_true,List.contains_iff_mem] at this
    rcases this with (h|h)|h
    · exact .inl h
    · exact .inr (.inl h)
    · exact .inr (.inr h)
  simp only[kQ,Bool.and_eq_true,List.all_eq_true,Bool.not_eq_true',Bool.and_eq_true] at hdis
  have hta:∀t∈ts,t∉az:=fun t ht=>by have:=(hdis.1 t ht).2;simpa using this
  have hapart:∀i d,i∈az→(l[i]?).bind (·.dst)=some d→(∀t S,zR Γ t=some S→t≠d)∧∀j e,j∈az→j≠i→(l[j]?).bind (·.dst)=some e→e≠d:=by
    intro i d hi hd
    have h1:=List.all_eq_true.1 hap i hi
    rw[hd] at h1
    simp only[Bool.and_eq_true] at h1
    refine⟨jk h1.1,fun j e hj hne he=>?_⟩
    have h2:=List.all_eq_true.1 h1.2 j hj
    rw[he] at h2
    simp only[Bool.or_eq_true,Bool.not_eq_true'] at h2
    rcases h2 with h2|h2
    · exact absurd (Nat.eq_of_beq_eq_true h2).symm hne
    · exact fun e'=>Nat.ne_of_beq_eq_false h2 e'.symm
  have later:∀(ts':List Nat) (pre':List Nat),wg l pre' ts'=true→∀u∈ts',∀j∈pre',(((qZ l [])[u]?).getD 0).testBit j=true:=by
    intro ts'
    induction ts' with
    | nil=>intro pre' _ u hu;cases hu
    | cons x xs ihx=>
      intro pre' h u hu j hj
      simp only[wg,Bool.and_eq_true] at h
      rcases List.mem_cons.1 hu with rfl|hu
      · exact List.all_eq_true.1 h.1 j hj
      · exact ihx _ h.2 u hu j (List.mem_append_left _ hj)
  have hfin:∀(listed:Array Bool) (a:Act) (w:World) (F:Blk),listed.size=l.length→(∀j,j∈bs→j<l.length→listed.getD j false=true)→(∀j,j∈ts→listed.getD j false=false)→(∀j,j∈az→j<l.length→listed.getD j false=true)→
      wI l (fun j=>listed.getD j false=true)→Sat E Γ M a w F→zGQ l az Ss (fun j=>listed.getD j false=true) a w F→∀fuel,listed.toList.countP (·==false)≤fuel→wpAny P .any l.toArray Q fuel listed a w:=by
    intro listed a w F hsz hb ht ha hc s hdone fuel hcnt
    refine zHV hback ts _ hah hnd hin fuel listed a w ?_ hsz (fun j hj hn=>?_) ht (fun t ht hm=>hta t ht (List.mem_filter.1 hm).1) hc (k a w F (s.wider ?_))
    · -- the tail's places are all unlisted
      refine Nat.le_trans ?_ hcnt
      have hinj:∀(ts':List Nat),vb ts'=true→inB l.length ts'=true→(∀j,j∈ts'→listed.getD j false=false)→ts'.length≤listed.toList.countP (·==false):=by
        intro ts' hnd' hin' hun'
        have e:listed.toList.countP (·==false)=((List.range l.length).filter fun i=>listed.getD i true==false).length:=by
          rw[←List.countP_eq_length_filter]
          have:listed.toList=(List.range l.length).map fun i=>listed.getD i true:=by
            apply List.ext_getElem
            · simp[hsz]
            · intro i h1 h2
              have hi:i<listed.size:=by simpa using h1
              simp[hi]
          rw[this,List.countP_map];rfl
        rw[e]
        have hsub:ts'⊆(List.range l.length).filter fun i=>listed.getD i true==false:=by
          intro j hj
          have hjl:j<l.length:=by
            have:=List.all_eq_true.1 hin' j hj
            simpa [Nat.blt_eq] using this
          rw[List.mem_filter]
          refine⟨by simpa using hjl,?_⟩
          rw[gd listed j (by omega),hun' j hj];rfl
        have hnodup:ts'.Nodup:=by
          clear hun' hsub hin'
          induction ts' with
          | nil=>exact List.nodup_nil
          | cons x xs ih=>
            simp only[vb,Bool.and_eq_true,Bool.not_eq_true'] at hnd'
            exact List.nodup_cons.2 ⟨by have:=hnd'.1;simpa using this,ih hnd'.2⟩
        exact hnodup.length_le_of_subset hsub
      exact hinj ts hnd hin ht
    · rcases hcase j hj with h|h|h
      · exact hb j h hj
      · exact ha j h hj
      · exact absurd h hn
    · intro t S hlook
      rw[zg] at hlook
      cases hl:zR (wR l az Ss) t with
      | none=>rw[hl] at hlook;exact s.slots t S (by simpa using hlook)
      | some S'=>
        rw[hl] at hlook
        obtain rfl:S'=S:=by simpa using hlook
        obtain⟨k',j,o,h1,h2,h3,h4⟩:=aQ _ _ _ _ hl
        have hjl:j<l.length:=by
          rcases Nat.lt_or_ge j l.length with h'|h'
          · exact h'
          · rw[List.getElem?_eq_none h'] at h2;cases h2
        exact hdone k' j o t S' h1 (ha j (List.mem_of_getElem? h1) hjl) h2 h3 h4
  intro fuel
  induction fuel with
  | zero=>
    intro listed a w F hcnt hsz hb ht hc s hdone
    refine hfin listed a w F hsz hb ht (fun j hj hjl=>?_) hc s hdone 0 hcnt
    have h0:listed.toList.countP (·==false)=0:=by omega
    rw[List.countP_eq_zero] at h0
    have hlt:j<listed.size:=by omega
    have:=h0 listed[j] (by simp)
    simp[hlt]
    simpa using this
  | succ fuel ih=>
    intro listed a w F hcnt hsz hb ht hc s hdone
    have hupd:∀(i ki:Nat) (o:Oper) (d:Nat) (S:VP),l[i]?=some o→i∈az→az[ki]?=some i→o.dst=some d→d<E.n→Ss[ki]?=some S→listed.getD i true=false→(∀e∈o.after,Region.binds .any e=true→listed.getD e.on false=true)→
        ∀v w' F',Adv w F w' F'→S.h w' F' v→wpAny P .any l.toArray Q fuel (listed.setIfInBounds i true) (a.put (some d) v) w':=by
      intro i ki o d S g2' hias hki a2 a3 a4 g1 g3 v w' F' ad hv
      have hil:i<l.length:=by
        rcases Nat.lt_or_ge i l.length with h'|h'
        · exact h'
        · rw[List.getElem?_eq_none h'] at g2';cases g2'
      have hbind:(l[i]?).bind (·.dst)=some d:=by rw[g2'];exact a2
      obtain⟨ap1,ap2⟩:=hapart i d hias hbind
      have s1:=s.adv ad
      refine ih _ _ w' F' ?_ (by simp[hsz]) (fun j hj hjl=>getD_set_true (hb j hj hjl)) (fun j hj=>?_) ?_ (s1.putOut a3 v ap1) ?_
      · have hlt:i<listed.toList.length:=by simp;omega
        have hli:listed.toList[i]=false:=by
          have:i<listed.size:=by omega
          simp[this] at g1;simpa using g1
        rw[Array.toList_setIfInBounds,List.countP_set hlt]
        rw[hli]
        have hpos:0<listed.toList.countP (·==false):=List.countP_pos_iff.2 ⟨false,by rw[←hli];exact List.getElem_mem _,rfl⟩
        simp only[beq_self_eq_true,if_true]
        show _-1+0≤fuel
        omega
      · have hne:i≠j:=fun e=>hta j hj (e▸hias)
        rw[getD_set_ne false hne];exact ht j hj
      · intro j oj hj hL e he hbb
        by_cases ek:j=i
        · subst ek
          rw[g2'] at hj;obtain rfl:=Option.some.inj hj
          exact getD_set_true (g3 e he hbb)
        · exact getD_set_true (hc j oj hj (by
            have hL':(listed.setIfInBounds i true).getD j false=true:=hL
            rwa [getD_set_ne false (fun h=>ek h.symm)] at hL') e he hbb)
      · intro k' j oj dj Sj hkj hL hj hdj hSj
        rw[jI (by rw[s1.size];exact a3)]
        by_cases ek:j=i
        · subst ek
          rw[g2'] at hj;obtain rfl:=Option.some.inj hj
          rw[a2] at hdj;obtain rfl:=Option.some.inj hdj
          rw[if_pos rfl]
          obtain rfl:=mU hna hkj hki
          rw[a4] at hSj;obtain rfl:=Option.some.inj hSj
          exact hv
        · have hjas:j∈az:=List.mem_of_getElem? hkj
          have hne:=ap2 j dj hjas ek (by rw[hj];exact hdj)
          rw[if_neg (fun e=>hne e.symm)]
          refine Sj.mono _ _ _ _ _ (hdone k' j oj dj Sj hkj ?_ hj hdj hSj) (ad.same s.flt) ad.sub
          have hL':(listed.setIfInBounds i true).getD j false=true:=hL
          rwa [getD_set_ne false (fun h=>ek h.symm)] at hL'
    have hctx:∀(i:Nat) (o:Oper) (Δ:Ctx),l[i]?=some o→i<l.length→(∀e∈o.after,Region.binds .any e=true→listed.getD e.on false=true)→
        (∀t S,zR Δ t=some S→(∃(k j:Nat) (oj:Oper),az[k]?=some j∧(((qZ l [])[i]?).getD 0).testBit j=true∧l[j]?=some oj∧oj.dst=some t∧Ss[k]?=some S)∨zR Γ t=some S)→Sat E Δ M a w F:=by
      intro i o Δ g2' hil g3 a6
      have hmask:i<(qZ l []).length:=by rw[xY];simpa using hil
      exact s.wider (fun t S' hlk=>by
        rcases a6 t S' hlk with ⟨k',j,oj,b00,b0,b1,b2,b3⟩|h
        · rw[List.getElem?_eq_getElem hmask] at b0
          exact hdone k' j oj t S' b00 (wx hc i o g2' g3 j _ (List.getElem?_eq_getElem hmask) (by simpa using b0)) b1 b2 b3
        · exact s.slots t S' h)
    by_cases heag:∃e,e∈es∧e∈Region.ready .any l.toArray listed
    · -- one that reads no memory is ready: it is taken
      obtain⟨i,hie,hir⟩:=heag
      have hi0:=hir
      rw[mem_ready] at hi0
      obtain⟨g1,o,g2,g3⟩:=hi0
      have g2':l[i]?=some o:=by simpa using g2
      have hil:i<l.length:=by
        rcases Nat.lt_or_ge i l.length with h'|h'
        · exact h'
        · rw[List.getElem?_eq_none h'] at g2';cases g2'
      have he1:=List.all_eq_true.1 heg i hie
      simp only[Bool.and_eq_true] at he1
      have hias:i∈az:=List.contains_iff_mem.1 he1.1.1
      obtain⟨ki,hki⟩:=List.mem_iff_getElem?.1 hias
      obtain⟨o',d,S,Δ,a1,a2,a3,a4,a6,a7,a8⟩:=hat ki i hki
      rw[g2'] at a1;obtain rfl:=Option.some.inj a1
      obtain⟨hy,hgd⟩:=a8 (List.contains_iff_mem.2 hie)
      obtain⟨v,hv,hS⟩:=hy a w F (hctx i o Δ g2' hil g3 a6)
      have hfr:∀j oj,l.toArray[j]?=some oj→j≠i→listed.getD j true=false→(∀e∈oj.after,Region.binds .any e=true→e.on≠i)→o.apart l.toArray oj=true:=by
        intro j oj hj hne hun hno
        have hj':l[j]?=some oj:=by simpa using hj
        have hjl:j<l.length:=by
          rcases Nat.lt_or_ge j l.length with h'|h'
          · exact h'
          · rw[List.getElem?_eq_none h'] at hj';cases hj'
        have hf:=he1.1.2
        unfold zGM at hf
        rw[g2'] at hf
        have h1:=List.all_eq_true.1 hf j (by simpa using hjl)
        rw[hj'] at h1
        simp only[Bool.or_eq_true,beq_iff_eq,hne,false_or] at h1
        rcases h1 with h1|h1|h1
        · exfalso
          have hmask:i<(qZ l []).length:=by rw[xY];simpa using hil
          rw[List.getElem?_eq_getElem hmask] at h1
          have:=wx hc i o g2' g3 j _ (List.getElem?_eq_getElem hmask) (by simpa using h1)
          rw[gd listed j (by omega)] at hun
          have h3:listed.getD j false=true:=this
          rw[h3] at hun;cases hun
        · obtain⟨e,he,hb'⟩:=Array.any_eq_true'.1 h1
          simp only[Bool.and_eq_true,beq_iff_eq] at hb'
          exact absurd hb'.2 (hno e he hb'.1)
        · exact h1
      refine wpAny_first g2 (Region.noSelect_spec hsel) (fun c a w h=>hQ c a w d v (by rw[a2] at h;exact h)) fuel listed a w hfr hir (.inl ⟨by simp[Region.wanted,hgd],hv⟩) ?_
      rw[a2]
      exact hupd i ki o d S g2' hias hki a2 a3 a4 g1 g3 v w F (Adv.refl _ _) hS
    by_cases hall:∀j,j∈az→j<l.length→listed.getD j false=true
    · exact hfin listed a w F hsz hb ht hall hc s hdone _ hcnt
    · have hex:∃j,j<l.length∧listed.getD j true=false:=by
        refine Classical.byContradiction fun hno=>hall fun j hj hjl=>?_
        rw[←gd listed j (by omega)]
        cases hbb:listed.getD j true with
        | true=>rfl
        | false=>exact absurd ⟨j,hjl,hbb⟩ hno
      refine⟨fun hr=>?_,fun i hi=>?_⟩
      · obtain⟨j,⟨hj1,hj2⟩,hmin⟩:=exists_least hex
        have:j∈Region.ready .any l.toArray listed:=by
          rw[mem_ready]
          refine⟨hj2,l[j],by simp[hj1],fun e he hbb=>?_⟩
          have hlt:=hsp j _ (List.getElem?_eq_getElem hj1) e he hbb
          cases hb2:listed.getD e.on true with
          | true=>rw[gd listed e.on (by omega)] at hb2;exact hb2
          | false=>have:=hmin e.on ⟨by omega,hb2⟩;omega
        rw[hr] at this;simp at this
      · have hi':=hi
        rw[mem_ready] at hi
        obtain⟨g1,o,g2,g3⟩:=hi
        have g2':l[i]?=some o:=by simpa using g2
        have hil:i<l.length:=by
          rcases Nat.lt_or_ge i l.length with h'|h'
          · exact h'
          · rw[List.getElem?_eq_none h'] at g2';cases g2'
        have hmask:i<(qZ l []).length:=by rw[xY];simpa using hil
        have hias:i∈az:=by
          rcases hcase i hil with h|h|h
          · rw[gd listed i (by omega),hb i h hil] at g1;cases g1
          · exact h
          · exfalso
            have hna':∀j,j∈az→j<l.length→es.contains j=false→listed.getD j false=true:=by
              intro j hj hjl hje
              have hbit:=later ts _ hah i h j (List.mem_filter.2 ⟨hj,by rw[hje];rfl⟩)
              rw[List.getElem?_eq_getElem hmask] at hbit
              exact wx hc i o g2' g3 j _ (List.getElem?_eq_getElem hmask) (by simpa using hbit)
            refine hall fun j hj hjl=>?_
            refine Classical.byContradiction fun hno=>?_
            -- the least of the eager ones that are not listed is ready
            have hex2:∃q,(q∈az∧q<l.length)∧listed.getD q false=false:=⟨j,⟨hj,hjl⟩,by cases hbb:listed.getD j false with|true=>exact absurd hbb hno|false=>rfl⟩
            obtain⟨q,⟨⟨hq1,hq2⟩,hq3⟩,hqmin⟩:=exists_least hex2
            have hqe:es.contains q=true:=by
              cases hbb:es.contains q with
              | true=>rfl
              | false=>rw[hna' q hq1 hq2 hbb] at hq3;cases hq3
            have hqe':=List.contains_iff_mem.1 hqe
            refine heag ⟨q,hqe',?_⟩
            rw[mem_ready]
            refine⟨by rw[gd listed q (by omega)];exact hq3,l[q],by simp[hq2],fun e he hbb=>?_⟩
            have hlt:=hsp q _ (List.getElem?_eq_getElem hq2) e he hbb
            have he1:=List.all_eq_true.1 heg q hqe'
            simp only[Bool.and_eq_true] at he1
            have he2:=he1.2
            rw[List.getElem?_eq_getElem hq2] at he2
            have he3:=List.all_eq_true.1 he2 e (by simpa using he)
            rw[hbb] at he3
            simp only[Bool.not_true,Bool.false_or,Bool.not_eq_true'] at he3
            rcases hcase e.on (by omega) with h'|h'|h'
            · exact hb e.on h' (by omega)
            · cases hb2:listed.getD e.on false with
              | true=>rfl
              | false=>have:=hqmin e.on ⟨⟨h',by omega⟩,hb2⟩;omega
            · rw[List.contains_iff_mem.2 h'] at he3;cases he3
        obtain⟨ki,hki⟩:=List.mem_iff_getElem?.1 hias
        obtain⟨o',d,S,Δ,a1,a2,a3,a4,a6,a7,_⟩:=hat ki i hki
        rw[g2'] at a1;obtain rfl:=Option.some.inj a1
        have hstep:=a7 a w F (hctx i o Δ g2' hil g3 a6) (wpAny P .any l.toArray Q fuel (listed.setIfInBounds i true)) Q
        have hgo:∀v w' F',Adv w F w' F'→S.h w' F' v→wpAny P .any l.toArray Q fuel (listed.setIfInBounds i true) (a.put o.dst v) w':=by
          intro v w' F' ad hv
          rw[a2]
          exact hupd i ki o d S g2' hias hki a2 a3 a4 g1 g3 v w' F' ad hv
        have hres:=hstep hgo
        unfold wpOp
        have ho:l.toArray[i]?=some o:=by simpa using g2'
        rw[ho]
        exact hres
def DrC (E:Env) (P:Program) (l:List Oper) (Γ:Ctx) (M:Mem) (Q:Exit→Act→World→Prop) (es bs az:List Nat) (Θ:Ctx):Prop:=
 ∀Ss,DrL E P l Γ M es az Ss→(∀t S,zR Θ t=some S→∃(k j:Nat) (o:Oper),az[k]?=some j∧l[j]?=some o∧o.dst=some t∧Ss[k]?=some S)→DrB E P l Γ M Q bs
theorem DrB.go {l:List Oper} {bs:List Nat} (es:List Nat) (h:DrC E P l Γ M Q es bs [] []):DrB E P l Γ M Q bs:=h [] .nil (fun t S ht=>by simp[zR] at ht)
def bu (l:List Oper) (i:Nat) (az ts:List Nat):Bool:=
 let m:=((qZ l [])[i]?).getD 0
 az.all fun j=>m.testBit j||match (l[j]?).bind (·.dst) with
  | none=>true
  | some d=>ts.all fun t=>!Nat.beq d t
theorem OKY.g {o:Oper} {S:VP} (hg:o.guard=none) (h:OKY E P Γ M o S):OKG E P ops Γ M o S:=OKG.o hg (.run fun a w F s=>by
 obtain⟨v,hv,hS⟩:=h a w F s
 exact⟨v,hv w,hS⟩)
theorem DrC.stE {i d:Nat} {l:List Oper} {es bs az:List Nat} {Θ:Ctx} {S:VP} {o:Oper} (ts:List Nat) (h1:l[i]?=some o) (h2:o.dst=some d) (h3:Nat.blt d E.n=true)
    (h4:bu l i az ts=true) (h5:OKG E P l.toArray (qh ts Θ++Γ) M o S) (h6:es.contains i=true→OKY E P (qh ts Θ++Γ) M o S∧o.guard=none) (k:DrC E P l Γ M Q es bs (az++[i]) ((d,S)::Θ)):DrC E P l Γ M Q es bs az Θ:=by
  intro Ss hD hΘ
  obtain⟨hlen,_⟩:=hD.at
  have up:∀{β:Type} (xs:List β) (x:β) (j:Nat) (T:β),xs[j]?=some T→(xs++[x])[j]?=some T:=fun xs x j T hT=>by
    have:j<xs.length:=by
      rcases Nat.lt_or_ge j xs.length with h|h
      · exact h
      · rw[List.getElem?_eq_none h] at hT;cases hT
    rw[List.getElem?_append_left this];exact hT
  refine k (Ss++[S]) (.snoc _ hD h1 h2 h3 (fun t S' ht=>?_) h5 h6) (fun t S' ht=>?_)
  · rw[zg] at ht
    cases hl:zR (qh ts Θ) t with
    | none=>rw[hl] at ht;exact .inr (by simpa using ht)
    | some S''=>
      rw[hl] at ht
      obtain rfl:S''=S':=by simpa using ht
      obtain⟨hm,hl2⟩:=vD _ _ _ hl
      obtain⟨k',j,oj,b0,b1,b2,b3⟩:=hΘ t S'' hl2
      refine .inl ⟨k',j,oj,b0,?_,b1,b2,b3⟩
      have:=List.all_eq_true.1 h4 j (List.mem_of_getElem? b0)
      rw[b1] at this
      simp only[Option.bind_some,b2,Bool.or_eq_true] at this
      rcases this with h|h
      · exact h
      · have:=List.all_eq_true.1 h t hm
        simp[Nat.beq_refl] at this
  · simp only[zR] at ht
    cases hb:Nat.beq d t with
    | true=>
      rw[hb] at ht;simp at ht;subst ht
      obtain rfl:=Nat.eq_of_beq_eq_true hb
      exact⟨az.length,i,o,by simp,h1,h2,by rw[List.getElem?_append_right (by omega)];simp[hlen]⟩
    | false=>
      rw[hb] at ht
      obtain⟨k',j,oj,b0,b1,b2,b3⟩:=hΘ t S' ht
      exact⟨k',j,oj,up _ _ _ _ b0,b1,b2,up _ _ _ _ b3⟩
theorem DrC.st {i d:Nat} {l:List Oper} {es bs az:List Nat} {Θ:Ctx} {S:VP} {o:Oper} (ts:List Nat) (h1:l[i]?=some o) (h2:o.dst=some d) (h3:Nat.blt d E.n=true)
  (h4:bu l i az ts=true) (h0:es.contains i=false) (h5:OKG E P l.toArray (qh ts Θ++Γ) M o S) (k:DrC E P l Γ M Q es bs (az++[i]) ((d,S)::Θ)):DrC E P l Γ M Q es bs az Θ:=
 DrC.stE ts h1 h2 h3 h4 h5 (fun h=>by rw[h0] at h;cases h) k
theorem DrC.so {d:Nat} {l:List Oper} {es bs az:List Nat} {Θ:Ctx} {S:VP} {o:Oper} (i:Nat) (ts:List Nat) (h:obO E.n l i=some (o,d)) (h5:OK1 E P (qh ts Θ++Γ) M o S) (k:DrC E P l Γ M Q es bs (az++[i]) ((d,S)::Θ)) (h4:bu l i az ts=true:=by kernel_rfl) (h0:es.contains i=false:=by kernel_rfl):DrC E P l Γ M Q es bs az Θ:=
  let ⟨h1,h2,h3,hg⟩:=dC h
  DrC.st ts h1 h2 h3 h4 h0 (.o hg h5) k
theorem DrC.m {d:Nat} {l:List Oper} {es bs az:List Nat} {Θ:Ctx} {S:VP} {o:Oper} (i:Nat) (ts:List Nat) (h:omO E.n (qh ts Θ++Γ) l i=some (o,d,S)) (k:DrC E P l Γ M Q es bs (az++[i]) ((d,S)::Θ)) (h4:bu l i az ts=true:=by kernel_rfl) (h0:es.contains i=false:=by kernel_rfl):DrC E P l Γ M Q es bs az Θ:=
  let ⟨h1,h2⟩:=gC h
  let ⟨g1,g2,g3,_⟩:=bA h2
  DrC.st ts h1 g1 g3 h4 h0 (.o g2 (.mvo h2)) k
theorem DrC.s {d:Nat} {l:List Oper} {es bs az:List Nat} {Θ:Ctx} {S:VP} {o:Oper} (i:Nat) (ts:List Nat) (h1:l[i]?=some o) (h2:o.dst=some d) (h3:Nat.blt d E.n=true) (h5:OKG E P l.toArray (qh ts Θ++Γ) M o S) (k:DrC E P l Γ M Q es bs (az++[i]) ((d,S)::Θ)) (h4:bu l i az ts=true:=by kernel_rfl) (h0:es.contains i=false:=by kernel_rfl):DrC E P l Γ M Q es bs az Θ:=
 DrC.st ts h1 h2 h3 h4 h0 h5 k
theorem DrC.ea {i d:Nat} {l:List Oper} {es bs az:List Nat} {Θ:Ctx} {S:VP} {o:Oper} (ts:List Nat) (h1:l[i]?=some o) (h2:o.dst=some d) (h3:Nat.blt d E.n=true)
  (h4:bu l i az ts=true) (hg:o.guard=none) (h5:OKY E P (qh ts Θ++Γ) M o S) (k:DrC E P l Γ M Q es bs (az++[i]) ((d,S)::Θ)):DrC E P l Γ M Q es bs az Θ:=
 DrC.stE ts h1 h2 h3 h4 (OKY.g hg h5) (fun _=>⟨h5,hg⟩) k
def oI (l:List Oper) (bs:List Nat):Bool:=(bs.all fun i=>match l[i]? with
    | none=>true
    | some o=>o.after.toList.all fun e=>!Region.binds .any e||bs.contains e.on)&&
  ((List.range l.length).all fun i=>(vM l.length bs).getD i false==bs.contains i)&&Nat.ble ((vM l.length bs).toList.countP (·==false)) (l.length-bs.length)
theorem DrC.fin {l:List Oper} {es bs az:List Nat} {Θ:Ctx} (ts:List Nat) (hsel:Region.noSelect l.toArray=true) (heg:pJ l es az ts=true) (hQ:∀c a w d v,Q (.panic c) (Act.put a (some d) v) w→Q (.panic c) a w) (htk:oI l bs=true) (hap:pX l az Γ=true) (hback:nn l=true) (hpart:yR l.length bs az ts=true) (hdis:kQ bs az ts=true) (hah:wg l (az.filter fun i=>!es.contains i) ts=true) (hnd:vb ts=true) (hna:vb az=true) (hin:inB l.length ts=true)
    (k:Ops E P l.toArray Q (ts.filterMap fun i=>l[i]?) (Θ++Γ) M):DrC E P l Γ M Q es bs az Θ:=by
  intro Ss hD hΘ a w F s
  simp only[oI,Bool.and_eq_true] at htk
  obtain⟨⟨t1,t2⟩,t3⟩:=htk
  have hlist:∀i,i<l.length→((vM l.length bs).getD i false=true↔i∈bs):=fun i hi=>by
    have:=List.all_eq_true.1 t2 i (by simpa using hi)
    have h2:(vM l.length bs).getD i false=bs.contains i:=by simpa using this
    rw[h2,List.contains_iff_mem]
  have hsz:=pW l.length bs
  have hout:∀i,l.length≤i→(vM l.length bs).getD i false=false:=fun i hi=>by
    have:¬i<(vM l.length bs).size:=by omega
    simp[this]
  have hsame:∀t S,zR (Θ++Γ) t=some S→zR (wR l az Ss++Γ) t=some S:=by
    intro t S ht
    rw[zg] at ht
    rw[zg]
    have hdl:∀i d,i∈az→(l[i]?).bind (·.dst)=some d→(∀t S,zR Γ t=some S→t≠d)∧∀j e,j∈az→j≠i→(l[j]?).bind (·.dst)=some e→e≠d:=by
      intro i d hi hd
      have h1:=List.all_eq_true.1 hap i hi
      rw[hd] at h1
      simp only[Bool.and_eq_true] at h1
      refine⟨jk h1.1,fun j e hj hne he=>?_⟩
      have h2:=List.all_eq_true.1 h1.2 j hj
      rw[he] at h2
      simp only[Bool.or_eq_true,Bool.not_eq_true'] at h2
      rcases h2 with h2|h2
      · exact absurd (Nat.eq_of_beq_eq_true h2).symm hne
      · exact fun e'=>Nat.ne_of_beq_eq_false h2 e'.symm
    cases hl:zR Θ t with
    | none=>
      rw[hl] at ht
      have ht':zR Γ t=some S:=by simpa using ht
      have hno:zR (wR l az Ss) t=none:=by
        cases hd:zR (wR l az Ss) t with
        | none=>rfl
        | some S'=>
          obtain⟨k',j,o,b0,b1,b2,b3⟩:=aQ _ _ _ _ hd
          exact absurd rfl ((hdl j t (List.mem_of_getElem? b0) (by rw[b1];exact b2)).1 t S ht')
      rw[hno];simpa using ht'
    | some S'=>
      rw[hl] at ht
      obtain rfl:S'=S:=by simpa using ht
      obtain⟨k',j,o,b0,b1,b2,b3⟩:=hΘ t S' hl
      have hex:∀(as':List Nat) (Ss':List VP) (k:Nat),as'[k]?=some j→Ss'[k]?=some S'→vb as'=true→(∀j',j'∈as'→j'≠j→(l[j']?).bind (·.dst)≠some t)→zR (wR l as' Ss') t=some S':=by
        intro as'
        induction as' with
        | nil=>intro Ss' k h;simp at h
        | cons x as' ih=>
          intro Ss' k h1 h2 hn h3
          simp only[vb,Bool.and_eq_true,Bool.not_eq_true'] at hn
          have hxn:x∉as':=by have:=hn.1;simpa using this
          cases Ss' with
          | nil=>simp at h2
          | cons T Ss'=>
            cases k with
            | zero=>
              have e1:x=j:=by simpa using h1
              have e2:T=S':=by simpa using h2
              subst e1;subst e2
              simp only[wR,b1,Option.bind_some,b2,zR,Nat.beq_refl]
            | succ k=>
              have hjm:j∈as':=List.mem_of_getElem? (show as'[k]?=some j by simpa using h1)
              have hxj:x≠j:=fun e=>hxn (e▸hjm)
              have hrec:=ih Ss' k (by simpa using h1) (by simpa using h2) hn.2 (fun j' hj' hne=>h3 j' (by simp[hj']) hne)
              have h0:=h3 x (by simp) hxj
              simp only[wR]
              cases hd:(l[x]?).bind (·.dst) with
              | none=>exact hrec
              | some d'=>
                simp only[zR]
                have hne:Nat.beq d' t=false:=by
                  cases hb:Nat.beq d' t with
                  | false=>rfl
                  | true=>exact absurd (by rw[hd,Nat.eq_of_beq_eq_true hb]) h0
                rw[hne];exact hrec
      have hlk:=hex az Ss k' b0 b3 hna (fun j' hj' hne he'=>(hdl j t (List.mem_of_getElem? b0) (by rw[b1];exact b2)).2 j' t hj' hne he' rfl)
      rw[hlk];rfl
  refine zHW (bs:=bs) hD hsel heg hQ hap hback hpart hdis hah hnd hna hin (fun a w F s=>k a w F (s.wider fun t S ht=>s.slots t S (hsame t S ht))) _ _ a w F (Nat.le_of_ble_eq_true t3) hsz (fun j hj hjl=>(hlist j hjl).2 hj) (fun j hj=>?_) ?_ s ?_
  · rcases Nat.lt_or_ge j l.length with h|h
    · cases hb:(vM l.length bs).getD j false with
      | false=>rfl
      | true=>
        exfalso
        simp only[kQ,Bool.and_eq_true,List.all_eq_true,Bool.not_eq_true'] at hdis
        have:=(hdis.1 j hj).1
        have hm:=(hlist j h).1 hb
        rw[←List.contains_iff_mem,this] at hm;cases hm
    · exact hout j h
  · intro i o ho hL e he hb
    have hil:i<l.length:=by
      rcases Nat.lt_or_ge i l.length with h'|h'
      · exact h'
      · rw[List.getElem?_eq_none h'] at ho;cases ho
    have hib:=(hlist i hil).1 hL
    have:=List.all_eq_true.1 t1 i hib
    rw[ho] at this
    have h2:=List.all_eq_true.1 this e (by simpa using he)
    rw[hb] at h2
    simp only[Bool.not_true,Bool.false_or] at h2
    have hlt:=cX hback i o ho e he hb
    exact (hlist e.on (by omega)).2 (List.contains_iff_mem.1 h2)
  · intro k' j o d S hkj hL hj hd hS
    have hjl:j<l.length:=by
      rcases Nat.lt_or_ge j l.length with h'|h'
      · exact h'
      · rw[List.getElem?_eq_none h'] at hj;cases hj
    have hjb:=(hlist j hjl).1 hL
    exfalso
    simp only[kQ,Bool.and_eq_true,List.all_eq_true,Bool.not_eq_true'] at hdis
    have:=hdis.2 j (List.mem_of_getElem? hkj)
    rw[←List.contains_iff_mem,this] at hjb;cases hjb
theorem DrC.fn {l:List Oper} {es bs az:List Nat} {Θ:Ctx} (ts:List Nat) (k:Ops E P l.toArray Q (ts.filterMap fun i=>l[i]?) (Θ++Γ) M) (hsel:Region.noSelect l.toArray=true:=by kernel_rfl) (heg:pJ l es az ts=true:=by kernel_rfl) (hQ:∀c a w d v,Q (.panic c) (Act.put a (some d) v) w→Q (.panic c) a w:=by exact fun _ _ _ _ _ h=>h) (htk:oI l bs=true:=by kernel_rfl) (hap:pX l az Γ=true:=by kernel_rfl) (hback:nn l=true:=by kernel_rfl) (hpart:yR l.length bs az ts=true:=by kernel_rfl) (hdis:kQ bs az ts=true:=by kernel_rfl) (hah:wg l (az.filter fun i=>!es.contains i) ts=true:=by kernel_rfl) (hnd:vb ts=true:=by kernel_rfl) (hna:vb az=true:=by kernel_rfl) (hin:inB l.length ts=true:=by kernel_rfl):DrC E P l Γ M Q es bs az Θ:=
  DrC.fin ts hsel heg hQ htk hap hback hpart hdis hah hnd hna hin k
end
end Go.En
namespace Go.En
open Go.RowKit
section
variable {E : Env} {P : Program} {Γ : Ctx} {M : Mem} {ty : TypeId} {pos : String} {after : Array Edge} {gd : Option (Nat × Bool)} {d : Option Tmp}
 {ops : Array Oper} {Q : Exit → Act → World → Prop} {rest : List Oper} {T T' : TypeId} {x y : Operand} {α : Type} {f : α → VP} {fk : α → List VP} {xs : List α} {k : Nat}
def jz (g:Gr α) (o:Nat):VP:=.pure fun v=>∃b,g.ob=some b∧v=.pointer (some ⟨b,o,none⟩)
instance {g:Gr α} {o:Nat}:One (jz g o):=⟨fun w F v h=>by obtain⟨b,_,rfl⟩:=h;rfl⟩
instance {g:Gr α} {o:Nat}:Shape (jz g o) [jz g o]:=.of_one inferInstance
theorem Has.ptrG {g:Gr α} {o b:Nat} (hob:g.ob=some b) (h:Has E Γ M x (jz g o)):Has E Γ M x (qX b o):=fun a w F s=>by
 obtain⟨b',hb,e⟩:=h a w F s
 obtain rfl:b=b':=by rw[hob] at hb;exact Option.some.inj hb
 exact e
theorem Has.winG {g:Gr α} {n b:Nat} (hob:g.ob=some b) (h:Has E Γ M x (ze g n)):Has E Γ M x (qW b 0 n g.c):=fun a w F s=>by
 rcases h a w F s with ⟨h0,_⟩|⟨b',hb,e,h1,h2⟩
 ·rw[hob] at h0;cases h0
 ·obtain rfl:b=b':=by rw[hob] at hb;exact Option.some.inj hb
  exact⟨e,by omega,h2⟩
theorem noneG {g:Gr α} {n:Nat} (hob:g.ob=none) (h:Has E Γ M x (ze g n)):∀a w F,Sat E Γ M a w F→n=0:=fun a w F s=>by
 rcases h a w F s with ⟨_,h0,_⟩|⟨b',hb,_⟩
 ·exact h0
 ·rw[hob] at hb;cases hb
theorem OK1.ixGr {e:TypeId} {n m:Nat} {g:Gr α} {g0:Bool} {z:Int} (hT:slB P T=some e) (ht:tyB P e=some (m,g0)) (hx:Has E Γ M x (ze g n)) (hy:Has E Γ M y (isI z)) (h:0≤z∧z<n):
    OK1 E P Γ M ⟨d,.indexAddr T x y,ty,pos,after,gd⟩ (jz g (z.toNat*m)):=by
  cases hob:g.ob with
  | none=>
    intro a w F s
    have:=noneG hob hx a w F s
    omega
  | some b=>
    intro a w F s K Q' hK
    refine OK1.ixWin hT ht (hx.winG hob) hy h a w F s K Q' fun v w' F' ad hv=>hK v w' F' ad ?_
    refine⟨b,hob,?_⟩
    rw[show z.toNat*m=0+z.toNat*m by omega]
    exact hv
theorem OK1.absurdG {o:Oper} {S:VP} {g:Gr α} {j:Nat} (hob:g.ob=none) (hx:Has E Γ M x (jz g j)):OK1 E P Γ M o S:=fun a w F s=>by
 obtain⟨b,hb,_⟩:=hx a w F s
 rw[hob] at hb;cases hb
theorem Ops.absurdG {g:Gr α} {j:Nat} (hob:g.ob=none) (hx:Has E Γ M x (jz g j)) {l:List Oper}:Ops E P ops Q l Γ M:=fun a w F s=>by
 obtain⟨b,hb,_⟩:=hx a w F s
 rw[hob] at hb;cases hb
theorem OK1.loadGK {i j:Nat} {g:Gr α} {ys:List α} {y':α} (hk:∀y,(fk y).length=k) (hx:Has E Γ M x (jz g (j*k))) (hM:M[i]?=some (zj fk g ys)) (hT:tyB P T=some (k,true)) (hS:ys[j]?=some y'):
    OK1 E P Γ M ⟨d,.load T x,ty,pos,after,gd⟩ (zk (fk y')):=by
  cases hob:g.ob with
  | none=>exact OK1.absurdG hob hx
  | some b=>
    refine OK1.loadK (xs:=ys++g.sp) (i:=i) hk (hx.ptrG hob) (by rw[hM];unfold zj;rw[hob]) hT ?_
    have hj:j<ys.length:=by
      rcases Nat.lt_or_ge j ys.length with h|h
      · exact h
      · rw[List.getElem?_eq_none h] at hS;cases hS
    rw[List.getElem?_append_left hj];exact hS
theorem OK1.loadGM {i j:Nat} {g:Gr α} {ys:List α} {y':α} (hx:Has E Γ M x (jz g (j*1))) (hM:M[i]?=some (grM f g ys)) (hT:tyB P T=some (1,false)) (hS:ys[j]?=some y'):
    OK1 E P Γ M ⟨d,.load T x,ty,pos,after,gd⟩ (f y'):=by
  cases hob:g.ob with
  | none=>exact OK1.absurdG hob hx
  | some b=>
    rw[Nat.mul_one] at hx
    refine OK1.load1 (i:=i) (hx.ptrG hob) (Ss:=(ys++g.sp).map f) (by rw[hM];unfold grM;rw[hob]) hT ?_
    have hj:j<ys.length:=by
      rcases Nat.lt_or_ge j ys.length with h|h
      · exact h
      · rw[List.getElem?_eq_none h] at hS;cases hS
    rw[List.getElem?_map,List.getElem?_append_left hj,hS];rfl
theorem Ops.storeGK {i j:Nat} {g0:Bool} {T:TypeId} {S:VP} {g:Gr α} {ys:List α} {z:α} [sh:Shape S (fk z)] [o1:Ones (fk z)] (hk:∀y,(fk y).length=k) (hx:Has E Γ M x (jz g (j*k))) (hy:Has E Γ M y S)
    (hM:M[i]?=some (zj fk g ys)) (hT:tyB P T=some (k,g0)) (hl:j<ys.length) {M':Mem} (hM':M.set i (zj fk g (ys.set j z))=M') (kk:Ops E P ops Q rest Γ M'):Ops E P ops Q (⟨none,.store T x y,ty,pos,after,none⟩::rest) Γ M:=by
  cases hob:g.ob with
  | none=>exact Ops.absurdG hob hx
  | some b=>
    refine .storeK (z:=z) (xs:=ys++g.sp) (i:=i) (b:=b) (j:=j) hk (hx.ptrG hob) hy (by rw[hM];unfold zj;rw[hob]) hT (by rw[List.length_append];omega) (M':=M') ?_ kk
    rw[←hM']
    congr 1
    unfold zj
    rw[hob,List.set_append_left _ _ hl]
theorem Ops.storeGM {i j:Nat} {T:TypeId} {g:Gr α} {ys:List α} {z:α} [sh:Shape (f z) [f z]] [o1:One (f z)] (hx:Has E Γ M x (jz g (j*1))) (hy:Has E Γ M y (f z))
    (hM:M[i]?=some (grM f g ys)) (hT:tyB P T=some (1,false)) (hl:j<ys.length) {M':Mem} (hM':M.set i (grM f g (ys.set j z))=M') (kk:Ops E P ops Q rest Γ M'):Ops E P ops Q (⟨none,.store T x y,ty,pos,after,none⟩::rest) Γ M:=by
  cases hob:g.ob with
  | none=>exact Ops.absurdG hob hx
  | some b=>
    rw[Nat.mul_one] at hx
    refine .storeM (z:=z) (xs:=ys++g.sp) (i:=i) (b:=b) (off:=j) (hx.ptrG hob) hy (by rw[hM];unfold grM;rw[hob]) hT (by rw[List.length_append];omega) (M':=M') ?_ kk
    rw[←hM']
    congr 1
    unfold grM
    rw[hob,List.set_append_left _ _ hl]
def yW : VP:=.pure fun v=>v=.pointer none
instance : One yW:=⟨fun w F v h=>by rw[show v=.pointer none from h];rfl⟩
instance : Shape yW [yW]:=.of_one inferInstance
theorem Has.cP : Has E Γ M (.const (.pointer none)) yW:=fun _ _ _ _=>rfl
theorem Tri.drhS {id:Nat} {l:List Oper} {Ms:Mem} (hs:Ms.Sublist M) (h:DrH E P id l Γ M Ms Q 0 []):Tri E P (.region id l.toArray true) Γ M Q:=h [] .nil (fun t S ht=>by simp[zR] at ht)
theorem Cv.perm {M':Mem} (h:M.Perm M'):Cv E Γ M Γ M':=fun a w F s=>
 ⟨F,{ s with mem:=⟨(h.pairwise_iff (fun {x y} hxy=>by
  rcases hxy with h1|h1
  ·by_cases h2:y.1=none
   ·exact .inl h2
   ·exact .inr (fun e=>h2 (e.trans h1))
  ·exact .inr (fun e=>h1 e.symm))).1 s.mem.apart,fun b C hb=>s.mem.each b C (h.mem_iff.2 hb)⟩ }⟩
/-! ### functions over memory of their caller's -/
structure MemIn (M:Mem) (w:World) (F:Blk):Prop where
 apart:M.Pairwise (fun x y=>x.1=none∨x.1≠y.1)
 each:∀(b:Nat) (C:MP),(some b,C)∈M→b<w.heap.size∧¬F b∧∃o,w.heap[b]?=some o∧C.h w F o
def dV (M:Mem):List Nat:=M.filterMap (·.1)
theorem jx {M:Mem} {b:Nat}:b∈dV M↔∃C,(some b,C)∈M:=by
 unfold dV
 rw[List.mem_filterMap]
 constructor
 ·rintro⟨⟨k,C⟩,h1,h2⟩
  obtain rfl:k=some b:=h2
  exact⟨C,h1⟩
 ·rintro⟨C,h⟩;exact⟨_,h,rfl⟩
def iD (w:World) (F:Blk) (W:List Nat) (R:VP→Mem→Prop):Ending→World→Prop:=fun e w'=>∃v S M' F',e=.returned v∧R S M'∧Keep W w w'∧(∀k,F k→F' k)∧(∀k,F' k→aE F w w' k)∧S.h w' F' v∧
 M'.Pairwise (fun x y=>x.1=none∨x.1≠y.1)∧∀(b:Nat) (C:MP),(some b,C)∈M'→(w.heap.size≤b∨b∈W)∧b<w'.heap.size∧¬F' b∧∃o,w'.heap[b]?=some o∧C.h w' F' o
def CtrX (P:Program) (f:FuncId) (args:List VP) (M:Mem) (R:VP→Mem→Prop):Prop:=
 iE P f∧∀(w:World) (F:Blk) (vs:List Value),(∀k,F k→k<w.heap.size)→MemIn M w F→All2 args w F vs→Calls P f vs.toArray w (iD w F (dV M) R)
theorem CtrX.intro {f : FuncId} {fn : Func} {c : Code} {args : List VP} {M : Mem} {R : VP → Mem → Prop} (hf : P.funcs[f]? = some fn) (hb : fn.body = some c) (hn : (fn.name == "runtime.NumGoroutine") = false) {nt : Nat} (hnt : fn.ntmps = nt)
  (hsz:Nat.ble args.length nt=true) (h:∀w F,Tri ⟨w,F,dV M,nt⟩ P c (jD 0 args) M (bodyPost P fn (iD w F (dV M) R))):CtrX P f args M R:=by
 subst hnt
 refine⟨⟨fn,hf,by simp[hb],hn⟩,fun w F vs hF hm hargs=>?_⟩
 have hlen:=hargs.len
 have hsz':args.length≤fn.ntmps:=by simpa using Nat.le_of_ble_eq_true hsz
 refine calls_of_wp hf hb (h w F _ w F ?_)
 refine { defers:=rfl,size:=?_,keep:=Keep.refl _ _,f0:=fun _ h=>h,fnew:=fun _ h=>.inl h,flt:=hF,slots:=?_,mem:=⟨hm.apart,fun k C hk=>?_⟩ }
 ·simp;omega
 ·intro t S ht
  obtain⟨_,h2⟩:=aC args 0 t S ht
  obtain⟨v,hv,hS⟩:=hargs.get t S (by simpa using h2)
  have:(vs.toArray++Array.replicate (fn.ntmps-vs.toArray.size) undef).getD t undef=v:=by
   have hlt:t<vs.length:=by
    rcases Nat.lt_or_ge t vs.length with h|h
    ·exact h
    ·simp[List.getElem?_eq_none h] at hv
   have e:vs[t]=v:=by rw[List.getElem?_eq_getElem hlt] at hv;exact Option.some.inj hv
   simp[Array.getElem?_append,hlt,e]
  rw[this];exact hS
 ·obtain⟨h1,h2,h3⟩:=hm.each k C hk
  exact⟨.inr (jx.2 ⟨C,hk⟩),h1,h2,h3⟩
theorem CtrX.i {f:FuncId} {fn:Func} {c:Code} {args:List VP} {M:Mem} {R:VP→Mem→Prop} {nt:Nat} (hf:P.funcs[f]?=some fn) (hb:fn.body=some c) (hnt:fn.ntmps=nt)
    (h : ∀ w F, Tri ⟨w, F, dV M, nt⟩ P c (jD 0 args) M (bodyPost P fn (iD w F (dV M) R))) (hn : (fn.name == "runtime.NumGoroutine") = false := by kernel_rfl) (hsz : Nat.ble args.length nt = true := by exact rfl) : CtrX P f args M R := .intro hf hb hn hnt hsz h
theorem Ops.callX {g:FuncId} {xs:List Operand} {ts:Array TypeId} {args:List VP} {Mp Mr:Mem} {R:VP→Mem→Prop} {d:Nat} (hf:CtrX P g args Mp R) (hp:M.Perm (Mp++Mr)) (hx:HasL E Γ M xs args) (hd:Nat.blt d E.n=true)
    (kk:∀S M',R S M'→Ops E P ops Q rest ((d,S)::Γ) (M'++Mr)):Ops E P ops Q (⟨some d,.call ⟨.value (.func g),xs.toArray,ts⟩,ty,pos,after,none⟩::rest) Γ M:=by
  intro a w F s0
  refine wpList_plain rfl fun K hK=>?_
  unfold Oper.wp
  have hr:(execOp a.eval (⟨some d,.call ⟨.value (.func g),xs.toArray,ts⟩,ty,pos,after,none⟩:Oper)).run P w=.ok (.enter g (xs.map a.eval).toArray) w:=by
    have:=jh hf.1 (xs.map a.eval).toArray w
    simpa [go_sem] using this
  rw[hr]
  have hargs:=hx.all s0
  have s:Sat E Γ (Mp++Mr) a w F:=by
    obtain⟨F',h⟩:=(Cv.perm (E:=E) (Γ:=Γ) hp) a w F s0
    exact { s0 with mem:=⟨h.mem.apart,fun b C hb=>s0.mem.each b C (hp.mem_iff.2 hb)⟩ }
  have hapart:=List.pairwise_append.1 s.mem.apart
  have hmp:MemIn Mp w F:=⟨hapart.1,fun b C hb=>by
    obtain⟨_,h2,h3,h4⟩:=s.mem.each b C (List.mem_append_left _ hb)
    exact⟨h2,h3,h4⟩⟩
  refine (hf.2 w F _ s.flt hmp hargs).mono ?_
  rintro e w' ⟨v,S,M',F',rfl,hR,hk,hsub,hnew,hv,hap,heach⟩
  have hd':d<E.n:=by simpa [Nat.blt_eq] using hd
  have hW:∀b,b∈dV Mp→¬F b:=fun b hb hF=>by
    obtain⟨C,hC⟩:=jx.1 hb
    exact (hmp.each b C hC).2.1 hF
  have hsame:∀b,F b→w'.heap[b]?=w.heap[b]?:=fun b hb=>hk.block b (s.flt b hb) (fun h=>hW b h hb)
  have hown:∀b,b∈dV Mp→E.w0.heap.size≤b∨b∈E.W:=fun b hb=>by
    obtain⟨C,hC⟩:=jx.1 hb
    exact (s.mem.each b C (List.mem_append_left _ hC)).1
  have hrest:∀(b:Nat) (C:MP),(some b,C)∈Mr→b∉dV Mp∧b<w.heap.size:=fun b C hb=>by
    refine⟨fun h=>?_,(s.mem.each b C (List.mem_append_right _ hb)).2.1⟩
    obtain⟨C',hC'⟩:=jx.1 h
    have:=hapart.2.2 _ hC' _ hb
    rcases this with h|h
    · cases h
    · exact h rfl
  have s':Sat E Γ (M'++Mr) a w' F':={
    defers:=s.defers,size:=s.size
    keep:=by
      refine⟨hk.os.trans s.keep.os,hk.tape.trans s.keep.tape,hk.output.trans s.keep.output,Nat.le_trans s.keep.size hk.size,fun k hk0 hkW=>?_⟩
      rw[hk.block k (Nat.lt_of_lt_of_le hk0 s.keep.size) (fun h=>by rcases hown k h with h'|h';omega;exact hkW h')]
      exact s.keep.block k hk0 hkW
    f0:=fun b h=>hsub b (s.f0 b h)
    fnew:=fun b h=>by
      rcases hnew b h with h1|h1
      · rcases s.fnew b h1 with h2|h2
        · exact .inl h2
        · exact .inr ⟨h2.1,Nat.lt_of_lt_of_le h2.2 hk.size⟩
      · exact .inr ⟨Nat.le_trans s.keep.size h1.1,h1.2⟩
    flt:=fun b h=>by
      rcases hnew b h with h1|h1
      · exact Nat.lt_of_lt_of_le (s.flt b h1) hk.size
      · exact h1.2
    slots:=fun t S h=>S.mono _ _ _ _ _ (s.slots t S h) hsame hsub
    mem:=by
      refine⟨List.pairwise_append.2 ⟨hap,hapart.2.1,?_⟩,?_⟩
      · rintro⟨k,C⟩ h1 ⟨k',C'⟩ h2
        cases k with
        | none=>exact .inl rfl
        | some b=>
          refine .inr fun e=>?_
          subst e
          obtain⟨g1,_⟩:=heach b C h1
          obtain⟨g2,g3⟩:=hrest b C' h2
          rcases g1 with g1|g1
          · omega
          · exact g2 g1
      · intro b C hb
        rcases List.mem_append.1 hb with h|h
        · obtain⟨g1,g2,g3,g4⟩:=heach b C h
          refine⟨?_,g2,g3,g4⟩
          rcases g1 with g1|g1
          · exact .inl (Nat.le_trans s.keep.size g1)
          · exact hown b g1
        · obtain⟨g1,g2,g3,o,g4,g5⟩:=s.mem.each b C (List.mem_append_right _ h)
          obtain⟨r1,r2⟩:=hrest b C h
          refine⟨g1,Nat.lt_of_lt_of_le g2 hk.size,fun hF=>?_,o,(hk.block b g2 r1).trans g4,C.mono _ _ _ _ _ g5 hsame hsub⟩
          rcases hnew b hF with h1|h1
          · exact g3 h1
          · omega }
  exact hK _ _ (kk S M' hR _ _ _ (s'.put hd' hv))
theorem gf {fn:Func} {R:VP→Mem→Prop} {S:VP} {W:List Nat} {e:Exit} {a:Act} {w:World} {F:Blk} (he:e=.ret∨e=.normal) (s:Sat E Γ M a w F) (hw:E.W=W) {v:Value} (hv:(results fn a.tmps).run P w=.ok v w) (hS:S.h w F v) (hR:R S M):
  bodyPost P fn (iD E.w0 E.F0 W R) e a w:=by
 have hk:=s.keep
 rw[hw] at hk
 have hb:a.defers=[]∧∃v,(results fn a.tmps).run P w=.ok v w∧iD E.w0 E.F0 W R (.returned v) w:=
  ⟨s.defers,_,hv,v,S,M,F,rfl,hR,hk,s.f0,fun k h=>(s.fnew k h).imp id id,hS,s.mem.apart,fun b C hb=>by
   obtain⟨g1,g2,g3,g4⟩:=s.mem.each b C hb
   rw[hw] at g1
   exact⟨g1,g2,g3,g4⟩⟩
 rcases he with rfl|rfl <;> exact hb
theorem zDF {fn:Func} {r:ResultVar} {R:VP→Mem→Prop} {S:VP} {W:List Nat} {e:Exit} (he:e=.ret∨e=.normal) (hr:fn.results=#[r]) (hw:E.W=W) (h:ResL E P Γ M [r] [S]) (hR:R S M):At E Γ M (bodyPost P fn (iD E.w0 E.F0 W R)) e:=by
 intro a w F s
 obtain⟨vs,h1,h2⟩:=xA hr h s
 match vs,h2 with
 | [v],h2=>exact gf he s hw (by simpa using h1) h2.1 hR
 | [],h2=>exact h2.elim
 | _::_::_,h2=>exact h2.2.elim
theorem zHO {fn:Func} {R:VP→Mem→Prop} {W:List Nat} {e:Exit} (he:e=.ret∨e=.normal) (hr:fn.results=#[]) (hw:E.W=W) (hR:R (zZ []) M):At E Γ M (bodyPost P fn (iD E.w0 E.F0 W R)) e:=by
 intro a w F s
 obtain⟨vs,h1,h2⟩:=xA (rs:=[]) hr .nil s
 cases vs with
 | nil=>exact gf he s hw (by simpa using h1) (S:=zZ []) ⟨[],rfl,trivial⟩ hR
 | cons=>exact h2.elim
theorem CtrX.toCtr {f:FuncId} {args:List VP} {R:VP→Mem→Prop} {S:VP} (h:CtrX P f args [] R) (hR:∀S' M',R S' M'→S'=S):Ctr P f args S:=
 ⟨h.1,fun w F vs hF hargs=>(h.2 w F vs hF ⟨List.Pairwise.nil,by simp⟩ hargs).mono (by
  rintro e w' ⟨v,S',M',F',rfl,hr,hk,hsub,hnew,hv,_⟩
  obtain rfl:=hR S' M' hr
  exact⟨v,rfl,hk,S'.mono _ _ _ _ _ hv (fun _ _=>rfl) hnew⟩)⟩
end
end Go.En
namespace Go.Nt
abbrev W : Nat:=18446744073709551616
def val : List Nat→Nat
 | []=>0
 | x::xs=>x+W*val xs
def zT : Nat→Nat→List Nat
 | 0,_=>[]
 | k+1,n=>n%W::zT k (n/W)
def zA (n:Nat):List Nat:=if h:n=0 then [] else n%W::zA (n/W)
termination_by n
decreasing_by exact Nat.div_lt_self (Nat.pos_of_ne_zero h) (by decide)
def Ok (xs:List Nat):Prop:=∀x∈xs,x<W
theorem zJ : zA 0=[]:=by unfold zA;simp
theorem vr {n:Nat} (h:n≠0):zA n=n%W::zA (n/W):=by rw[zA];simp[h]
theorem lD : (List.length (zA 0))=0:=by rw[zJ];rfl
theorem wY {n:Nat} (h:n≠0):(List.length (zA n))=(List.length (zA (n/W)))+1:=by rw[vr h];rfl
theorem zB (n:Nat):val (zA n)=n:=by
  induction n using Nat.strongRecOn with
  | _ n ih=>
    by_cases h:n=0
    · subst h;rw[zJ];rfl
    · rw[vr h,val,ih _ (Nat.div_lt_self (Nat.pos_of_ne_zero h) (by decide))]
      have:=Nat.mod_add_div n W;omega
theorem aj (n:Nat):Ok (zA n):=by
  induction n using Nat.strongRecOn with
  | _ n ih=>
    by_cases h:n=0
    · subst h;rw[zJ];intro x hx;simp at hx
    · rw[vr h];intro x hx
      rcases List.mem_cons.1 hx with rfl|hx
      · exact Nat.mod_lt _ (by decide)
      · exact ih _ (Nat.div_lt_self (Nat.pos_of_ne_zero h) (by decide)) x hx
theorem qB : ∀(k n:Nat),(zT k n).length=k
 | 0,_=>rfl
 | k+1,n=>by simp[zT,qB k]
theorem jf : ∀(k n:Nat),Ok (zT k n)
  | 0,_=>fun x hx=>by simp[zT] at hx
  | k+1,n=>fun x hx=>by
    rcases List.mem_cons.1 hx with rfl|hx
    · exact Nat.mod_lt _ (by decide)
    · exact jf k _ x hx
theorem xz : ∀(k n:Nat),val (zT k n)=n%W^k
  | 0,n=>by simp[zT,val,Nat.mod_one]
  | k+1,n=>by
    rw[zT,val,xz k,Nat.pow_succ,Nat.mul_comm (W^k) W,Nat.mod_mul]
theorem oE {xs:List Nat} (h:Ok xs):val xs<W^xs.length:=by
  induction xs with
  | nil=>simp[val]
  | cons x xs ih=>
    have h1:=h x (by simp)
    have h2:=ih (fun y hy=>h y (by simp[hy]))
    rw[val,List.length_cons,Nat.pow_succ]
    have:W*val xs+W≤W*W^xs.length:=by rw[←Nat.mul_succ];exact Nat.mul_le_mul_left _ h2
    rw[Nat.mul_comm (W^xs.length)];omega
theorem jo (xs ys:List Nat):val (xs++ys)=val xs+W^xs.length*val ys:=by
 induction xs with
 | nil=>simp[val]
 | cons x xs ih=>rw[List.cons_append,val,ih,val,List.length_cons,Nat.pow_succ];grind
theorem iu {xs ys:List Nat} (h:Ok xs) (k:Ok ys):Ok (xs++ys):=fun x hx=>by
 rcases List.mem_append.1 hx with h1|h1
 ·exact h x h1
 ·exact k x h1
theorem pi : ∀{xs ys:List Nat},Ok xs→Ok ys→xs.length=ys.length→val xs=val ys→xs=ys
  | [],[],_,_,_,_=>rfl
  | x::xs,y::ys,h1,h2,hl,hv=>by
    have hx:=h1 x (by simp)
    have hy:=h2 y (by simp)
    simp only[val] at hv
    have e:x=y:=by
      have:=congrArg (·%W) hv
      simp only[Nat.add_mul_mod_self_left] at this
      rwa [Nat.mod_eq_of_lt hx,Nat.mod_eq_of_lt hy] at this
    subst e
    have e2:val xs=val ys:=Nat.eq_of_mul_eq_mul_left (by decide:0<W) (by omega)
    rw[pi (fun z hz=>h1 z (by simp[hz])) (fun z hz=>h2 z (by simp[hz])) (by simpa using hl) e2]
theorem vg {xs:List Nat} {k n:Nat} (h:Ok xs) (hl:xs.length=k) (hv:val xs=n%W^k):xs=zT k n:=
 pi h (jf _ _) (by rw[hl,qB]) (by rw[hv,xz])
theorem xI (n:Nat):n<W^(List.length (zA n)):=by have:=oE (aj n);rwa [zB] at this
theorem ay {n k:Nat} (h:n<W^k):(List.length (zA n))≤k:=by
  induction k generalizing n with
  | zero => have : n = 0 := by simpa using h
            subst this;rw[lD];exact Nat.le_refl _
  | succ k ih=>
    by_cases h0:n=0
    · subst h0;rw[lD];omega
    · rw[wY h0]
      have:n/W<W^k:=by rw[Nat.div_lt_iff_lt_mul (by decide)];rwa [Nat.pow_succ] at h
      have:=ih this;omega
theorem qF {m n:Nat} (h:m≤n):(List.length (zA m))≤(List.length (zA n)):=ay (Nat.lt_of_le_of_lt h (xI n))
theorem gN {n:Nat} (h:n≠0):W^((List.length (zA n))-1)≤n:=by
 apply Classical.byContradiction;intro hc
 have:=ay (Nat.lt_of_not_le hc)
 have:=wY h;omega
theorem wX {xs:List Nat} (h:Ok xs):(List.length (zA (val xs)))≤xs.length:=ay (oE h)
def dig (n i:Nat):Nat:=n/W^i%W
theorem xB (n i:Nat):dig n i<W:=Nat.mod_lt _ (by decide)
theorem qH (n i:Nat):(zA n).getD i 0=dig n i:=by
  induction i generalizing n with
  | zero=>
    by_cases h:n=0
    · subst h;rw[zJ];simp[dig]
    · rw[vr h];simp[dig]
  | succ i ih=>
    by_cases h:n=0
    · subst h;rw[zJ];simp[dig]
    · rw[vr h,List.getD_cons_succ,ih,dig,dig,Nat.div_div_eq_div_mul,Nat.pow_succ,Nat.mul_comm W]
theorem zAN {xs:List Nat} (h:Ok xs) (i:Nat):xs.getD i 0=dig (val xs) i:=by
  induction xs generalizing i with
  | nil=>simp[dig,val]
  | cons x xs ih=>
    have hx:=h x (by simp)
    cases i with
    | zero=>simp[dig,val,Nat.mod_eq_of_lt hx]
    | succ i=>
      rw[List.getD_cons_succ,ih (fun y hy=>h y (by simp[hy])),dig,dig,val,Nat.pow_succ,Nat.mul_comm (W^i),←Nat.div_div_eq_div_mul]
      rw[Nat.add_mul_div_left _ _ (by decide),Nat.div_eq_of_lt hx,Nat.zero_add]
theorem ak (k n:Nat):zT (k+1) n=zT k n++[dig n k]:=by
  induction k generalizing n with
  | zero=>simp[zT,dig]
  | succ k ih=>
    rw[zT,ih,zT,List.cons_append,dig,dig,Nat.div_div_eq_div_mul,Nat.pow_succ,Nat.mul_comm W]
theorem aA (n k:Nat):n%W^(k+1)=n%W^k+W^k*dig n k:=by
 rw[Nat.pow_succ,Nat.mod_mul,dig]
theorem cg (n:Nat):zA n=zT ((List.length (zA n))) n:=vg (aj n) rfl (by rw[zB,Nat.mod_eq_of_lt (xI n)])
theorem bq {n:Nat} (h:n≠0):dig n ((List.length (zA n))-1)≠0:=by
 intro h0
 have h1:=gN h
 have h2:=xI n
 have e:(List.length (zA n))-1+1=(List.length (zA n)):=by have:=wY h;omega
 have h3:n/W^((List.length (zA n))-1)<W:=by rw[Nat.div_lt_iff_lt_mul (Nat.pow_pos (by decide)),Nat.mul_comm,←Nat.pow_succ];rwa [show ((List.length (zA n))-1).succ=(List.length (zA n)) from e]
 rw[dig,Nat.mod_eq_of_lt h3] at h0
 have:=(Nat.div_eq_zero_iff.1 h0).resolve_left (Nat.ne_of_gt (Nat.pow_pos (by decide)))
 omega
theorem aH {n i:Nat} (h:(List.length (zA n))≤i):dig n i=0:=by
 rw[dig,Nat.div_eq_of_lt (Nat.lt_of_lt_of_le (xI n) (Nat.pow_le_pow_right (by decide) h))];rfl
theorem iI {xs:List Nat} {k:Nat} (h:Ok xs) (hk:k≤xs.length) (h0:∀i,k≤i→xs.getD i 0=0) (ht:k=0∨xs.getD (k-1) 0≠0):xs.take k=zA (val xs):=by
  have hv:val xs<W^k:=by
    clear ht
    induction xs generalizing k with
    | nil=>simp[val];exact Nat.pow_pos (by decide)
    | cons x xs ih=>
      cases k with
      | zero=>
        have hx:=h0 0 (Nat.le_refl _)
        simp at hx
        have:=ih (fun y hy=>h y (by simp[hy])) (Nat.zero_le _) (fun i _=>by simpa using h0 (i+1) (by omega))
        simp at this
        simp[val,hx,this]
      | succ k=>
        have:=ih (fun y hy=>h y (by simp[hy])) (by simpa using hk) (fun i hi=>by simpa using h0 (i+1) (by omega))
        have hx:=h x (by simp)
        rw[val,Nat.pow_succ,Nat.mul_comm (W^k)]
        have h3:W*val xs+W≤W*W^k:=by rw[←Nat.mul_succ];exact Nat.mul_le_mul_left _ this
        omega
  have hn:(List.length (zA (val xs)))=k:=by
    have h1:=ay hv
    rcases ht with rfl|ht
    · omega
    · rcases Nat.lt_or_ge ((List.length (zA (val xs)))) k with h2|h2
      · exfalso;apply ht;rw[zAN h];exact aH (by omega)
      · omega
  have hok:Ok (xs.take k):=fun x hx=>h x (List.mem_of_mem_take hx)
  have htv:val (xs.take k)=val xs:=by
    have e:=jo (xs.take k) (xs.drop k)
    rw[List.take_append_drop] at e
    have hlen:(xs.take k).length=k:=by simp;omega
    rw[hlen] at e
    have hd:val (xs.drop k)=0:=by
      rcases Nat.eq_zero_or_pos (val (xs.drop k)) with h1|h1
      · exact h1
      · have:=Nat.le_mul_of_pos_right (W^k) h1;omega
    rw[hd] at e;omega
  rw[cg,hn]
  exact vg hok (by simp;omega) (by rw[htv,Nat.mod_eq_of_lt hv])
theorem eF {n:Nat} (h:n<W):zA n=if n=0 then [] else [n]:=by
 by_cases h0:n=0
 ·subst h0;rw[zJ];rfl
 ·rw[if_neg h0,vr h0,Nat.mod_eq_of_lt h,Nat.div_eq_of_lt h,zJ]
theorem eS {n:Nat} (h:(List.length (zA n))≤1):n<W:=by
 have:=xI n
 have h2:W^(List.length (zA n))≤W^1:=Nat.pow_le_pow_right (by decide) h
 simp at h2;omega
theorem vQ (k:Nat):val (List.replicate k 0)=0:=by
 induction k with
 | zero=>rfl
 | succ k ih=>rw[List.replicate_succ,val,ih];rfl
def aY (m n:Nat):Int:=if m<n then -1 else if n<m then 1 else 0
end Go.Nt
namespace Go.Nt
theorem rU {a b:Nat} (ha:a<4294967296) (hb:b<4294967296):a*b≤18446744065119617025:=by
 have:a*b≤4294967295*4294967295:=Nat.mul_le_mul (by omega) (by omega)
 omega
theorem mZ {x y:Nat} (hx:x<18446744073709551616) (hy:y<18446744073709551616):
  x%2^32*(y%2^32)≤18446744065119617025∧x/2^32*(y%2^32)≤18446744065119617025∧x%2^32*(y/2^32)≤18446744065119617025∧x/2^32*(y/2^32)≤18446744065119617025:=
 ⟨rU (by omega) (by omega),rU (by omega) (by omega),rU (by omega) (by omega),rU (by omega) (by omega)⟩
theorem yc (x y:Nat):x/2^32*(y/2^32)+(x/2^32*(y%2^32)+x%2^32*(y%2^32)/2^32)/2^32+
  ((x/2^32*(y%2^32)+x%2^32*(y%2^32)/2^32)%2^32+x%2^32*(y/2^32))/2^32=x*y/18446744073709551616:=by
 have hx:x=x%2^32+4294967296*(x/2^32):=by omega
 have hy:y=y%2^32+4294967296*(y/2^32):=by omega
 generalize x/2^32=x1 at*
 generalize y/2^32=y1 at*
 generalize x%2^32=x0 at*
 generalize y%2^32=y0 at*
 have e:x*y=x0*y0+4294967296*(x1*y0+x0*y1)+18446744073709551616*(x1*y1):=by rw[hx,hy];grind
 rw[e]
 generalize x0*y0=p at*
 generalize x1*y0=q at*
 generalize x0*y1=r at*
 generalize x1*y1=s at*
 omega
theorem tg {m n:Nat} (h:(List.length (zA m))=(List.length (zA n))):m/W^(List.length (zA m))=n/W^(List.length (zA m)):=by
 rw[Nat.div_eq_of_lt (xI m),h,Nat.div_eq_of_lt (xI n)]
theorem xT (n k:Nat) (hk:0<k):n/W^(k-1)=W*(n/W^k)+dig n (k-1):=by
 have e:W^k=W^(k-1)*W:=by rw[←Nat.pow_succ];congr 1;omega
 rw[e,←Nat.div_div_eq_div_mul,dig]
 exact (Nat.div_add_mod _ _).symm
theorem zBK {m n k:Nat} (hk:0<k) (h:m/W^k=n/W^k) (hd:(zA m).getD (k-1) 0=(zA n).getD (k-1) 0):m/W^(k-1)=n/W^(k-1):=by
 rw[qH,qH] at hd
 rw[xT m k hk,xT n k hk,h,hd]
theorem kA {m n k:Nat} (h:m/W^k<n/W^k):m<n:=by
 apply Classical.byContradiction;intro hc
 have:=Nat.div_le_div_right (c:=W^k) (Nat.le_of_not_lt hc);omega
theorem cmp_lt {m n k:Nat} (hk:0<k) (h:m/W^k=n/W^k) (hd:(zA m).getD (k-1) 0<(zA n).getD (k-1) 0) : -1=aY m n:=by
 rw[qH,qH] at hd
 have:m<n:=kA (k:=k-1) (by rw[xT m k hk,xT n k hk,h];omega)
 unfold aY;rw[if_pos this]
theorem cmp_gt {m n k:Nat} (hk:0<k) (h:m/W^k=n/W^k) (hd:(zA n).getD (k-1) 0<(zA m).getD (k-1) 0):1=aY m n:=by
 rw[qH,qH] at hd
 have:n<m:=kA (k:=k-1) (by rw[xT m k hk,xT n k hk,h];omega)
 unfold aY;rw[if_neg (by omega),if_pos this]
theorem cmp_eq {m n k:Nat} (h:m/W^k=n/W^k) (hk:k=0):0=aY m n:=by
 subst hk;simp at h;subst h;simp[aY]
theorem mo {m n:Nat} (h:(List.length (zA m))<(List.length (zA n))):m<n:=by
 apply Classical.byContradiction;intro hc
 have:=qF (Nat.le_of_not_lt hc);omega
theorem pM {m n:Nat} (h:(List.length (zA m))<(List.length (zA n))) : -1=aY m n:=by unfold aY;rw[if_pos (mo h)]
theorem pN {m n:Nat} (h:(List.length (zA n))<(List.length (zA m))):1=aY m n:=by have:=mo h;unfold aY;rw[if_neg (by omega),if_pos this]
end Go.Nt
namespace Go.Nt
def xO (N i m:Nat):List Nat:=zT i N++List.replicate (m-i) 0
theorem cH (N m:Nat):List.replicate m 0=xO N 0 m:=rfl
theorem bM {N i m:Nat} (h:i≤m):(xO N i m).length=m:=by simp[xO,qB];omega
theorem fV (N m:Nat):xO N m m=zT m N:=by simp[xO]
theorem wm {N i m d:Nat} (h:i<m) (hd:d=dig N i):(xO N i m).set i d=xO N (i+1) m:=by
 subst hd
 unfold xO
 rw[List.set_append_right _ _ (by rw[qB];exact Nat.le_refl _),qB,Nat.sub_self,ak]
 have:m-i=(m-(i+1))+1:=by omega
 rw[this,List.replicate_succ,List.set_cons_zero]
 simp
theorem qv {N k:Nat} (h:N<W^k):zA (val (zT k N))=zA N:=by rw[xz,Nat.mod_eq_of_lt h]
theorem qD (k:Nat):0<W^k:=Nat.pow_pos (by decide)
theorem ax {a b:Nat} (h:a≤b):W^a≤W^b:=Nat.pow_le_pow_right (by decide) h
theorem vF {n k:Nat} (h:(List.length (zA n))≤k):n<W^k:=Nat.lt_of_lt_of_le (xI n) (ax h)
def car (p q i:Nat):Nat:=(p%W^i+q%W^i)/W^i
theorem nf (p q:Nat):0=car p q 0:=by simp[car,Nat.mod_one]
theorem pS (p q i:Nat):car p q i≤1:=by
 have h1:=Nat.mod_lt p (qD i)
 have h2:=Nat.mod_lt q (qD i)
 have:car p q i<2:=by unfold car;rw[Nat.div_lt_iff_lt_mul (qD i)];omega
 omega
theorem lj (p q i:Nat):(p+q)/W^i=p/W^i+q/W^i+car p q i:=by
 have h1:=Nat.mod_add_div p (W^i)
 have h2:=Nat.mod_add_div q (W^i)
 have e:p+q=(p%W^i+q%W^i)+W^i*(p/W^i+q/W^i):=by rw[Nat.mul_add];omega
 rw[e,Nat.add_mul_div_left _ _ (qD i)]
 unfold car;omega
theorem xb (n i:Nat):n/W^i=W*(n/W^(i+1))+dig n i:=by
 have:=xT n (i+1) (by omega);simpa using this
theorem lk (p q i:Nat):(dig p i+dig q i+car p q i)%W=dig (p+q) i:=by
 rw[show dig (p+q) i=(p+q)/W^i%W from rfl,lj]
 unfold dig
 generalize p/W^i=a
 generalize q/W^i=b
 generalize car p q i=c
 unfold W;omega
theorem sR (p q i:Nat):(dig p i+dig q i+car p q i)/W=car p q (i+1):=by
 have h1:=lj p q i
 have h2:=lj p q (i+1)
 have h3:=xb p i
 have h4:=xb q i
 have h5:=xb (p+q) i
 have h6:=lk p q i
 generalize car p q i=c at*
 generalize car p q (i+1)=c' at*
 generalize p/W^(i+1)=a' at*
 generalize q/W^(i+1)=b' at*
 generalize (p+q)/W^(i+1)=s' at*
 generalize p/W^i=a at*
 generalize q/W^i=b at*
 generalize (p+q)/W^i=s at*
 unfold W at *;omega
theorem zFV {p q k:Nat} (hp:p<W^k) (hq:q<W^k):car p q k=dig (p+q) k:=by
 have h:=lj p q k
 rw[Nat.div_eq_of_lt hp,Nat.div_eq_of_lt hq] at h
 have:=pS p q k
 unfold dig;rw[h];simp only[Nat.zero_add];rw[Nat.mod_eq_of_lt (Nat.lt_of_le_of_lt this (by decide))]
theorem zCB {p q k:Nat} (hp:p<W^k) (hq:q<W^k):p+q<W^(k+1):=by
 rw[Nat.pow_succ];generalize W^k=w at *;unfold W;omega
def bor (p q i:Nat):Nat:=if p%W^i<q%W^i then 1 else 0
theorem nj (p q:Nat):0=bor p q 0:=by simp[bor,Nat.mod_one]
theorem lg (p q i:Nat):bor p q i≤1:=by unfold bor;split <;> omega
theorem dU (p q i:Nat):(if dig p i<dig q i+bor p q i then 1 else 0)=bor p q (i+1):=by
 have h1:=aA p i
 have h2:=aA q i
 have h3:=Nat.mod_lt p (qD i)
 have h4:=Nat.mod_lt q (qD i)
 unfold bor
 rw[h1,h2]
 generalize p%W^i=a at*
 generalize q%W^i=b at*
 generalize dig p i=x at*
 generalize dig q i=y at*
 generalize W^i=w at*
 rcases Nat.lt_trichotomy x y with h|h|h
 ·have:w*x+w≤w*y:=by rw[←Nat.mul_succ];exact Nat.mul_le_mul_left _ h
  rw[if_pos (by omega),if_pos (by omega)]
 ·subst h
  by_cases hab:a<b
  ·rw[if_pos hab,if_pos (by omega),if_pos (by omega)]
  ·rw[if_neg hab,if_neg (by omega),if_neg (by omega)]
 ·have:w*y+w≤w*x:=by rw[←Nat.mul_succ];exact Nat.mul_le_mul_left _ h
  rw[if_neg (by split <;> omega),if_neg (by omega)]
theorem uY {p q:Nat} (h:q≤p) (i:Nat):(p-q)/W^i+q/W^i+bor p q i=p/W^i:=by
 have h1:=Nat.mod_add_div p (W^i)
 have h2:=Nat.mod_add_div q (W^i)
 have h3:=Nat.mod_lt p (qD i)
 have h4:=Nat.mod_lt q (qD i)
 have h5:=Nat.mod_add_div (p-q) (W^i)
 have h6:=Nat.mod_lt (p-q) (qD i)
 unfold bor
 generalize p%W^i=a at*
 generalize q%W^i=b at*
 generalize (p-q)%W^i=c at*
 generalize p/W^i=x at*
 generalize q/W^i=y at*
 generalize (p-q)/W^i=z at*
 have hw:=qD i
 generalize W^i=w at*
 have e:c+w*z+(b+w*y)=a+w*x:=by omega
 have e2:c+b+w*(z+y)=a+w*x:=by rw[Nat.mul_add];omega
 split
 ·have hz:w*(z+y)<w*x:=by
   apply Classical.byContradiction;intro hc
   have:c+b≤a:=by omega
   omega
  have h7:z+y<x:=Nat.lt_of_mul_lt_mul_left hz
  have h8:x≤z+y+1:=by
   apply Classical.byContradiction;intro hc
   have:w*(z+y+2)≤w*x:=Nat.mul_le_mul_left _ (by omega)
   rw[Nat.mul_add] at this;omega
  omega
 ·have h7:z+y<x+1:=by
   apply Nat.lt_of_mul_lt_mul_left (a:=w);rw[Nat.mul_add w x];omega
  have h8:x<z+y+1:=by
   apply Classical.byContradiction;intro hc
   have:w*(z+y+1)≤w*x:=Nat.mul_le_mul_left _ (by omega)
   rw[Nat.mul_add w (z+y)] at this
   omega
  omega
theorem pu {p q:Nat} (h:q≤p) (i:Nat):(dig p i+W-dig q i-bor p q i)%W=dig (p-q) i:=by
 have h1:=uY h i
 have h2:=uY h (i+1)
 have h3:=xb p i
 have h4:=xb q i
 have h5:=xb (p-q) i
 have h6:=dU p q i
 have h7:=xB (p-q) i
 have h8:=xB p i
 have h9:=xB q i
 have:=lg p q i
 generalize p/W^(i+1)=a' at*
 generalize q/W^(i+1)=b' at*
 generalize (p-q)/W^(i+1)=s' at*
 generalize p/W^i=a at*
 generalize q/W^i=b at*
 generalize (p-q)/W^i=s at*
 generalize bor p q i=e at*
 generalize bor p q (i+1)=e' at*
 unfold W at*
 split at h6 <;> omega
theorem zAS {N i m d k:Nat} (hk:i+1=m) (hi:k=i) (hd:d=dig N i):(((xO N i m).set k d).drop 0).take m=zT m N:=by
 subst hi
 rw[wm (by omega) hd,hk,fV,List.drop_zero]
 exact List.take_of_length_le (by rw[qB];exact Nat.le_refl _)
theorem kK {N i m:Nat} (hk:i=m):((xO N i m).drop 0).take m=zT m N:=by
 subst hk
 rw[fV,List.drop_zero]
 exact List.take_of_length_le (by rw[qB];exact Nat.le_refl _)
theorem dP {m n:Nat}:aY m n<0↔m<n:=by unfold aY;split <;> (try split) <;> omega
theorem zCW {p q k:Nat} (h:p<W^k):p-q<W^k:=by omega
def mix (k N' N m:Nat):List Nat:=zT k N'++zT (m-k) (N/W^k)
theorem jW {k N' N m:Nat} (h:k≤m):(mix k N' N m).length=m:=by simp[mix,qB];omega
theorem jE : ∀{k N j:Nat},j<k→(zT k N).getD j 0=dig N j
  | k+1,N,0,_=>by simp[zT,dig]
  | k+1,N,j+1,h=>by
    rw[zT,List.getD_cons_succ,jE (by omega),dig,dig,Nat.div_div_eq_div_mul,Nat.pow_succ,Nat.mul_comm W]
theorem mh {k N' N m j:Nat} (h:k≤j) (hj:j<m):(mix k N' N m).getD j 0=dig N j:=by
 unfold mix
 rw[List.getD_eq_getElem?_getD,List.getElem?_append_right (by rw[qB];exact h),qB,←List.getD_eq_getElem?_getD,jE (by omega),dig,dig,
  Nat.div_div_eq_div_mul,←Nat.pow_add]
 congr 3;omega
theorem fA {k N' N m d j:Nat} (h:k<m) (hj:j=k) (hd:d=dig N' k):(mix k N' N m).set j d=mix (k+1) N' N m:=by
 subst hd hj
 unfold mix
 rw[List.set_append_right _ _ (by rw[qB];exact Nat.le_refl _),qB,Nat.sub_self,ak]
 have:m-j=(m-(j+1))+1:=by omega
 rw[this,zT,List.set_cons_zero,Nat.div_div_eq_div_mul,←Nat.pow_succ]
 simp
theorem oD : ∀{k N N':Nat},N%W^k=N'%W^k→zT k N=zT k N'
 | k,N,N',h=>vg (jf _ _) (qB _ _) (by rw[xz,h])
theorem gJ {k N m:Nat} (h:k≤m):mix k N N m=zT m N:=by
 refine vg ?_ (jW h) ?_
 ·exact iu (jf _ _) (jf _ _)
 ·unfold mix
  rw[jo,xz,xz,qB]
  obtain⟨j,rfl⟩:∃j,m=k+j:=⟨m-k,by omega⟩
  rw[Nat.add_sub_cancel_left,Nat.pow_add,Nat.mod_mul]
theorem aB {k N' N m:Nat} (h:k≤m) (he:N'%W^k=N%W^k):zT m N=mix k N' N m:=by
 rw[←gJ h];unfold mix;rw[oD he]
theorem fB {k N' N m:Nat} (h:k≤m) (he:N/W^k=N'/W^k):mix k N' N m=zT m N':=by
 rw[←gJ h];unfold mix;rw[he]
def wa (n A x i:Nat):Nat:=(n%W^i+A%W^i*x)/W^i
theorem iy (n A x:Nat):0=wa n A x 0:=by simp[wa,Nat.mod_one]
theorem dF (n A x i:Nat):wa n A x i≤x:=by
 have h1:=Nat.mod_lt n (qD i)
 have h2:A%W^i+1≤W^i:=Nat.mod_lt A (qD i)
 have h3:=Nat.mul_le_mul_right x h2
 rw[Nat.succ_mul] at h3
 have:wa n A x i<x+1:=by unfold wa;rw[Nat.div_lt_iff_lt_mul (qD i),Nat.add_mul,Nat.one_mul,Nat.mul_comm x];omega
 omega
theorem lF (n A x i:Nat):(n+A*x)/W^i=n/W^i+A/W^i*x+wa n A x i:=by
 have h1:=Nat.mod_add_div n (W^i)
 have h2:=Nat.mod_add_div A (W^i)
 have e:n+A*x=(n%W^i+A%W^i*x)+W^i*(n/W^i+A/W^i*x):=by
  have:A*x=A%W^i*x+W^i*(A/W^i*x):=by
   rw[←Nat.mul_assoc,←Nat.add_mul,h2]
  rw[Nat.mul_add,this];omega
 rw[e,Nat.add_mul_div_left _ _ (qD i)]
 unfold wa;omega
theorem eK (n A x i:Nat):dig n i+dig A i*x+wa n A x i=dig (n+A*x) i+W*wa n A x (i+1):=by
 have h1:=lF n A x i
 have h2:=lF n A x (i+1)
 have h3:=xb n i
 have h4:=xb A i
 have h5:=xb (n+A*x) i
 rw[h4,Nat.add_mul,Nat.mul_assoc] at h1
 generalize A/W^(i+1)*x=a' at*
 generalize dig A i*x=e at*
 generalize (n+A*x)/W^(i+1)=s' at*
 generalize (n+A*x)/W^i=s at*
 generalize n/W^(i+1)=b' at*
 generalize n/W^i=b at*
 generalize dig (n+A*x) i=t at*
 generalize wa n A x (i+1)=u at*
 generalize wa n A x i=v at*
 subst h2 h3
 rw[h1,Nat.mul_add,Nat.mul_add] at h5
 omega
theorem jJ (N n o i:Nat) (h:N/W^o=n):dig N (o+i)=dig n i:=by
 subst h;rw[dig,dig,Nat.div_div_eq_div_mul,←Nat.pow_add]
theorem co (N o D:Nat):(N+W^o*D)/W^o=N/W^o+D:=Nat.add_mul_div_left _ _ (qD o)
theorem eI (N o D:Nat):(N+W^o*D)%W^o=N%W^o:=Nat.add_mul_mod_self_left _ _ _
theorem ey {n A x k:Nat} (hn:n<W^k) (hA:A<W^k):(n+A*x)/W^k=wa n A x k:=by
 rw[lF,Nat.div_eq_of_lt hn,Nat.div_eq_of_lt hA];omega
theorem uw {x y o c t u:Nat} (hx:x<W) (hy:y<W) (ho:o<W) (hc:c<W) (ht:t<W) (he:o+y*x+c=t+W*u):
  ((x*y%18446744073709551616+o)%18446744073709551616+c)%18446744073709551616=t∧
   x*y/18446744073709551616+(x*y%18446744073709551616+o)/18446744073709551616+((x*y%18446744073709551616+o)%18446744073709551616+c)/18446744073709551616=u∧u<18446744073709551616:=by
 have hxy:x*y≤18446744073709551615*18446744073709551615:=Nat.mul_le_mul (by unfold W at hx;omega) (by unfold W at hy;omega)
 rw[Nat.mul_comm y x] at he
 generalize x*y=p at*
 unfold W at*
 omega
theorem dn (A B i:Nat):A*(B%W^(i+1))=A*(B%W^i)+W^i*(A*dig B i):=by
 rw[aA,Nat.mul_add];congr 1;rw[Nat.mul_left_comm]
theorem ol {A B i k:Nat} (hA:A<W^k):A*(B%W^i)<W^(i+k):=by
 have hB:=Nat.mod_lt B (qD i)
 rw[Nat.add_comm,Nat.pow_add]
 exact Nat.mul_lt_mul'' hA hB
theorem oP {N' N m o i:Nat} (h:o+i<m):(mix (o+i) N' N m).getD (o+i) 0=dig (N/W^o) i:=by
 rw[mh (Nat.le_refl _) h,jJ _ _ _ _ rfl]
theorem ux {N A x m o i d:Nat} (h:o+i<m) (hd:d=dig (N/W^o+A*x) i):(mix (o+i) (N+W^o*(A*x)) N m).set (o+i) d=mix (o+(i+1)) (N+W^o*(A*x)) N m:=
 fA h rfl (by rw[hd,jJ _ _ _ _ (co _ _ _)])
theorem wQ (N o k:Nat):N/W^(o+k)=N/W^o/W^k:=by rw[Nat.pow_add,Nat.div_div_eq_div_mul]
theorem zHQ {N A x m o i k:Nat} (hk:k=i) (hm:o+i+1≤m) (hn:N/W^o<W^i) (hA:A<W^i) (hx:x<W):
  (mix (o+i) (N+W^o*(A*x)) N m).set (o+k) (wa (N/W^o) A x i)=zT m (N+W^o*(A*x)):=by
 subst hk
 have h1:=ey (x:=x) hn hA
 have h2:=dF (N/W^o) A x k
 rw[ux (by omega) (by rw[dig,h1,Nat.mod_eq_of_lt (by omega)])]
 refine fB (by omega) ?_
 have e1:N/W^(o+(k+1))=0:=by rw[wQ];exact Nat.div_eq_of_lt (Nat.lt_of_lt_of_le hn (ax (Nat.le_succ k)))
 have e2:(N+W^o*(A*x))/W^(o+(k+1))=0:=by
  rw[wQ,co,Nat.pow_succ,←Nat.div_div_eq_div_mul,h1];exact Nat.div_eq_of_lt (by omega)
 rw[e1,e2]
theorem ya (A m:Nat):List.replicate m 0=zT m (A*(val []%W^0)):=by
 refine vg (fun x hx=>?_) (by simp) ?_
 ·rw[List.mem_replicate] at hx;rw[hx.2];decide
 ·rw[vQ];simp[Nat.mod_one]
theorem tH (A B m:Nat):List.replicate m 0=zT m (A*(B%W^0)):=by
 rw[ya A m];simp[Nat.mod_one]
theorem mulDiv {A B i k:Nat} (hA:A<W^k):A*(B%W^i)/W^i<W^k:=by
 rw[Nat.div_lt_iff_lt_mul (qD i),←Nat.pow_add,Nat.add_comm];exact ol hA
theorem mulEnd {A B m:Nat} (h:(List.length (zA A))+(List.length (zA B))+1=m):zA (val (zT m (A*(B%W^(List.length (zA B))))))=zA (A*B):=by
 rw[Nat.mod_eq_of_lt (xI B),qv]
 have h1:=xI A
 have h2:=xI B
 have h3:A*B<W^(List.length (zA A))*W^(List.length (zA B)):=Nat.mul_lt_mul'' h1 h2
 rw[←Nat.pow_add] at h3
 exact Nat.lt_of_lt_of_le h3 (ax (by omega))
end Go.Nt
namespace Go.Nt
theorem zIA {a b r:Nat} (h:a<2^r):a|||2^r*b=a+2^r*b:=by
 rw[Nat.or_comm,←Nat.two_pow_add_eq_or_of_lt h,Nat.add_comm]
theorem zCA {a b r:Nat} (h:b<2^r):b|||a*2^r=b+a*2^r:=by rw[Nat.mul_comm a];exact zIA h
theorem eG {r:Nat} (h:r≤64):2^(64-r)*2^r=W:=by
 rw[←Nat.pow_add,Nat.sub_add_cancel h]
theorem bZ (k:Nat):2^k=W^(k/64)*2^(k%64):=by
 have:W=2^64:=rfl
 rw[this,←Nat.pow_mul,←Nat.pow_add];congr 1;omega
theorem iw {d r:Nat} (h:r≤64):d*2^r%W=d%2^(64-r)*2^r:=by
 rw[←eG h,Nat.mul_mod_mul_right]
theorem gI {d r:Nat} (h:r≤64):d%2^(64-r)*2^r+2^r≤W:=by
 have:d%2^(64-r)+1≤2^(64-r):=Nat.mod_lt _ (Nat.pow_pos (by decide))
 rw[←eG h,←Nat.succ_mul];exact Nat.mul_le_mul_right _ this
theorem fi {n d r:Nat} (hr:r≤64) (hn:n<2^r):n|||d*2^r%W=(n+d*2^r)%W∧(n+d*2^r)/W=d/2^(64-r):=by
 have h1:=iw (d:=d) hr
 have h2:=gI (d:=d) hr
 have h3:d*2^r/W=d/2^(64-r):=by rw[←eG hr,Nat.mul_div_mul_right _ _ (Nat.pow_pos (by decide))]
 rw[h1,zCA hn]
 rw[←h1] at h2⊢
 generalize d*2^r=D at*
 generalize 2^r=p at*
 rw[←h3]
 clear h1 h3
 unfold W at*
 constructor <;> omega
theorem fj (A k i:Nat):A%W^(i+1)*2^k=A%W^i*2^k+W^(k/64+i)*(dig A i*2^(k%64)):=by
 rw[aA,Nat.add_mul]
 congr 1
 rw[bZ k,Nat.pow_add]
 generalize 2^(k%64)=r
 generalize W^(k/64)=w
 grind
theorem ku (A k i:Nat):A%W^i*2^k/W^(k/64+i)<2^(k%64):=by
 have h:=Nat.mod_lt A (qD i)
 rw[Nat.div_lt_iff_lt_mul (qD _),bZ k,Nat.pow_add]
 have hw:=qD (k/64)
 have hr:0<2^(k%64):=Nat.pow_pos (by decide)
 generalize 2^(k%64)=r at*
 generalize W^(k/64)=w at*
 have:A%W^i*(w*r)<W^i*(w*r):=Nat.mul_lt_mul_of_pos_right h (Nat.mul_pos hw hr)
 have e:r*(w*W^i)=W^i*(w*r):=by grind
 rw[e];exact this
theorem dZ {A k i:Nat}:A%W^i*2^k/W^(k/64+i)<W:=
 Nat.lt_of_lt_of_le (ku A k i) (by have:=Nat.pow_le_pow_right (n:=2) (by decide) (by omega:k%64≤64);simpa [W] using this)
theorem zDA {A k i m:Nat} (h:k/64+i<m):(zT m (A%W^i*2^k)).getD (k/64+i) 0=A%W^i*2^k/W^(k/64+i):=by
 rw[jE h,dig,Nat.mod_eq_of_lt dZ]
theorem aG (N k:Nat):N/W^(k+1)=N/W^k/W:=by rw[Nat.pow_succ,Nat.div_div_eq_div_mul]
theorem aW (n i:Nat):dig n i=n/W^i%W:=rfl
theorem oK {A k i:Nat}:(A%W^(i+1)*2^k)/W^(k/64+i+1)=dig A i/2^(64-k%64):=by
 rw[aG,fj,co,(fi (by omega) (ku A k i)).2]
theorem mG {A k i m v:Nat} (h:k/64+i<m) (hv:v=A%W^i*2^k/W^(k/64+i)|||dig A i*2^(k%64)%W):
  (zT m (A%W^i*2^k)).set (k/64+i) v=mix (k/64+i+1) (A%W^(i+1)*2^k) (A%W^i*2^k) m:=by
 rw[aB (Nat.le_of_lt h) (N':=A%W^(i+1)*2^k) (by rw[fj,eI]),fA h rfl]
 rw[hv,(fi (by omega) (ku A k i)).1,aW (A%W^(i+1)*2^k),fj,co]
theorem um {A k i m:Nat} (h:k/64+i<m) (hk:k%64=0):mix (k/64+i+1) (A%W^(i+1)*2^k) (A%W^i*2^k) m=zT m (A%W^(i+1)*2^k):=by
 refine fB h ?_
 rw[oK,aG,Nat.div_eq_of_lt dZ,hk,Nat.div_eq_of_lt]
 have:=xB A i
 simpa [W] using this
theorem uj {A k i m v j:Nat} (h:k/64+i+1<m) (hj:j=k/64+i+1) (hk:0<k%64) (hv:v=dig A i/2^(64-k%64)):
  (mix (k/64+i+1) (A%W^(i+1)*2^k) (A%W^i*2^k) m).set j v=zT m (A%W^(i+1)*2^k):=by
 have h1:dig A i/2^(64-k%64)<W:=Nat.lt_of_le_of_lt (Nat.div_le_self _ _) (xB A i)
 rw[fA h hj (by rw[hv,aW (A%W^(i+1)*2^k),oK,Nat.mod_eq_of_lt h1])]
 refine fB h ?_
 rw[aG _ (k/64+i+1),aG _ (k/64+i+1),oK,Nat.div_eq_of_lt h1,aG,Nat.div_eq_of_lt dZ,Nat.zero_div]
theorem un (A k m:Nat):List.replicate m 0=zT m (A%W^0*2^k):=by
 rw[Nat.pow_zero,Nat.mod_one,Nat.zero_mul]
 exact vg (fun x hx=>by rw[List.mem_replicate] at hx;rw[hx.2];decide) (by simp) (by rw[vQ];simp)
theorem zDL (k:Nat):2^k≤W^(k/64+1):=by
 rw[bZ,Nat.pow_succ]
 refine Nat.mul_le_mul_left _ ?_
 have:=Nat.pow_le_pow_right (n:=2) (by decide) (by omega:k%64≤64);simpa [W] using this
theorem zHM {A k m:Nat} (h:(List.length (zA A))+k/64+1=m):zA (val (zT m (A%W^(List.length (zA A))*2^k)))=zA (A*2^k):=by
 rw[Nat.mod_eq_of_lt (xI A),qv]
 rw[←h,Nat.add_assoc,Nat.pow_add]
 have h1:=xI A
 exact Nat.lt_of_lt_of_le (Nat.mul_lt_mul_of_pos_right h1 (Nat.pow_pos (by decide))) (Nat.mul_le_mul_left _ (zDL k))
theorem rB (X i:Nat) {r:Nat} (hr:r≤64):dig X i/2^r|||dig X (i+1)*2^(64-r)%W=dig (X/2^r) i:=by
 have e1:X/2^r/W^i=X/W^i/2^r:=by rw[Nat.div_div_eq_div_mul,Nat.mul_comm,←Nat.div_div_eq_div_mul]
 have h0:=xB X i
 have e2:=xb X i
 have e3:=xb X (i+1)
 have e4:=eG hr
 have h4:64-(64-r)=r:=by omega
 have h5:=iw (d:=dig X (i+1)) (r:=64-r) (by omega)
 rw[show dig (X/2^r) i=X/2^r/W^i%W from rfl,e1,e2,e3]
 have hp:0<2^r:=Nat.pow_pos (by decide)
 have h6:dig X i/2^r<2^(64-r):=by rw[Nat.div_lt_iff_lt_mul hp,e4];exact h0
 have h7:=gI (d:=dig X (i+1)) (r:=64-r) (by omega)
 rw[h5,zCA h6,←h5]
 rw[←h5] at h7
 have e5:(W*(W*(X/W^(i+1+1))+dig X (i+1))+dig X i)/2^r=dig X i/2^r+dig X (i+1)*2^(64-r)+W*(X/W^(i+1+1)*2^(64-r)):=by
  have:W*(W*(X/W^(i+1+1))+dig X (i+1))+dig X i=dig X i+2^r*(2^(64-r)*(W*(X/W^(i+1+1))+dig X (i+1))):=by
   rw[←Nat.mul_assoc,Nat.mul_comm (2^r),e4];omega
  rw[this,Nat.add_mul_div_left _ _ hp]
  generalize 2^(64-r)=q at*
  generalize X/W^(i+1+1)=y
  generalize dig X (i+1)=z
  generalize dig X i/2^r=t
  grind
 rw[e5,Nat.add_mul_mod_self_left]
 generalize dig X (i+1)*2^(64-r)=D at*
 generalize dig X i/2^r=t at*
 generalize 2^(64-r)=q at*
 clear e1 e2 e3 e4 e5 h5
 unfold W at*
 omega
theorem gh (A w:Nat):(zA A).drop w=zA (A/W^w):=by
  induction w generalizing A with
  | zero=>simp
  | succ w ih=>
    by_cases h:A=0
    · subst h;rw[zJ];simp[zJ]
    · rw[vr h,List.drop_succ_cons,ih,Nat.div_div_eq_div_mul,Nat.pow_succ,Nat.mul_comm W]
theorem zIC (A w:Nat):(List.length (zA (A/W^w)))=(List.length (zA A))-w:=by rw[←gh];simp
theorem kP (A k:Nat):A/W^(k/64)/2^(k%64)=A/2^k:=by rw[bZ k,Nat.div_div_eq_div_mul]
theorem ug {N i m v e:Nat} (h:i<m) (hv:v|||e=dig N i):((xO N i m).set i v).set i ((((xO N i m).set i v).getD i 0)|||e)=xO N (i+1) m:=by
 have hl:(xO N i m).length=m:=bM (by omega)
 have e1:((xO N i m).set i v).getD i 0=v:=by
  rw[List.getD_eq_getElem?_getD,List.getElem?_set_self (by rw[hl];exact h)];rfl
 rw[e1,List.set_set,wm h hv]
theorem sk {X i m r:Nat} (hr:r<64) (h:i<m):((xO (X/2^r) i m).set i (dig X i/2^r)).set i ((((xO (X/2^r) i m).set i (dig X i/2^r)).getD i 0)|||dig X (i+1)*2^(64-r)%W)=xO (X/2^r) (i+1) m:=
 ug h (rB X i (by omega))
theorem sn {X i m r:Nat} (hr:r<64) (h:i<m) (hm:m=(List.length (zA X))) (h0:0<r→m≤i+1):(xO (X/2^r) i m).set i (dig X i/2^r)=xO (X/2^r) (i+1) m:=by
 refine wm h ?_
 rw[←rB X i (Nat.le_of_lt hr)]
 rcases Nat.eq_zero_or_pos r with h1|h1
 ·subst h1
  have:dig X (i+1)*2^(64-0)%W=0:=by show _*W%W=0;exact Nat.mul_mod_left _ _
  rw[this,Nat.or_zero]
 ·rw[aH (n:=X) (i:=i+1) (by rw[←hm];exact h0 h1)];simp
theorem uh {A k:Nat} (h:(List.length (zA A))≤k/64):[]=zA (A/2^k):=by
 rw[←kP,Nat.div_eq_of_lt (vF h),Nat.zero_div,zJ]
theorem zCZ {A k m:Nat} (h:m=(List.length (zA (A/W^(k/64))))):zA (val (zT m (A/W^(k/64)/2^(k%64))))=zA (A/2^k):=by
 rw[qv,kP]
 exact Nat.lt_of_le_of_lt (Nat.div_le_self _ _) (h▸xI _)
theorem topW {A k:Nat} (hA:A≠0):¬(zA A++List.replicate k 0).getD ((((List.length (zA A)):Nat):Int)-1).toNat 0=0:=by
 intro h
 have n1:=wY hA
 have e:((((List.length (zA A)):Nat):Int)-1).toNat=(List.length (zA A))-1:=by omega
 rw[e,List.getD_eq_getElem?_getD,List.getElem?_append_left (by omega),←List.getD_eq_getElem?_getD,qH] at h
 exact bq hA h
theorem uI {A:Nat} (h:zA A≠[]):A≠0:=fun e=>h (by rw[e,zJ])
end Go.Nt
namespace Go.Nt
theorem bH {x:Nat} (h:x<18446744073709551616):bitLen x≤64:=by
 have h1:=(bitLen_spec x).2
 rcases Nat.lt_or_ge 64 (bitLen x) with h2|h2
 ·have h3:x≠0:=by intro e;subst e;simp[bitLen] at h2
  have h4:=h1 h3
  have h5:2^64≤2^(bitLen x-1):=Nat.pow_le_pow_right (by decide) (by omega)
  omega
 ·exact h2
theorem wH {x:Nat} (h:x≠0):0<bitLen x:=by unfold bitLen;rw[if_neg h];omega
theorem lead {y s:Nat} (hy:y<18446744073709551616) (h0:y≠0) (hs:s=64-bitLen y):9223372036854775808≤y*2^s∧y*2^s<18446744073709551616:=by
 have h1:=bitLen_spec y
 have h2:=bH hy
 have h3:=wH h0
 have h4:=h1.2 h0
 constructor
 ·have:2^(bitLen y-1)*2^s≤y*2^s:=Nat.mul_le_mul_right _ h4
  rw[←Nat.pow_add,show bitLen y-1+s=63 by omega] at this
  exact this
 ·have:y*2^s<2^bitLen y*2^s:=Nat.mul_lt_mul_of_pos_right h1.1 (Nat.pow_pos (by decide))
  rw[←Nat.pow_add,show bitLen y+s=64 by omega] at this
  exact this
structure Gs (u u1 v1 v0 q r:Nat):Prop where
 e:u=q*v1+r
 le:(u*4294967296+u1)/(v1*4294967296+v0)≤q
 q:q≤4294967297
 r:r<4294967296
structure Hv (u u1 v1 v0:Nat):Prop where
 a:2147483648≤v1
 b:v1<4294967296
 c:v0<4294967296
 d:u<v1*4294967296+v0
 f:u1<4294967296
theorem Gs.start {u u1 v1 v0:Nat} (h:Hv u u1 v1 v0):Gs u u1 v1 v0 (u/v1) (u-u/v1*v1):=by
 obtain⟨h1,h2,h3,h4,h5⟩:=h
 have e1:=Nat.div_add_mod u v1
 have e2:=Nat.mod_lt u (show 0<v1 by omega)
 rw[Nat.mul_comm] at e1
 refine⟨by omega,?_,?_,by omega⟩
 ·rw[Nat.le_div_iff_mul_le (by omega)]
  have h6:=Nat.div_mul_le_self (u*4294967296+u1) (v1*4294967296+v0)
  generalize (u*4294967296+u1)/(v1*4294967296+v0)=Q at*
  rw[Nat.mul_add,←Nat.mul_assoc] at h6
  generalize Q*v1=p at*
  generalize Q*v0=p' at*
  omega
 ·rcases Nat.lt_or_ge 4294967297 (u/v1) with h6|h6
  ·have:4294967298*v1≤u/v1*v1:=Nat.mul_le_mul_right _ h6
   omega
  ·exact h6
theorem Gs.next {u u1 v1 v0 q r:Nat} (h:Hv u u1 v1 v0) (g:Gs u u1 v1 v0 q r) (hc:4294967296≤q∨4294967296*r+u1<q*v0):
  u=(q-1)*v1+(r+v1)∧(u*4294967296+u1)/(v1*4294967296+v0)≤q-1∧q-1≤4294967296∧1≤q:=by
 obtain⟨h1,h2,h3,h4,h5⟩:=h
 obtain⟨g1,g2,g3,g4⟩:=g
 have hq:1≤q:=by
  rcases hc with hc|hc
  ·omega
  ·rcases Nat.eq_zero_or_pos q with h|h
   ·subst h;omega
   ·exact h
 have hlt:(u*4294967296+u1)/(v1*4294967296+v0)<q:=by
  rw[Nat.div_lt_iff_lt_mul (by omega),Nat.mul_add,←Nat.mul_assoc]
  rcases hc with hc|hc
  ·have h6:4294967296*(v1*4294967296+v0)≤q*(v1*4294967296+v0):=Nat.mul_le_mul_right _ hc
   rw[Nat.mul_add q,←Nat.mul_assoc] at h6
   omega
  ·omega
 refine⟨?_,by omega,by omega,hq⟩
 obtain⟨k,rfl⟩:∃k,q=k+1:=⟨q-1,by omega⟩
 rw[Nat.succ_mul] at g1
 simp only[Nat.add_sub_cancel]
 omega
theorem Gs.exit {u u1 v1 v0 q r:Nat} (h:Hv u u1 v1 v0) (g:Gs u u1 v1 v0 q r) (hc:q*v0≤4294967296*r+u1):q=(u*4294967296+u1)/(v1*4294967296+v0):=by
 obtain⟨h1,h2,h3,h4,h5⟩:=h
 obtain⟨g1,g2,g3,g4⟩:=g
 refine Nat.le_antisymm ?_ g2
 rw[Nat.le_div_iff_mul_le (by omega),Nat.mul_add,←Nat.mul_assoc]
 omega
theorem Gs.exit2 {u u1 v1 v0 q r:Nat} (h:Hv u u1 v1 v0) (g1:u=q*v1+r) (g2:(u*4294967296+u1)/(v1*4294967296+v0)≤q) (g3:q≤4294967296) (hr:4294967296≤r):
  q=(u*4294967296+u1)/(v1*4294967296+v0):=by
 obtain⟨h1,h2,h3,h4,h5⟩:=h
 refine Nat.le_antisymm ?_ g2
 rw[Nat.le_div_iff_mul_le (by omega),Nat.mul_add,←Nat.mul_assoc]
 have:q*v0≤4294967296*4294967295:=Nat.mul_le_mul g3 (by omega)
 omega
theorem yZ {q v:Nat} (h1:q<4294967296) (h2:v<4294967296):q*v<18446744073709551616:=Nat.mul_lt_mul'' h1 h2
theorem pc {a u p r:Nat} (h:a*4294967296+u=p+r) (hr:r<18446744073709551616) (hp:u<4294967296):
  ((a*4294967296%18446744073709551616+u)%18446744073709551616+(18446744073709551616-p%18446744073709551616))%18446744073709551616=r:=by omega
theorem zCL {q1 q0:Nat} (h1:q1<4294967296) (h0:q0<4294967296):(q1*4294967296%18446744073709551616+q0)%18446744073709551616=q1*4294967296+q0:=by omega
theorem pK (t y:Nat):t=t/y*y+t%y:=by have:=Nat.div_add_mod t y;rw[Nat.mul_comm] at this;omega
structure D64 (hi lo y s Y A U1 U0 v1 v0:Nat):Prop where
 ks:s≤64
 yl:Y<18446744073709551616
 un32:hi*2^s%18446744073709551616|||lo/2^(64-s)=A
 al:A<18446744073709551616
 kv1:Y/4294967296=v1
 kv0:Y%4294967296=v0
 u1:lo*2^s%18446744073709551616/4294967296=U1
 u0:lo*2^s%18446744073709551616%4294967296=U0
 hv:Hv A U1 v1 v0
 kY:v1*4294967296+v0=Y
 hv2:Hv ((A*4294967296+U1)%Y) U0 v1 v0
 q1:(A*4294967296+U1)/Y<4294967296
 q0:((A*4294967296+U1)%Y*4294967296+U0)/Y<4294967296
 r1:(A*4294967296+U1)%Y<18446744073709551616
 r0:((A*4294967296+U1)%Y*4294967296+U0)%Y<18446744073709551616
 quo:(A*4294967296+U1)/Y*4294967296+((A*4294967296+U1)%Y*4294967296+U0)/Y=(hi*18446744073709551616+lo)/y
 rem:((A*4294967296+U1)%Y*4294967296+U0)%Y/2^s=(hi*18446744073709551616+lo)%y
theorem mkHv {u Y n:Nat} (h:u<Y) (h1:9223372036854775808≤Y) (h2:Y<18446744073709551616) (h3:n<4294967296):Hv u n (Y/4294967296) (Y%4294967296):=
 ⟨by omega,by omega,by omega,by omega,h3⟩
theorem zHJ (Y:Nat):Y/4294967296*4294967296+Y%4294967296=Y:=by omega
theorem d64 {hi lo y:Nat} (hlo:lo<18446744073709551616) (hy:y<18446744073709551616) (h:hi<y):
  ∃s Y A U1 U0 v1 v0,s=64-bitLen y∧Y=y*2^s∧D64 hi lo y s Y A U1 U0 v1 v0:=by
 obtain⟨s,hs⟩:∃s,s=64-bitLen y:=⟨_,rfl⟩
 have hl:=lead hy (by omega) hs
 have hs64:s≤64:=by omega
 have hp:0<2^s:=Nat.pow_pos (by decide)
 have hd:lo/2^(64-s)<2^s:=by
  rw[Nat.div_lt_iff_lt_mul (Nat.pow_pos (by decide)),Nat.mul_comm,eG hs64];exact hlo
 have hsw:=fi (d:=hi) hs64 hd
 have h1:hi*2^s+2^s≤y*2^s:=by rw[←Nat.succ_mul];exact Nat.mul_le_mul_right _ h
 have h32:hi*2^s%18446744073709551616|||lo/2^(64-s)=lo/2^(64-s)+hi*2^s:=by
  rw[Nat.or_comm]
  refine hsw.1.trans (Nat.mod_eq_of_lt ?_)
  unfold W;omega
 obtain⟨Y,hY⟩:∃Y,Y=y*2^s:=⟨_,rfl⟩
 have hlo2:lo*2^s/18446744073709551616=lo/2^(64-s):=by
  have:=eG hs64
  rw[show (18446744073709551616:Nat)=W from rfl,←this,Nat.mul_div_mul_right _ _ hp]
 have eN:(hi*18446744073709551616+lo)*2^s=(lo/2^(64-s)+hi*2^s)*18446744073709551616+lo*2^s%18446744073709551616:=by
  have:=Nat.div_add_mod (lo*2^s) 18446744073709551616
  rw[hlo2] at this
  rw[Nat.add_mul,Nat.mul_right_comm,Nat.add_mul];omega
 have eq1:(hi*18446744073709551616+lo)*2^s/Y=(hi*18446744073709551616+lo)/y:=by rw[hY,Nat.mul_div_mul_right _ _ hp]
 have er1:(hi*18446744073709551616+lo)*2^s%Y=(hi*18446744073709551616+lo)%y*2^s:=by rw[hY,Nat.mul_mod_mul_right]
 rw[eN] at eq1 er1
 rw[←hY] at hl h1
 obtain⟨A,hA⟩:∃A,A=lo/2^(64-s)+hi*2^s:=⟨_,rfl⟩
 rw[←hA] at h32 eq1 er1
 have hAY:A<Y:=by omega
 have hn0:lo*2^s%18446744073709551616<18446744073709551616:=Nat.mod_lt _ (by decide)
 obtain⟨n0,hn⟩:∃n0,n0=lo*2^s%18446744073709551616:=⟨_,rfl⟩
 rw[←hn] at eq1 er1 hn0
 have hT:(A*4294967296+n0/4294967296)%Y<Y:=Nat.mod_lt _ (by omega)
 have eT:=Nat.div_add_mod (A*4294967296+n0/4294967296) Y
 have e3:A*18446744073709551616+n0=(A*4294967296+n0/4294967296)%Y*4294967296+n0%4294967296+Y*((A*4294967296+n0/4294967296)/Y*4294967296):=by
  rw[←Nat.mul_assoc];omega
 rw[e3,Nat.add_mul_div_left _ _ (by omega)] at eq1
 rw[e3,Nat.add_mul_mod_self_left] at er1
 have hq1:(A*4294967296+n0/4294967296)/Y<4294967296:=by
  rw[Nat.div_lt_iff_lt_mul (by omega)];omega
 have hq0:((A*4294967296+n0/4294967296)%Y*4294967296+n0%4294967296)/Y<4294967296:=by
  rw[Nat.div_lt_iff_lt_mul (by omega)];omega
 have hr0:=Nat.mod_lt ((A*4294967296+n0/4294967296)%Y*4294967296+n0%4294967296) (by omega:Y>0)
 have b0:n0%4294967296<4294967296:=Nat.mod_lt _ (by decide)
 have b1:n0/4294967296<4294967296:=by rw[Nat.div_lt_iff_lt_mul (by decide)];exact hn0
 refine⟨s,Y,A,n0/4294967296,n0%4294967296,Y/4294967296,Y%4294967296,hs,hY,⟨hs64,hl.2,h32,Nat.lt_trans hAY hl.2,rfl,rfl,by rw[hn],by rw[hn],mkHv hAY hl.1 hl.2 b1,zHJ Y,mkHv hT hl.1 hl.2 b0,hq1,hq0,Nat.lt_trans hT hl.2,Nat.lt_trans hr0 hl.2,?_,?_⟩⟩
 ·rw[←eq1,Nat.add_comm]
 ·rw[er1,Nat.mul_div_cancel _ hp]
/-! ### division by a word -/
theorem oJ (A Q j:Nat):zA A++List.replicate j 0=mix ((List.length (zA A))) A Q ((List.length (zA A)))++List.replicate j 0:=by
 congr 1
 unfold mix
 rw[Nat.sub_self]
 conv=>lhs;rw[cg]
 simp[zT]
theorem nO {xs ys:List Nat} {i:Nat} (h:i<xs.length):(xs++ys).getD i 0=xs.getD i 0:=by
 rw[List.getD_eq_getElem?_getD,List.getElem?_append_left h,←List.getD_eq_getElem?_getD]
theorem zDZ {k N' N m j:Nat} (h:j<k):(mix k N' N m).getD j 0=dig N' j:=by
 unfold mix;rw[nO (by rw[qB];exact h),jE h]
theorem mi {A Q m j k d:Nat} (hk:0<k) (hm:k≤m) (hd:d=dig Q (k-1)):(mix k A Q m++List.replicate j 0).set (k-1) d=mix (k-1) A Q m++List.replicate j 0:=by
 obtain⟨i,rfl⟩:∃i,k=i+1:=⟨k-1,by omega⟩
 simp only[Nat.add_sub_cancel] at*
 rw[List.set_append_left _ _ (by rw[jW hm];omega)]
 congr 1
 unfold mix
 rw[List.set_append_left _ _ (by rw[qB];omega),ak,List.set_append_right _ _ (by rw[qB];exact Nat.le_refl _),qB,Nat.sub_self,List.set_cons_zero,hd]
 have:m-i=(m-(i+1))+1:=by omega
 rw[this,zT,Nat.div_div_eq_div_mul,←Nat.pow_succ]
 simp[dig]
theorem mP {r d x:Nat} (hx:0<x) (h:r<x) (hd:d<18446744073709551616):(r*18446744073709551616+d)/x<18446744073709551616:=by
 rw[Nat.div_lt_iff_lt_mul hx];omega
theorem ff {A x k:Nat} (hx:0<x) (hk:0<k):(A/W^k%x*18446744073709551616+dig A (k-1))/x=dig (A/x) (k-1)∧(A/W^k%x*18446744073709551616+dig A (k-1))%x=A/W^(k-1)%x:=by
 have e:=xT A k hk
 have hd:=xB A (k-1)
 have h1:=Nat.div_add_mod (A/W^k) x
 have h2:=Nat.mod_lt (A/W^k) hx
 have e2:A/W^(k-1)=(A/W^k%x*18446744073709551616+dig A (k-1))+x*(18446744073709551616*(A/W^k/x)):=by
  rw[e,Nat.mul_left_comm]
  generalize x*(A/W^k/x)=p at*
  unfold W at*
  omega
 constructor
 ·rw[aW (A/x),Nat.div_div_eq_div_mul,Nat.mul_comm x,←Nat.div_div_eq_div_mul,e2,Nat.add_mul_div_left _ _ hx,show W=18446744073709551616 from rfl,Nat.add_mul_mod_self_left]
  symm
  apply Nat.mod_eq_of_lt
  exact mP hx h2 hd
 ·rw[e2,Nat.add_mul_mod_self_left]
theorem ua {A x j n:Nat} (hn:n=(List.length (zA A))):((mix 0 A (A/x) ((List.length (zA A)))++List.replicate j 0).drop 0).take n=zT ((List.length (zA A))) (A/x):=by
 subst hn
 rw[List.drop_zero,List.take_left' (by rw[jW (Nat.zero_le _)])]
 simp[mix,zT]
theorem sX (A x:Nat):zA (val (zT ((List.length (zA A))) (A/x)))=zA (A/x):=qv (Nat.lt_of_le_of_lt (Nat.div_le_self _ _) (xI A))
theorem zIE {A x B:Nat} (h:(List.length (zA A))≤B):(List.length (zA (A/x%W^(List.length (zA A)))))≤B:=Nat.le_trans (qF (Nat.le_trans (Nat.mod_le _ _) (Nat.div_le_self _ _))) h
theorem aO {A:Nat} (h:zA A=[]):A=0:=by rw[←zB A,h];rfl
end Go.Nt
namespace Go.Nt
set_option maxRecDepth 8000
def gss (u2 u1 u0 v1 v0:Nat):Nat:=min (((u2*18446744073709551616+u1)*18446744073709551616+u0)/(v1*18446744073709551616+v0)) 18446744073709551615
structure Gw (u2 u1 u0 v1 v0 q r:Nat):Prop where
 e:u2*18446744073709551616+u1=q*v1+r
 le:gss u2 u1 u0 v1 v0≤q
 q:q≤18446744073709551615
 r:r<36893488147419103232
theorem zEU {u2 u1 u0 v1 v0:Nat} (h:v1<u2) (h0:v0<18446744073709551616) (h1:0<v1):18446744073709551615=gss u2 u1 u0 v1 v0:=by
 unfold gss
 rw[Nat.min_eq_right]
 rw[Nat.le_div_iff_mul_le (by omega)]
 omega
theorem low_le {p p' t u0 w:Nat} (h:p*w+p'≤t*w+u0) (h0:u0<w):p≤t:=by
 apply Nat.le_of_lt_succ
 apply Nat.lt_of_mul_lt_mul_right (a:=w)
 rw[Nat.succ_mul];omega
theorem low_lt {p p' r u0 w:Nat} (h:r*w+u0<p'):(p+r)*w+u0<p*w+p':=by rw[Nat.add_mul];omega
theorem Gw.same {u2 u1 u0 v1 v0:Nat} (h:u2=v1) (h1:u1<18446744073709551616) (h2:v1<18446744073709551616):Gw u2 u1 u0 v1 v0 18446744073709551615 (u1+v1):=
 ⟨by omega,Nat.min_le_right _ _,Nat.le_refl _,by omega⟩
theorem Gw.start {u2 u1 u0 v1 v0:Nat} (h:u2<v1) (h1:u1<18446744073709551616) (h0:u0<18446744073709551616) (h2:v1<18446744073709551616):
  Gw u2 u1 u0 v1 v0 ((u2*18446744073709551616+u1)/v1) ((u2*18446744073709551616+u1)%v1):=by
 have e1:=pK (u2*18446744073709551616+u1) v1
 have e2:=Nat.mod_lt (u2*18446744073709551616+u1) (show 0<v1 by omega)
 refine⟨e1,?_,?_,by omega⟩
 ·refine Nat.le_trans (Nat.min_le_left _ _) ?_
  rw[Nat.le_div_iff_mul_le (by omega)]
  have h6:=Nat.div_mul_le_self ((u2*18446744073709551616+u1)*18446744073709551616+u0) (v1*18446744073709551616+v0)
  rw[Nat.mul_add,←Nat.mul_assoc] at h6
  exact low_le h6 h0
 ·exact Nat.le_of_lt_succ (mP (r:=u2) (d:=u1) (by omega) h h1)
theorem Gw.next {u2 u1 u0 v1 v0 q r:Nat} (h1:0<v1) (h2:v1<18446744073709551616) (g:Gw u2 u1 u0 v1 v0 q r) (hr:r<18446744073709551616) (hc:r*18446744073709551616+u0<q*v0):
  Gw u2 u1 u0 v1 v0 (q-1) (r+v1)∧1≤q:=by
 obtain⟨g1,g2,g3,g4⟩:=g
 have hq:1≤q:=by
  rcases Nat.eq_zero_or_pos q with h|h
  ·subst h;omega
  ·exact h
 have hlt:((u2*18446744073709551616+u1)*18446744073709551616+u0)/(v1*18446744073709551616+v0)<q:=by
  rw[Nat.div_lt_iff_lt_mul (by omega),Nat.mul_add,←Nat.mul_assoc,g1]
  exact low_lt hc
 refine⟨⟨?_,?_,by omega,by omega⟩,hq⟩
 ·obtain⟨k,rfl⟩:∃k,q=k+1:=⟨q-1,by omega⟩
  rw[Nat.succ_mul] at g1
  simp only[Nat.add_sub_cancel]
  omega
 ·exact Nat.le_trans (Nat.min_le_left _ _) (by omega)
theorem Gw.exit {u2 u1 u0 v1 v0 q r:Nat} (h1:0<v1) (g:Gw u2 u1 u0 v1 v0 q r) (hc:q*v0≤r*18446744073709551616+u0):q=gss u2 u1 u0 v1 v0:=by
 obtain⟨g1,g2,g3,g4⟩:=g
 refine Nat.le_antisymm ?_ g2
 refine Nat.le_min.2 ⟨?_,g3⟩
 rw[Nat.le_div_iff_mul_le (by omega),Nat.mul_add,←Nat.mul_assoc,g1]
 omega
theorem Gw.exit2 {u2 u1 u0 v1 v0 q r:Nat} (h1:0<v1) (g:Gw u2 u1 u0 v1 v0 q r) (h0:v0<18446744073709551616) (hr:18446744073709551616≤r):q=gss u2 u1 u0 v1 v0:=by
 refine g.exit h1 ?_
 have:q*v0≤18446744073709551615*18446744073709551615:=Nat.mul_le_mul g.q (by omega)
 omega
theorem po {p r u0:Nat} (hr:r<18446744073709551616) (hu:u0<18446744073709551616):(p/18446744073709551616<r∨p/18446744073709551616=r∧p%18446744073709551616≤u0)↔p≤r*18446744073709551616+u0:=by omega
/-! ### a multiple taken away, in place -/
theorem zFI (i:Nat):dig 0 i=0:=by unfold dig;simp
theorem iv (A x i:Nat):dig A i*x+wa 0 A x i=dig (A*x) i+W*wa 0 A x (i+1):=by
 have:=eK 0 A x i
 rw[zFI,Nat.zero_add,Nat.zero_add] at this;exact this
theorem sb {x y c t u:Nat} (hx:x<W) (hy:y<W) (hc:c<W) (ht:t<W) (he:y*x+c=t+W*u):
  (x*y%18446744073709551616+c+0)%18446744073709551616=t∧x*y/18446744073709551616+(x*y%18446744073709551616+c+0)/18446744073709551616=u∧u<18446744073709551616:=by
 have hxy:x*y≤18446744073709551615*18446744073709551615:=Nat.mul_le_mul (by unfold W at hx;omega) (by unfold W at hy;omega)
 rw[Nat.mul_comm y x] at he
 generalize x*y=p at*
 unfold W at*
 omega
theorem sE {X i j:Nat} (h:j<i):dig (X%W^i) j=dig X j:=by
 obtain⟨k,rfl⟩:∃k,i=j+1+k:=⟨i-(j+1),by omega⟩
 rw[dig,dig,Nat.add_assoc,Nat.pow_add,Nat.mod_mul_right_div_self,Nat.pow_add,Nat.pow_one,Nat.mod_mul_right_mod]
theorem fz {i k:Nat} (h:i≤k):W^k=W^i*W^(k-i):=by rw[←Nat.pow_add];congr 1;omega
theorem lY {w k i:Nat} (h:i<k):dig (w+W^k) i=dig w i:=by
 rw[dig,dig,fz (Nat.le_of_lt h),Nat.add_mul_div_left _ _ (qD i),fz (show 1≤k-i by omega),Nat.pow_one,Nat.add_mul_mod_self_left]
theorem lh {w p k i:Nat} (h:i≤k):bor (w+W^k) p i=bor w p i:=by
 unfold bor;rw[fz h,Nat.add_mul_mod_self_left]
def wJ (w p k:Nat):Nat:=(w+W^k-p)%W^k
theorem uN {w p k i:Nat} (hp:p<W^k) (h:i<k):(dig w i+W-dig p i-bor w p i)%W=dig (wJ w p k) i:=by
 have:=pu (p:=w+W^k) (q:=p) (by omega) i
 rw[lY h,lh (Nat.le_of_lt h)] at this
 rw[this,wJ,sE h]
theorem zFR {w p k:Nat} (hw:w<W^k) (hp:p<W^k):bor w p k=if w<p then 1 else 0:=by
 unfold bor;rw[Nat.mod_eq_of_lt hw,Nat.mod_eq_of_lt hp]
theorem ci (N o D:Nat):(N%W^o+W^o*D)/W^o=D:=by
 rw[Nat.add_mul_div_left _ _ (qD o),Nat.div_eq_of_lt (Nat.mod_lt _ (qD o)),Nat.zero_add]
theorem kd (N o D:Nat):(N%W^o+W^o*D)%W^o=N%W^o:=by rw[Nat.add_mul_mod_self_left,Nat.mod_mod]
theorem ke {N m o i d D:Nat} (h:o+i<m) (hd:d=dig D i):(mix (o+i) (N%W^o+W^o*D) N m).set (o+i) d=mix (o+(i+1)) (N%W^o+W^o*D) N m:=
 fA h rfl (by rw[hd,jJ _ _ _ _ (ci _ _ _)])
theorem uM {N m o k D:Nat} (hm:o+k≤m) (hn:N/W^o<W^k) (hD:D<W^k):mix (o+k) (N%W^o+W^o*D) N m=zT m (N%W^o+W^o*D):=by
 refine fB hm ?_
 rw[wQ,wQ,ci,Nat.div_eq_of_lt hn,Nat.div_eq_of_lt hD]
theorem lz (w p k:Nat):wJ w p k<W^k:=Nat.mod_lt _ (qD k)
theorem mj {v q k:Nat} (hv:v<W^k) (hq:q<W):wa 0 v q k=dig (v*q) k:=by
 have h:=ey (n:=0) (x:=q) (qD k) hv
 rw[Nat.zero_add] at h
 rw[aW,h,Nat.mod_eq_of_lt (Nat.lt_of_le_of_lt (dF _ _ _ _) hq)]
theorem ph {v q k:Nat} (hv:v<W^k) (hq:q<W):v*q<W^(k+1):=by rw[Nat.pow_succ];exact Nat.mul_lt_mul'' hv hq
theorem rI {N' N m o i j:Nat} (h:i≤j) (hj:o+j<m):(mix (o+i) N' N m).getD (o+j) 0=dig (N/W^o) j:=by
 rw[mh (Nat.add_le_add_left h o) hj,jJ _ _ _ _ rfl]
theorem zCR {w v q k:Nat} (hv:v<W^k) (hq:q<W):(dig w k+W-wa 0 v q k-bor w (v*q) k)%W=dig (wJ w (v*q) (k+1)) k:=by
 rw[mj hv hq];exact uN (ph hv hq) (Nat.lt_succ_self k)
theorem zCS {w v q k:Nat} (hv:v<W^k) (hq:q<W) (hw:w<W^(k+1)):(!decide ((if dig w k<wa 0 v q k+bor w (v*q) k then 1 else 0)=0))=decide (w<v*q):=by
 rw[mj hv hq,dU,zFR hw (ph hv hq)]
 by_cases h:w<v*q <;> simp[h]
def iH (w p k:Nat):Nat:=(w+p)%W^k
theorem zCJ (w p k:Nat):iH w p k<W^k:=Nat.mod_lt _ (qD k)
theorem uH {w p k i:Nat} (h:i<k):(dig w i+dig p i+car w p i)%W=dig (iH w p k) i:=by rw[lk,iH,sE h]
theorem zFT {w v k:Nat} (hv:v<W^k):(dig w k+car w v k)%W=dig (iH w v (k+1)) k:=by
 have h:=uH (w:=w) (p:=v) (Nat.lt_succ_self k)
 rw[show dig v k=0 from by rw[dig,Nat.div_eq_of_lt hv];rfl,Nat.add_zero] at h
 exact h
end Go.Nt
namespace Go.Nt
set_option maxRecDepth 8000
theorem top2 {v k:Nat} (hv:v<W^(k+2)):v/W^k=dig v (k+1)*18446744073709551616+dig v k:=by
 have h1:=xb v k
 have h2:v/W^(k+1)<W:=by rw[Nat.div_lt_iff_lt_mul (qD _)];rwa [Nat.mul_comm,←Nat.pow_succ]
 rw[h1,aW v (k+1),Nat.mod_eq_of_lt h2,Nat.mul_comm]
theorem top3 {w k:Nat} (hw:w<W^(k+3)):w/W^k=(dig w (k+2)*18446744073709551616+dig w (k+1))*18446744073709551616+dig w k:=by
 have h1:=xb w k
 rw[h1,top2 (k:=k+1) hw,Nat.mul_comm]
theorem pF {w v k:Nat} (hv:v<W^(k+2)) (hv1:W^(k+1)≤v) (hw:w<v*W):
  w/v≤gss (dig w (k+2)) (dig w (k+1)) (dig w k) (dig v (k+1)) (dig v k)∧gss (dig w (k+2)) (dig w (k+1)) (dig w k) (dig v (k+1)) (dig v k)≤w/v+1:=by
 have hv0:0<v:=Nat.lt_of_lt_of_le (qD _) hv1
 have hw3:w<W^(k+3):=Nat.lt_of_lt_of_le hw (by rw[Nat.pow_succ W (k+2)];exact Nat.mul_le_mul_right _ (Nat.le_of_lt hv))
 unfold gss
 rw[←top3 hw3,←top2 hv]
 have hR:=qD k
 have hVW:W≤v/W^k:=by rw[Nat.le_div_iff_mul_le hR,Nat.mul_comm,←Nat.pow_succ];exact hv1
 have hq:w/v<W:=by rw[Nat.div_lt_iff_lt_mul hv0,Nat.mul_comm];exact hw
 constructor
 ·refine Nat.le_min.2 ⟨?_,by unfold W at hq;omega⟩
  rw[Nat.le_div_iff_mul_le (Nat.lt_of_lt_of_le (by decide) hVW),Nat.le_div_iff_mul_le hR,Nat.mul_assoc]
  exact Nat.le_trans (Nat.mul_le_mul_left _ (Nat.div_mul_le_self v _)) (Nat.div_mul_le_self w v)
 ·generalize hg:min (w/W^k/(v/W^k)) 18446744073709551615=g
  have hg1:g≤w/W^k/(v/W^k):=hg▸Nat.min_le_left _ _
  have hg2:g≤18446744073709551615:=hg▸Nat.min_le_right _ _
  rcases Nat.eq_zero_or_pos g with h0|h0
  ·rw[h0];exact Nat.zero_le _
  have h1:g*(v/W^k)≤w/W^k:=(Nat.le_div_iff_mul_le (Nat.lt_of_lt_of_le (by decide) hVW)).1 hg1
  have h2:g*(v/W^k)*W^k≤w:=Nat.le_trans (Nat.mul_le_mul_right _ h1) (Nat.div_mul_le_self w _)
  have h3:v<(v/W^k+1)*W^k:=by
   have:=Nat.div_add_mod v (W^k)
   have:=Nat.mod_lt v hR
   rw[Nat.add_mul,Nat.mul_comm];omega
  have h4:(g-1)*v≤w:=by
   have h5:(g-1)*v≤(g-1)*((v/W^k+1)*W^k):=Nat.mul_le_mul_left _ (Nat.le_of_lt h3)
   refine Nat.le_trans h5 (Nat.le_trans ?_ h2)
   rw[←Nat.mul_assoc]
   refine Nat.mul_le_mul_right _ ?_
   obtain⟨t,rfl⟩:∃t,g=t+1:=⟨g-1,by omega⟩
   rw[Nat.add_sub_cancel,Nat.mul_add,Nat.succ_mul,Nat.mul_one]
   have:t≤v/W^k:=Nat.le_trans (by unfold W;omega) hVW
   omega
  have:=(Nat.le_div_iff_mul_le hv0).2 h4
  omega
def left (N v k:Nat):Nat:=N%W^k+W^k*(N/W^k%v)
theorem yq {N v k:Nat} (h:N<v*W^k):left N v k=N:=by
 have h1:N/W^k<v:=by rw[Nat.div_lt_iff_lt_mul (qD k)];exact h
 unfold left;rw[Nat.mod_eq_of_lt h1,Nat.mod_add_div]
theorem yp {N v j:Nat}:left N v (j+1)/W^j=N/W^(j+1)%v*18446744073709551616+dig N j:=by
 unfold left
 rw[aA,Nat.pow_succ,Nat.mul_assoc,Nat.add_assoc,←Nat.mul_add,ci,Nat.add_comm,Nat.mul_comm W]
theorem my {N v j:Nat}:left N v (j+1)%W^j=N%W^j:=by
 unfold left
 rw[aA,Nat.pow_succ,Nat.mul_assoc,Nat.add_assoc,←Nat.mul_add,Nat.add_mul_mod_self_left,Nat.mod_mod]
theorem tT {N v j:Nat} (hv:0<v):left N v (j+1)/W^j/v=dig (N/v) j∧left N v (j+1)/W^j%v=N/W^j%v∧left N v (j+1)/W^j<v*W:=by
 have h:=ff (A:=N) (x:=v) (k:=j+1) hv (by omega)
 rw[yp]
 simp only[Nat.add_sub_cancel] at h
 refine⟨h.1,h.2,?_⟩
 have h1:=Nat.mod_lt (N/W^(j+1)) hv
 have h2:=xB N j
 have h3:(N/W^(j+1)%v+1)*W≤v*W:=Nat.mul_le_mul_right _ h1
 rw[Nat.add_mul,Nat.one_mul] at h3
 show N/W^(j+1)%v*W+_<_
 omega
theorem sc {w v g K:Nat} (hv:0<v) (hw:w<K) (h1:w/v≤g) (h:¬w<v*g):g=w/v∧(w+K-v*g)%K=w%v:=by
 have h2:g≤w/v:=(Nat.le_div_iff_mul_le hv).2 (by rw[Nat.mul_comm];omega)
 obtain rfl:g=w/v:=Nat.le_antisymm h2 h1
 refine⟨rfl,?_⟩
 have h3:=Nat.div_add_mod w v
 have e:w+K-v*(w/v)=w%v+K:=by omega
 rw[e,Nat.add_mod_right,Nat.mod_eq_of_lt (Nat.lt_of_le_of_lt (Nat.mod_le _ _) hw)]
theorem sd {w v g K:Nat} (hv:0<v) (hw:w<K) (hg:v*g<K) (h1:g≤w/v+1) (h:w<v*g):g-1=w/v∧1≤g∧((w+K-v*g)%K+v)%K=w%v:=by
 have h2:w/v<g:=by rw[Nat.div_lt_iff_lt_mul hv,Nat.mul_comm];exact h
 obtain rfl:g=w/v+1:=Nat.le_antisymm h1 h2
 refine⟨Nat.add_sub_cancel _ _,Nat.le_add_left _ _,?_⟩
 have h3:=Nat.div_add_mod w v
 rw[Nat.mul_add,Nat.mul_one] at h hg⊢
 have h4:=Nat.mod_lt w hv
 have h5:w+K-(v*(w/v)+v)<K:=by omega
 rw[Nat.mod_eq_of_lt h5]
 have e:w+K-(v*(w/v)+v)+v=w%v+K:=by omega
 rw[e,Nat.add_mod_right,Nat.mod_eq_of_lt (Nat.lt_of_le_of_lt (Nat.mod_le _ _) hw)]
theorem ix {A Q m k d:Nat} (hk:0<k) (hm:k≤m) (hd:d=dig Q (k-1)):(mix k A Q m).set (k-1) d=mix (k-1) A Q m:=by
 have:=mi (A:=A) (j:=0) hk hm hd
 simpa using this
theorem yS (Q t:Nat):List.replicate t 0=mix t 0 Q t:=by
 have:List.replicate t 0=zT t 0:=vg (fun x hx=>by rw[List.mem_replicate] at hx;rw[hx.2];decide) (by simp) (by rw[vQ];simp)
 rw[this];unfold mix;rw[Nat.sub_self];simp[zT]
theorem zHZ (Q t:Nat):mix 0 0 Q t=zT t Q:=by simp[mix,zT]
theorem getW {N m j i t:Nat} (ht:t=j+i) (h:t<m):(zT m N).getD t 0=dig (N/W^j) i:=by
 subst ht;rw[jE h,jJ _ _ _ _ rfl]
theorem zEY {v i t:Nat} (ht:t=i):(zA v).getD t 0=dig v i:=by subst ht;exact qH _ _
structure Rnd (N v j k g:Nat):Prop where
 hd:0<dig v (k+1)
 hw:left N v (j+1)/W^j<W^((List.length (zA v))+1)
 fine:¬left N v (j+1)/W^j<v*g→g=dig (N/v) j∧left N v (j+1)%W^j+W^j*wJ (left N v (j+1)/W^j) (v*g) ((List.length (zA v))+1)=left N v j
 bk:left N v (j+1)/W^j<v*g→g-1=dig (N/v) j∧1≤g∧(left N v (j+1)%W^j+W^j*wJ (left N v (j+1)/W^j) (v*g) ((List.length (zA v))+1))%W^j+W^j*iH ((left N v (j+1)%W^j+W^j*wJ (left N v (j+1)/W^j) (v*g) ((List.length (zA v))+1))/W^j) v ((List.length (zA v))+1)=left N v j
theorem mM {N v j k g:Nat} (hk:(List.length (zA v))=k+2) (hg:g=gss (dig (left N v (j+1)/W^j) (k+2)) (dig (left N v (j+1)/W^j) (k+1)) (dig (left N v (j+1)/W^j) k) (dig v (k+1)) (dig v k)) (hgl:g<W):Rnd N v j k g:=by
 have hv0:v≠0:=by intro e;subst e;rw[lD] at hk;omega
 have hv1:W^(k+1)≤v:=by have:=gN hv0;rwa [hk] at this
 have hv2:v<W^(k+2):=by have:=xI v;rwa [hk] at this
 have hpos:0<v:=Nat.pos_of_ne_zero hv0
 obtain⟨h1,h2,h3⟩:=tT (N:=N) (j:=j) hpos
 have hgn:=pF hv2 hv1 h3
 rw[←hg] at hgn
 have hw:left N v (j+1)/W^j<W^((List.length (zA v))+1):=Nat.lt_of_lt_of_le h3 (by rw[hk,Nat.pow_succ W (k+2)];exact Nat.mul_le_mul_right _ (Nat.le_of_lt hv2))
 have hvg:v*g<W^((List.length (zA v))+1):=ph (xI v) hgl
 refine⟨?_,hw,fun h=>?_,fun h=>?_⟩
 ·have:=bq hv0
  rw[hk] at this
  exact Nat.pos_of_ne_zero this
 ·obtain⟨e1,e2⟩:=sc hpos hw hgn.1 h
  refine⟨e1.trans h1,?_⟩
  unfold wJ
  rw[e2,my,h2];rfl
 ·obtain⟨e1,e2,e3⟩:=sd hpos hw hvg hgn.2 h
  refine⟨e1.trans h1,e2,?_⟩
  rw[kd,ci,my]
  unfold wJ iH
  rw[e3,h2];rfl
theorem gss_lt (u2 u1 u0 v1 v0:Nat):gss u2 u1 u0 v1 v0<18446744073709551616:=Nat.lt_succ_of_le (Nat.min_le_right _ _)
theorem iY {m a b:Nat} (h:a=b):zT m a=zT m b:=by rw[h]
end Go.Nt
namespace Go.Nt
theorem pn {B n:Nat} (hn:(List.length (zA B))=n+1):B/W^n=dig B n:=by
 have hB:B<W^(n+1):=hn▸xI B
 rw[aW,Nat.mod_eq_of_lt]
 rw[Nat.div_lt_iff_lt_mul (qD _),Nat.mul_comm,←Nat.pow_succ];exact hB
theorem oL {B k:Nat} (h:B≠0) (hk:k=64-bitLen (dig B ((List.length (zA B))-1))):(List.length (zA (B*2^k)))=(List.length (zA B)):=by
 have hl:=lead (xB B ((List.length (zA B))-1)) (bq h) hk
 obtain⟨n,hn⟩:∃n,(List.length (zA B))=n+1:=⟨(List.length (zA B))-1,by have:=wY h;omega⟩
 have hd:=pn hn
 rw[hn,Nat.add_sub_cancel] at hl
 rw[←hd] at hl
 have hk64:k≤64:=by omega
 have hp:0<2^k:=Nat.pow_pos (by decide)
 have h1:B<(B/W^n+1)*W^n:=by
  have:=Nat.div_add_mod B (W^n)
  have:=Nat.mod_lt B (qD n)
  rw[Nat.add_mul,Nat.mul_comm (B/W^n)];omega
 have h23:∀t:Nat,t*2^k<18446744073709551616→(t+1)*2^k≤W:=fun t h4=>by
  rw[show (18446744073709551616:Nat)=W from rfl,←eG hk64] at h4
  have:=Nat.mul_le_mul_right (2^k) (Nat.lt_of_mul_lt_mul_right h4)
  rwa [eG hk64] at this
 have h3:=h23 _ hl.2
 have h4:B*2^k<W^(n+1):=by
  calc B*2^k<(B/W^n+1)*W^n*2^k:=Nat.mul_lt_mul_of_pos_right h1 hp
   _=(B/W^n+1)*2^k*W^n:=by rw[Nat.mul_right_comm]
   _≤W*W^n:=Nat.mul_le_mul_right _ h3
   _=W^(n+1):=by rw[Nat.pow_succ,Nat.mul_comm]
 have h5:=ay h4
 have h6:=qF (Nat.le_mul_of_pos_right B hp)
 omega
theorem zEG {B k:Nat} (h:B≠0) (hk:k=64-bitLen (dig B ((List.length (zA B))-1))):k<64:=by
 have:=wH (bq h);omega
theorem ii {A k:Nat} (hk:k<64):(List.length (zA (A*2^k)))≤(List.length (zA A))+1:=by
 apply ay
 have h1:=xI A
 have h2:2^k≤W:=by have:2^k≤2^64:=Nat.pow_le_pow_right (by decide) (by omega);exact this
 calc A*2^k<W^(List.length (zA A))*2^k:=Nat.mul_lt_mul_of_pos_right h1 (Nat.pow_pos (by decide))
  _≤W^(List.length (zA A))*W:=Nat.mul_le_mul_left _ h2
  _=W^((List.length (zA A))+1):=by rw[Nat.pow_succ]
theorem pL {N m:Nat} (h:(List.length (zA N))≤m):(List.replicate m 0).take 0++zA N++(List.replicate m 0).drop (0+(List.length (zA N)))=zT m N:=by
 refine vg ?_ ?_ ?_
 ·rw[List.take_zero,List.nil_append]
  refine iu (aj N) (fun x hx=>?_)
  have:=List.mem_of_mem_drop hx
  rw[List.mem_replicate] at this
  rw[this.2];decide
 ·simp;omega
 ·rw[List.take_zero,List.nil_append,jo,List.drop_replicate,vQ,Nat.mul_zero,Nat.add_zero,zB,Nat.mod_eq_of_lt (vF h)]
theorem kD {A B:Nat} (hB:B≠0) (h:(List.length (zA B))≤(List.length (zA A))+1):A<B*W^((List.length (zA A))+1-(List.length (zA B))):=by
 have h1:=gN hB
 have hp:=wY hB
 calc A<W^(List.length (zA A)):=xI A
  _=W^((List.length (zA B))-1)*W^((List.length (zA A))+1-(List.length (zA B))):=by rw[←Nat.pow_add];congr 1;omega
  _≤B*W^((List.length (zA A))+1-(List.length (zA B))):=Nat.mul_le_mul_right _ h1
structure Dm (A B k:Nat):Prop where
 k64:k<64
 v:(List.length (zA (B*2^k)))=(List.length (zA B))
 w:(List.length (zA (A*2^k)))≤(List.length (zA A))+1
 lt:A*2^k<B*2^k*W^((List.length (zA A))+1-(List.length (zA (B*2^k))))
 le:(List.length (zA B))≤(List.length (zA A))
theorem dm {A B k:Nat} (hB:B≠0) (hle:B≤A) (hk:k=64-bitLen (dig B ((List.length (zA B))-1))):Dm A B k:=by
 have h1:=zEG hB hk
 have h2:=oL hB hk
 have h3:=qF hle
 refine⟨h1,h2,ii h1,?_,h3⟩
 rw[h2,Nat.mul_right_comm]
 exact Nat.mul_lt_mul_of_pos_right (kD hB (by omega)) (Nat.pow_pos (by decide))
theorem dm_quo {A B k m n:Nat} (hB:B≠0) (D:Dm A B k) (hm:m=(List.length (zA A))+1) (hn:n=(List.length (zA (B*2^k)))):zA (val (zT (m-n) (A*2^k/(B*2^k))))=zA (A/B):=by
 subst hm;subst hn
 have hp:0<2^k:=Nat.pow_pos (by decide)
 rw[Nat.mul_div_mul_right _ _ hp,qv]
 rw[D.v,Nat.div_lt_iff_lt_mul (by omega),Nat.mul_comm]
 exact kD hB (by have:=D.le;omega)
theorem zFF {A B k m:Nat} (hB:B≠0) (D:Dm A B k) (hm:m=(List.length (zA A))+1):val (zT m (left (A*2^k) (B*2^k) 0))/2^k=A%B:=by
 subst hm
 have hp:0<2^k:=Nat.pow_pos (by decide)
 have e:left (A*2^k) (B*2^k) 0=A%B*2^k:=by
  unfold left
  rw[Nat.pow_zero,Nat.mod_one,Nat.div_one,Nat.zero_add,Nat.one_mul,Nat.mul_mod_mul_right]
 rw[e,xz,Nat.mod_eq_of_lt,Nat.mul_div_cancel _ hp]
 refine Nat.lt_of_le_of_lt (Nat.mul_le_mul_right _ (Nat.mod_le A B)) (vF D.w)
theorem cF (m N:Nat):(List.length (zA (val (zT m N))))≤m:=by
 have:=wX (jf m N);rwa [qB] at this
/-! ### bits -/
theorem nm {n k:Nat} (h1:n<2^k) (h2:n≠0→2^(k-1)≤n) (h0:n=0→k=0):bitLen n=k:=by
 have h:=bitLen_spec n
 by_cases hn:n=0
 ·rw[h0 hn];subst hn;rfl
 have a:=h.2 hn
 have b:=h2 hn
 have c:=h.1
 have p:=wH hn
 have hk:0<k:=by
  rcases Nat.eq_zero_or_pos k with e|e
  ·subst e;simp at h1;omega
  ·exact e
 have e1:bitLen n-1<k:=(Nat.pow_lt_pow_iff_right (by decide:1<2)).1 (Nat.lt_of_le_of_lt a h1)
 have e2:k-1<bitLen n:=(Nat.pow_lt_pow_iff_right (by decide:1<2)).1 (Nat.lt_of_le_of_lt b c)
 omega
theorem zCC (n:Nat):W^n=2^(64*n):=by rw[Nat.pow_mul]
theorem pV {A:Nat} (h:A≠0):64*((List.length (zA A))-1)+bitLen (dig A ((List.length (zA A))-1))=bitLen A:=by
 obtain⟨n,hn⟩:∃n,(List.length (zA A))=n+1:=⟨(List.length (zA A))-1,by have:=wY h;omega⟩
 have hd:=pn hn
 have ht:=bq h
 rw[hn,Nat.add_sub_cancel] at*
 obtain⟨t,hte⟩:∃t,t=dig A n:=⟨_,rfl⟩
 rw[←hte] at ht hd⊢
 have hs:=bitLen_spec t
 have hp:=wH ht
 have e:=Nat.div_add_mod A (W^n)
 have hm:=Nat.mod_lt A (qD n)
 rw[hd] at e
 generalize A%W^n=low at*
 symm
 apply nm
 ·rw[Nat.pow_add,←zCC]
  have:W^n*(t+1)≤W^n*2^bitLen t:=Nat.mul_le_mul_left _ hs.1
  rw[Nat.mul_add] at this;omega
 ·intro _
  rw[Nat.add_sub_assoc (by omega),Nat.pow_add,←zCC]
  have:W^n*2^(bitLen t-1)≤W^n*t:=Nat.mul_le_mul_left _ (hs.2 ht)
  omega
 ·intro h0;exact absurd h0 h
theorem aI {A:Nat} (h:(List.length (zA A))=0):A=0:=aO (List.eq_nil_of_length_eq_zero h)
/-! ### powers of two, as zA -/
/-! ### the root -/
end Go.Nt
namespace Go.Nt
abbrev D : Nat:=65536
def dval : List Nat→Nat
 | []=>0
 | x::xs=>x+D*dval xs
end Go.Nt
namespace Go.Nt
def zv (n:Bool) (xs:List Nat):Int:=if n=true then -(val xs:Int) else (val xs:Int)
theorem zH (z:Int):zv (decide (z<0)) (zA z.natAbs)=z:=by
 unfold zv
 rw[zB]
 by_cases h:z<0
 ·rw[decide_eq_true h,if_pos rfl];omega
 ·rw[decide_eq_false h,if_neg (by decide)];omega
theorem jK (n:Bool) (xs:List Nat):(zv n xs).natAbs=val xs:=by unfold zv;split <;> omega
theorem zGS (n:Bool) (xs:List Nat):decide (zv n xs<0)=(n&&decide (val xs≠0)):=by
 unfold zv
 cases n
 ·rw[if_neg (by decide),Bool.false_and];exact decide_eq_false (by omega)
 ·rw[if_pos rfl,Bool.true_and];exact decide_eq_decide.2 (by omega)
theorem xt (n:Bool) (xs:List Nat):(List.length (zA (zv n xs).natAbs))=(List.length (zA (val xs))):=by rw[jK]
theorem fP (xs:List Nat):zv false xs=(val xs:Int):=by unfold zv;rw[if_neg (by decide)]
theorem zGR (n:Bool) (xs:List Nat):zv (!n) xs = - zv n xs:=by
 unfold zv;cases n <;> simp
def sgn (z:Int):Int:=if z=0 then 0 else if z<0 then -1 else 1
def ql (x y:Int):Int:=if x<y then -1 else if y<x then 1 else 0
theorem lp {m n:Bool} (h:m=n) (xs ys:List Nat):zv m xs+zv n ys=zv m (zA (val xs+val ys)):=by
 subst h;unfold zv;rw[zB];cases m <;> simp <;> omega
theorem fQ {m n:Bool} (h:m≠n) {xs ys:List Nat} (hle:val ys≤val xs):zv m xs+zv n ys=zv m (zA (val xs-val ys)):=by
 unfold zv;rw[zB];cases m <;> cases n <;> simp at h⊢<;> omega
theorem zGT (m n:Bool) (xs ys:List Nat):zv m xs*zv n ys=zv (!(m==n)) (zA (val xs*val ys)):=by
 unfold zv;rw[zB];cases m <;> cases n <;> simp[Int.neg_mul,Int.mul_neg]
theorem zCG (m n:Bool) (xs ys:List Nat):(zv m xs).tdiv (zv n ys)=zv (!(m==n)) (zA (val xs/val ys)):=by
 have h:((val xs:Int)).tdiv (val ys:Int)=((val xs/val ys:Nat):Int):=Int.ofNat_tdiv _ _▸rfl
 unfold zv;rw[zB];cases m <;> cases n <;> simp[Int.neg_tdiv,Int.tdiv_neg,h]
theorem zCF (m n:Bool) (xs ys:List Nat):(zv m xs).tmod (zv n ys)=zv m (zA (val xs%val ys)):=by
 have h:((val xs:Int)).tmod (val ys:Int)=((val xs%val ys:Nat):Int):=Int.ofNat_tmod _ _▸rfl
 unfold zv;rw[zB];cases m <;> cases n <;> simp[Int.neg_tmod,Int.tmod_neg,h]
end Go.Nt
namespace Go.Nt
theorem ji (a b:Nat):(List.length (zA (a+b)))≤max ((List.length (zA a))) ((List.length (zA b)))+1:=ay (zCB (vF (Nat.le_max_left _ _)) (vF (Nat.le_max_right _ _)))
theorem wz (a b:Nat):(List.length (zA (a*b)))≤(List.length (zA a))+(List.length (zA b)):=ay (by rw[Nat.pow_add];exact Nat.mul_lt_mul_of_lt_of_lt (xI a) (xI b))
theorem xh (x y:Int):(List.length (zA (x+y).natAbs))≤max ((List.length (zA x.natAbs))) ((List.length (zA y.natAbs)))+1:=Nat.le_trans (qF (Int.natAbs_add_le x y)) (ji _ _)
theorem gD (x y:Int):(List.length (zA (x-y).natAbs))≤max ((List.length (zA x.natAbs))) ((List.length (zA y.natAbs)))+1:=by
 have:=xh x (-y);rwa [Int.natAbs_neg,←Int.sub_eq_add_neg] at this
theorem qA (x y:Int):(List.length (zA (x*y).natAbs))≤(List.length (zA x.natAbs))+(List.length (zA y.natAbs)):=by rw[Int.natAbs_mul];exact wz _ _
theorem wL (x y:Int):(List.length (zA (x.tdiv y).natAbs))≤(List.length (zA x.natAbs)):=by rw[Int.natAbs_tdiv];exact qF (Nat.div_le_self _ _)
theorem rR (x y:Int):(List.length (zA (x.tmod y).natAbs))≤(List.length (zA x.natAbs)):=by rw[Int.natAbs_tmod];exact qF (Nat.mod_le _ _)
theorem gE : (List.length (zA 1))=1:=by rw[eF (by decide)];rfl
theorem qL {n:Nat} (h:n<18446744073709551616):(List.length (zA n))≤1:=ay (by simpa using h)
/-! ### rests from 0 on -/
theorem cJ (a b:Int):(0≤a.tmod b→a.tdiv b=a/b∧a.tmod b=a%b)∧
  (a.tmod b<0→(0<b→a.tdiv b-1=a/b∧a.tmod b+b=a%b)∧(b<0→a.tdiv b+1=a/b∧a.tmod b-b=a%b)):=by
 rcases Int.lt_trichotomy b 0 with hb|hb|hb
 ·have h1:=Int.emod_nonneg a (show b≠0 by omega)
  have h3:=Int.emod_lt_of_pos a (show 0 < -b by omega)
  rw[Int.emod_neg] at h3
  have h4:=Int.tmod_eq_emod (a:=a) (b:=b)
  have h5:=Int.tdiv_eq_ediv (a:=a) (b:=b)
  have h6:=Int.sign_eq_neg_one_of_neg hb
  split at h4
  ·rename_i h;rw[if_pos h] at h5;refine⟨fun _=>⟨by omega,by omega⟩,fun h7=>⟨fun h8=>by omega,fun _=>by omega⟩⟩
  ·rename_i h;rw[if_neg h,h6] at h5
   refine⟨fun h7=>?_,fun h7=>⟨fun h8=>by omega,fun _=>by omega⟩⟩
   omega
 ·subst hb;simp
 ·have h1:=Int.emod_nonneg a (show b≠0 by omega)
  have h3:=Int.emod_lt_of_pos a hb
  have h4:=Int.tmod_eq_emod (a:=a) (b:=b)
  have h5:=Int.tdiv_eq_ediv (a:=a) (b:=b)
  have h6:=Int.sign_eq_one_of_pos hb
  split at h4
  ·rename_i h;rw[if_pos h] at h5;refine⟨fun _=>⟨by omega,by omega⟩,fun h7=>⟨fun h8=>by omega,fun _=>by omega⟩⟩
  ·rename_i h;rw[if_neg h,h6] at h5
   refine⟨fun h7=>?_,fun h7=>⟨fun h8=>by omega,fun _=>by omega⟩⟩
   omega
/-! ### the greatest common divisor -/
def cof (a b x next:Int):Int×Int:=if h:b=0 then (if a<0 then (-a,-x) else (a,x)) else cof b (a.tmod b) next (x-a.tdiv b*next)
termination_by b.natAbs
decreasing_by
 rw[Int.natAbs_tmod];exact Nat.mod_lt _ (by omega)
theorem bF (a x next:Int):cof a 0 x next=if a<0 then (-a,-x) else (a,x):=by rw[cof,dif_pos rfl]
theorem nY {b:Int} (h:b≠0) (a x next:Int):cof a b x next=cof b (a.tmod b) next (x-a.tdiv b*next):=by rw[cof,dif_neg h]
structure Cf (A B a b x next:Int) (X Y:Nat):Prop where
 g:Nat.gcd a.natAbs b.natAbs=Nat.gcd A.natAbs B.natAbs
 d1:B∣a-x*A
 d2:B∣b-next*A
 x:x.natAbs≤X
 y:next.natAbs≤Y
 s:Y*a.natAbs+X*b.natAbs=B.natAbs
 X1:X≤max 1 B.natAbs
 Y1:Y≤B.natAbs
 a1:a.natAbs≤max A.natAbs B.natAbs
 b1:b.natAbs≤B.natAbs
theorem Cf.start (A B:Int):Cf A B A B 1 0 1 0:=by
 refine⟨rfl,?_,?_,by decide,by decide,by omega,Nat.le_max_left _ _,Nat.zero_le _,Nat.le_max_left _ _,Nat.le_refl _⟩
 ·rw[Int.one_mul,Int.sub_self];exact Int.dvd_zero _
 ·rw[Int.zero_mul,Int.sub_zero];exact Int.dvd_refl _
theorem Cf.step {A B a b x next:Int} {X Y:Nat} (c:Cf A B a b x next X Y) (h:b≠0):Cf A B b (a.tmod b) next (x-a.tdiv b*next) Y (X+(a.tdiv b).natAbs*Y):=by
 have e1:=Int.tmod_add_mul_tdiv a b
 have e2:a.natAbs=(a.tdiv b).natAbs*b.natAbs+(a.tmod b).natAbs:=by
  rw[Int.natAbs_tdiv,Int.natAbs_tmod,Nat.mul_comm];exact (Nat.div_add_mod _ _).symm
 have hb:0<b.natAbs:=by omega
 have hs:(X+(a.tdiv b).natAbs*Y)*b.natAbs+Y*(a.tmod b).natAbs=B.natAbs:=by
  rw[←c.s,e2,Nat.add_mul,Nat.mul_add,Nat.mul_right_comm,Nat.mul_comm Y ((a.tdiv b).natAbs*b.natAbs)]
  omega
 refine⟨?_,c.d2,?_,c.y,?_,hs,Nat.le_trans c.Y1 (Nat.le_max_right _ _),?_,Nat.le_trans c.b1 (Nat.le_max_right _ _),?_⟩
 ·rw[←c.g,Int.natAbs_tmod,Nat.gcd_comm a.natAbs,Nat.gcd_rec b.natAbs a.natAbs,Nat.gcd_comm]
 ·have e3:a.tmod b-(x-a.tdiv b*next)*A=(a-x*A)-a.tdiv b*(b-next*A):=by
   rw[Int.sub_mul,Int.mul_sub,Int.mul_assoc,Int.mul_comm (a.tdiv b) b];omega
  rw[e3];exact Int.dvd_sub c.d1 (Int.dvd_mul_of_dvd_right c.d2)
 ·refine Nat.le_trans (Int.natAbs_sub_le _ _) ?_
  rw[Int.natAbs_mul]
  exact Nat.add_le_add c.x (Nat.mul_le_mul_left _ c.y)
 ·have h1:=Nat.le_mul_of_pos_right (X+(a.tdiv b).natAbs*Y) hb
  omega
 ·rw[Int.natAbs_tmod];exact Nat.le_trans (Nat.le_of_lt (Nat.mod_lt _ hb)) c.b1
theorem Cf.fin {A B a x next:Int} {X Y:Nat} (c:Cf A B a 0 x next X Y):(cof a 0 x next).1=(Nat.gcd A.natAbs B.natAbs:Nat)∧B∣(cof a 0 x next).1-(cof a 0 x next).2*A∧(cof a 0 x next).2.natAbs≤max 1 B.natAbs:=by
 have hg:=c.g
 rw[Int.natAbs_zero,Nat.gcd_zero_right] at hg
 have hx:=Nat.le_trans c.x c.X1
 rw[bF]
 by_cases h:a<0
 ·rw[if_pos h]
  refine⟨by show -a=_;omega,?_,by show (-x).natAbs≤_;rw[Int.natAbs_neg];exact hx⟩
  show B ∣ -a - -x*A
  have : -a - -x*A = -(a-x*A):=by rw[Int.neg_mul];omega
  rw[this];exact Int.dvd_neg.2 c.d1
 ·rw[if_neg h]
  exact⟨by show a=_;omega,c.d1,hx⟩
theorem fN (A B:Int):(cof A B 1 0).1=(Nat.gcd A.natAbs B.natAbs:Nat)∧B∣(cof A B 1 0).1-(cof A B 1 0).2*A∧(cof A B 1 0).2.natAbs≤max 1 B.natAbs:=by
  have key:∀(n:Nat) (a b x next:Int) (X Y:Nat),b.natAbs=n→Cf A B a b x next X Y→(cof a b x next).1=(Nat.gcd A.natAbs B.natAbs:Nat)∧B∣(cof a b x next).1-(cof a b x next).2*A∧(cof a b x next).2.natAbs≤max 1 B.natAbs:=by
    intro n
    induction n using Nat.strongRecOn with
    | _ n ih=>
      intro a b x next X Y hn c
      by_cases h:b=0
      · subst h;exact c.fin
      · rw[nY h]
        refine ih (a.tmod b).natAbs ?_ _ _ _ _ _ _ rfl (c.step h)
        rw[Int.natAbs_tmod,←hn];exact Nat.mod_lt _ (by omega)
  exact key _ _ _ _ _ _ _ rfl (Cf.start A B)
end Go.Nt
namespace Go.Nt
theorem eZ (n:Bool) (xs:List Nat):zv n xs=0↔val xs=0:=by unfold zv;split <;> omega
theorem zAT (m:Bool) (xs:List Nat):(m&&decide (0<(((List.length (zA (val xs))):Nat):Int)))=decide (zv m xs<0):=by
 rw[zGS]
 congr 1
 apply decide_eq_decide.2
 constructor
 ·intro h e;rw[e,zJ] at h;simp at h
 ·intro h;have:=wY h;omega
theorem bm (m:Bool) (n:Nat):zv m (zA n)=if m=true then -(n:Int) else (n:Int):=by unfold zv;rw[zB]
theorem yX {x:Int} (h:x<0) (h2 : -9223372036854775808≤x):(18446744073709551616-(x%18446744073709551616).toNat)%18446744073709551616=x.natAbs:=by omega
theorem uo {n:Bool} {xs:List Nat} (h:((bitLen (val xs):Nat):Int)=0):0=sgn (zv n xs):=by
 have h2:val xs=0:=by
  rcases Nat.eq_zero_or_pos (val xs) with e|e
  ·exact e
  ·have:=wH (x:=val xs) (by omega);omega
 unfold sgn;rw[if_pos ((eZ n xs).2 h2)]
theorem uq {n:Bool} {xs:List Nat} (h:¬((bitLen (val xs):Nat):Int)=0):(if n=true then -1 else 1)=sgn (zv n xs):=by
 have h2:val xs≠0:=fun e=>h (by rw[e];rfl)
 cases n
 ·have e:zv false xs=(val xs:Int):=fP xs
  show (1:Int)=sgn (zv false xs)
  rw[e];unfold sgn;rw[if_neg (by omega),if_neg (by omega)]
 ·have e:zv true xs = -(val xs:Int):=by unfold zv;rw[if_pos rfl]
  show (-1:Int)=sgn (zv true xs)
  rw[e];unfold sgn;rw[if_neg (by omega),if_pos (by omega)]
theorem qR (z:Int):(sgn z=0∧z=0)∨(sgn z = -1∧z<0)∨(sgn z=1∧0<z):=by
 unfold sgn;split
 ·exact .inl ⟨rfl,by assumption⟩
 ·split
  ·exact .inr (.inl ⟨rfl,by assumption⟩)
  ·exact .inr (.inr ⟨rfl,by omega⟩)
theorem da (z:Int) : -1≤sgn z∧sgn z≤1:=by rcases qR z with h|h|h <;> omega
theorem zFM {x y:Int} (h:sgn x<sgn y) : -1=ql x y:=by
 have:x<y:=by rcases qR x with h1|h1|h1 <;> rcases qR y with h2|h2|h2 <;> omega
 unfold ql;rw[if_pos this]
theorem zFN {x y:Int} (h:sgn y<sgn x):1=ql x y:=by
 have:y<x:=by rcases qR x with h1|h1|h1 <;> rcases qR y with h2|h2|h2 <;> omega
 unfold ql;rw[if_neg (by omega),if_pos this]
theorem gx (a b:Nat):(a<b∧aY a b = -1)∨(b<a∧aY a b=1)∨(a=b∧aY a b=0):=by
 unfold aY;split
 ·exact .inl ⟨by assumption,rfl⟩
 ·split
  ·exact .inr (.inl ⟨by assumption,rfl⟩)
  ·exact .inr (.inr ⟨by omega,rfl⟩)
theorem cS (x y:Int):(x<y∧ql x y = -1)∨(y<x∧ql x y=1)∨(x=y∧ql x y=0):=by
 unfold ql;split
 ·exact .inl ⟨by assumption,rfl⟩
 ·split
  ·exact .inr (.inl ⟨by assumption,rfl⟩)
  ·exact .inr (.inr ⟨by omega,rfl⟩)
theorem zBN {m n:Bool} {xs ys:List Nat} (h1:sgn (zv m xs)<0) (h2:¬sgn (zv m xs)<sgn (zv n ys)) (h3:¬sgn (zv n ys)<sgn (zv m xs)):aY (val ys) (val xs)=ql (zv m xs) (zv n ys):=by
 have hx:=jK m xs
 have hy:=jK n ys
 generalize zv m xs=x at*
 generalize zv n ys=y at*
 rcases qR x with c|c|c <;> rcases qR y with d|d|d <;> rcases gx (val ys) (val xs) with e|e|e <;> rcases cS x y with f|f|f <;> omega
theorem zBM {m n:Bool} {xs ys:List Nat} (h1:¬sgn (zv m xs)<0) (h2:¬sgn (zv m xs)<sgn (zv n ys)) (h3:¬sgn (zv n ys)<sgn (zv m xs)):aY (val xs) (val ys)=ql (zv m xs) (zv n ys):=by
 have hx:=jK m xs
 have hy:=jK n ys
 generalize zv m xs=x at*
 generalize zv n ys=y at*
 rcases qR x with c|c|c <;> rcases qR y with d|d|d <;> rcases gx (val xs) (val ys) with e|e|e <;> rcases cS x y with f|f|f <;> omega
theorem zBO (x y:Int):decide (ql x y=0)=decide (x=y):=by
 apply decide_eq_decide.2
 rcases cS x y with h|h|h <;> omega
theorem zHN (z:Int):0≤sgn z↔0≤z:=by rcases qR z with h|h|h <;> omega
theorem aL (z:Int):0<sgn z↔0<z:=by rcases qR z with h|h|h <;> omega
theorem xQ (z:Int):sgn z=0↔z=0:=by rcases qR z with h|h|h <;> omega
theorem ar (z:Int):sgn z<0↔z<0:=by rcases qR z with h|h|h <;> omega
theorem yI (m n:Bool) (xs ys:List Nat):zv m (zA (if val ys=0 then 0 else val xs%val ys))=if zv n ys=0 then 0 else (zv m xs).tmod (zv n ys):=by
 by_cases h:val ys=0
 ·rw[if_pos h,if_pos ((eZ n ys).2 h),bm];simp
 ·rw[if_neg h,if_neg (fun e=>h ((eZ n ys).1 e)),zCF]
theorem ne_zv (n:Bool) (ys:List Nat):decide (val ys≠0)=decide (zv n ys≠0):=decide_eq_decide.2 (not_congr (eZ n ys).symm)
theorem euc0 {x y:Int} (h:¬y≠0∨0≤sgn (if y=0 then 0 else x.tmod y)):x.tdiv y=x/y∧(if y=0 then 0 else x.tmod y)=(if y=0 then 0 else x%y):=by
 by_cases hy:y=0
 ·subst hy;simp
 ·rw[if_neg hy,zHN] at h
  rw[if_neg hy,if_neg hy]
  exact (cJ x y).1 (h.resolve_left (fun e=>e hy))
theorem euc1 {x y:Int} (h:y≠0∧sgn (if y=0 then 0 else x.tmod y)<0) (hp:0<sgn y):x.tdiv y-1=x/y∧(if y=0 then 0 else x.tmod y)+y=(if y=0 then 0 else x%y):=by
 obtain⟨hy,h⟩:=h
 rw[if_neg hy,ar] at h
 rw[if_neg hy,if_neg hy]
 exact ((cJ x y).2 h).1 ((aL y).1 hp)
theorem euc2 {x y:Int} (h:y≠0∧sgn (if y=0 then 0 else x.tmod y)<0) (hp:sgn y≤0):x.tdiv y+1=x/y∧(if y=0 then 0 else x.tmod y)-y=(if y=0 then 0 else x%y):=by
 obtain⟨hy,h⟩:=h
 rw[if_neg hy,ar] at h
 rw[if_neg hy,if_neg hy]
 refine ((cJ x y).2 h).2 ?_
 rcases qR y with g|g|g <;> omega
theorem ex_no {x y:Int} (h:¬y≠0∨¬sgn (if y=0 then 0 else x.tmod y)=0):¬(y≠0∧x.tmod y=0):=by
 rintro⟨h1,h2⟩
 rcases h with h|h
 ·exact h h1
 ·rw[if_neg h1,xQ] at h;exact h h2
theorem ex_yes {x y:Int} (h:y≠0∧sgn (if y=0 then 0 else x.tmod y)=0):y≠0∧x.tmod y=0:=by
 obtain⟨h1,h2⟩:=h
 rw[if_neg h1,xQ] at h2
 exact⟨h1,h2⟩
theorem yV (x y:Int):(List.length (zA (if y=0 then 0 else x.tmod y).natAbs))≤(List.length (zA x.natAbs)):=by
 split
 ·rw[Int.natAbs_zero,zJ];exact Nat.zero_le _
 ·exact rR x y
theorem di : (List.length (zA (1:Int).natAbs))=1:=gE
end Go.Nt
namespace Go.Nt
def dv (n:Bool) (xs:List Nat):Int:=if n=true then -(dval xs:Int) else (dval xs:Int)
/-! ### lines of a product -/
end Go.Nt
namespace Go.Nt
def xg (A B:Int):Int:=(cof A B 1 0).2%((B.natAbs:Int)/((Nat.gcd A.natAbs B.natAbs:Nat):Int))
theorem nQ {A B:Int} (h:B≠0):0<Nat.gcd A.natAbs B.natAbs:=Nat.gcd_pos_of_pos_right _ (by omega)
theorem zCI {A B:Int} (h:B≠0):(if (cof A B 1 0).1≠0∧(((B.natAbs:Nat):Int)).tmod (cof A B 1 0).1=0 then (((B.natAbs:Nat):Int)).tdiv (cof A B 1 0).1 else 0)=(B.natAbs:Int)/((Nat.gcd A.natAbs B.natAbs:Nat):Int):=by
 have hg:=nQ (A:=A) h
 rw[(fN A B).1]
 have hd:B.natAbs%Nat.gcd A.natAbs B.natAbs=0:=Nat.mod_eq_zero_of_dvd (Nat.gcd_dvd_right _ _)
 have h1:(((B.natAbs:Nat):Int)).tmod ((Nat.gcd A.natAbs B.natAbs:Nat):Int)=0:=by
  rw[←Int.ofNat_tmod,hd];rfl
 rw[if_pos ⟨by omega,h1⟩,Int.tdiv_eq_ediv_of_nonneg (by omega)]
theorem mD {A B:Int} (h:B≠0):0<(B.natAbs:Int)/((Nat.gcd A.natAbs B.natAbs:Nat):Int):=by
 have hg:=nQ (A:=A) h
 rw[←Int.natCast_ediv]
 have:0<B.natAbs/Nat.gcd A.natAbs B.natAbs:=Nat.div_pos (Nat.le_of_dvd (by omega) (Nat.gcd_dvd_right _ _)) hg
 omega
theorem pw (A B:Int):((B.natAbs:Int)/((Nat.gcd A.natAbs B.natAbs:Nat):Int)).natAbs≤B.natAbs:=by
 rw[←Int.natCast_ediv,Int.natAbs_natCast];exact Nat.div_le_self _ _
theorem uD {A B:Int} (h:B≠0):(xg A B).natAbs≤B.natAbs:=by
 have h1:=mD (A:=A) h
 have h2:=pw A B
 have h3:=Int.emod_nonneg (cof A B 1 0).2 (show (B.natAbs:Int)/((Nat.gcd A.natAbs B.natAbs:Nat):Int)≠0 by omega)
 have h4:=Int.emod_lt_of_pos (cof A B 1 0).2 h1
 unfold xg;omega
/-! ### powers -/
/-! ### Euclid's steps are few -/
/-! ### the elements of a field -/
theorem toNat_lt {z:Int} {p:Nat} (hp:0<p):(z%(p:Int)).toNat<p:=by
 have h1:=Int.emod_nonneg z (show (p:Int)≠0 by omega)
 have h2:=Int.emod_lt_of_pos z (show 0<(p:Int) by omega)
 omega
end Go.Nt
namespace Go.En
open Go.RowKit Go.Nt
abbrev isZ (z:Int):VP:=zk [isB (decide (z<0)),SlM isU (zA z.natAbs)]
abbrev zM (k:Nat) (z:Int):Option Nat×MP:=(some k,zC [isB (decide (z<0)),SlM isU (zA z.natAbs)])
theorem zO {z z':Int} (h:z=z'):isZ z=isZ z':=h▸rfl
theorem yv {n:Bool} {xs:List Nat} {z:Int} (h:n=decide (z<0)) (h2:xs=zA z.natAbs):zk [isB n,SlM isU xs]=isZ z:=by subst h;subst h2;rfl
theorem isZ0 : zk [isB false,SlM isU []]=isZ 0:=yv (by decide) (by rw[Int.natAbs_zero,zJ])
section
variable {E : Env} {P : Program} {Γ : Ctx} {M : Mem} {x : Operand}
theorem Has.okZ {n:Bool} {xs:List Nat} (h:Has E Γ M x (zk [isB n,SlM isU xs])):∀a w F,Sat E Γ M a w F→(∀y∈xs,y<18446744073709551616)∧xs.length≤9223372036854775807:=by
 intro a w F s
 obtain⟨vs,e,hv⟩:=h a w F s
 obtain⟨v,hv1,hv2⟩:=hv.get 1 (SlM isU xs) rfl
 obtain⟨ad,cap,e,g1,g2,g3,g4⟩:=hv2
 refine⟨fun y hy=>?_,by rw[qS] at g2;omega⟩
 obtain⟨i,hi,rfl⟩:=List.mem_iff_getElem.1 hy
 rcases g4 with g4|⟨b,off,_,_,vs,hv,_⟩
 ·omega
 ·obtain⟨v,_,h2⟩:=hv.get i (isU xs[i]) (by simp[hi])
  exact h2.2
theorem Has.lt2 {a b:Nat} (h:Has E Γ M x (zk [isU a,isU b])):∀ac w F,Sat E Γ M ac w F→a<18446744073709551616∧b<18446744073709551616:=by
 intro ac w F s
 obtain⟨vs,e,hv⟩:=h ac w F s
 obtain⟨v,hv1,hv2⟩:=hv.get 0 (isU a) rfl
 obtain⟨v',hv3,hv4⟩:=hv.get 1 (isU b) rfl
 exact⟨hv2.2,hv4.2⟩
end
end Go.En
namespace Go.Pz
def cf (l:List Int) (i:Nat):Int:=l.getD i 0
theorem zBR (i:Nat):cf [] i=0:=rfl
theorem zFP (a:Int) (l:List Int):cf (a::l) 0=a:=rfl
theorem fO (a:Int) (l:List Int) (i:Nat):cf (a::l) (i+1)=cf l i:=rfl
theorem je {l:List Int} {i:Nat} (h:l.length≤i):cf l i=0:=by
 unfold cf;rw[List.getD,List.getElem?_eq_none h];rfl
def jT : List Int→List Int
 | []=>[]
 | a::l=>if jT l=[]∧a=0 then [] else a::jT l
theorem bt : ∀(l:List Int) (i:Nat),cf (jT l) i=cf l i
  | [],i=>rfl
  | a::l,i=>by
    unfold jT
    split
    · rename_i h
      cases i with
      | zero=>rw[zFP,h.2];rfl
      | succ i=>rw[fO,←bt l i,h.1];rfl
    · cases i with
      | zero=>rfl
      | succ i=>rw[fO,fO,bt l i]
theorem mT {l:List Int}:jT l=[]↔∀i,cf l i=0:=by
  constructor
  · intro h i;rw[←bt,h];rfl
  · induction l with
    | nil=>intro _;rfl
    | cons a l ih=>
      intro h
      unfold jT
      rw[if_pos ⟨ih fun i=>h (i+1),h 0⟩]
def mul (f g:Nat→Int):Nat→Int
 | 0=>f 0*g 0
 | n+1=>f 0*g (n+1)+mul (fun i=>f (i+1)) g n
theorem bb {f f' g g':Nat→Int} (h:∀i,f i=f' i) (k:∀i,g i=g' i):∀n,mul f g n=mul f' g' n:=by
 obtain rfl:f=f':=funext h
 obtain rfl:g=g':=funext k
 intro n;rfl
theorem mY : ∀(n:Nat) (f g:Nat→Int),mul f g (n+1)=mul f (fun i=>g (i+1)) n+f (n+1)*g 0
  | 0,f,g=>rfl
  | n+1,f,g=>by
    have h:=mY n (fun i=>f (i+1)) g
    show f 0*g (n+2)+mul (fun i=>f (i+1)) g (n+1)=(f 0*g (n+2)+mul (fun i=>f (i+1)) (fun i=>g (i+1)) n)+f (n+2)*g 0
    rw[h]
    show _=_+f (n+1+1)*g 0
    exact (Int.add_assoc _ _ _).symm
theorem mul_comm : ∀(n:Nat) (f g:Nat→Int),mul f g n=mul g f n
  | 0,f,g=>Int.mul_comm _ _
  | n+1,f,g=>by
    rw[mY,mul_comm n f,Int.mul_comm (f (n+1))]
    show _=g 0*f (n+1)+mul (fun i=>g (i+1)) f n
    omega
theorem add_mul (f f' g:Nat→Int)  (n:Nat):mul (fun i=>f i+f' i) g n=mul f g n+mul f' g n:=by
    induction n generalizing f f' with
    | zero=>exact Int.add_mul _ _ _
    | succ n ih=>
      have h:=ih (fun i=>f (i+1)) (fun i=>f' (i+1))
      have e:=Int.add_mul (f 0) (f' 0) (g (n+1))
      show (f 0+f' 0)*g (n+1)+mul (fun i=>f (i+1)+f' (i+1)) g n=_
      rw[h,e]
      show _=(f 0*g (n+1)+mul (fun i=>f (i+1)) g n)+(f' 0*g (n+1)+mul (fun i=>f' (i+1)) g n)
      omega
theorem mF (c:Int) (f g:Nat→Int)  (n:Nat):mul (fun i=>c*f i) g n=c*mul f g n:=by
    induction n generalizing f with
    | zero=>exact Int.mul_assoc _ _ _
    | succ n ih=>
      have h:=ih (fun i=>f (i+1))
      show c*f 0*g (n+1)+mul (fun i=>c*f (i+1)) g n=c*(f 0*g (n+1)+mul (fun i=>f (i+1)) g n)
      rw[h,Int.mul_add,Int.mul_assoc]
theorem mul_add (f g g':Nat→Int) (n:Nat):mul f (fun i=>g i+g' i) n=mul f g n+mul f g' n:=by
 rw[mul_comm,add_mul,mul_comm n g,mul_comm n g']
theorem mul_assoc (f g h:Nat→Int)  (n:Nat):mul (mul f g) h n=mul f (mul g h) n:=by
    induction n generalizing f g with
    | zero=>exact Int.mul_assoc _ _ _
    | succ n ih=>
      show f 0*g 0*h (n+1)+mul (fun i=>f 0*g (i+1)+mul (fun i=>f (i+1)) g i) h n=f 0*(g 0*h (n+1)+mul (fun i=>g (i+1)) h n)+mul (fun i=>f (i+1)) (mul g h) n
      rw[add_mul,mF,ih,Int.mul_add,Int.mul_assoc]
      omega
theorem zero_mul (g:Nat→Int) (n:Nat):mul (fun _=>0) g n=0:=by
 have h:=mF 0 (fun _=>0) g n
 exact h.trans (Int.zero_mul _)
theorem bB : ∀{n A B:Nat} {f g:Nat→Int},(∀i,A≤i→f i=0)→(∀i,B≤i→g i=0)→A+B≤n+1→mul f g n=0
  | n,0,B,f,g,hf,hg,h=>by rw[bb (f':=fun _=>0) (fun i=>hf i (Nat.zero_le _)) (fun _=>rfl),zero_mul]
  | 0,A+1,B,f,g,hf,hg,h=>by
    show f 0*g 0=0
    rw[hg 0 (by omega),Int.mul_zero]
  | n+1,A+1,B,f,g,hf,hg,h=>by
    show f 0*g (n+1)+mul (fun i=>f (i+1)) g n=0
    rw[bB (A:=A) (B:=B) (fun i hi=>hf (i+1) (by omega)) hg (by omega),hg (n+1) (by omega),Int.mul_zero]
    rfl
theorem ey : ∀{A B:Nat} {f g:Nat→Int},(∀i,A<i→f i=0)→(∀i,B<i→g i=0)→mul f g (A+B)=f A*g B
  | 0,0,f,g,_,_=>rfl
  | 0,B+1,f,g,hf,hg=>by
    rw[Nat.zero_add]
    show f 0*g (B+1)+mul (fun i=>f (i+1)) g B=_
    rw[bb (f':=fun _=>0) (fun i=>hf (i+1) (by omega)) (fun _=>rfl),zero_mul];omega
  | A+1,B,f,g,hf,hg=>by
    rw[show A+1+B=(A+B)+1 by omega]
    show f 0*g (A+B+1)+mul (fun i=>f (i+1)) g (A+B)=_
    rw[ey (fun i hi=>hf (i+1) (by omega)) hg,hg (A+B+1) (by omega)]
    omega
end Go.Pz
namespace Go.En
open Go.RowKit Go.Nt Go.Pz
abbrev nz (z:Int):Bool×List Nat:=(decide (z<0),zA z.natAbs)
def zG (xs:List (Bool×List Nat)):List Int:=xs.map fun p=>zv p.1 p.2
abbrev isP (l:List Int):VP:=SlK 2 zc (l.map nz)
theorem nz_zero : nz 0=(false,[]):=by
 show (decide ((0:Int)<0),zA (Int.natAbs 0))=(false,[])
 rw[Int.natAbs_zero,zJ];rfl
theorem zQ (l:List Int):zG (l.map nz)=l:=by
 unfold zG
 rw[List.map_map]
 conv=>rhs;rw[←List.map_id l]
 exact List.map_congr_left fun z _=>zH z
theorem xy (xs:List (Bool×List Nat)):(zG xs).length=xs.length:=by unfold zG;rw[List.length_map]
theorem zv_dflt : zv false []=0:=by rw[fP];rfl
theorem qb (xs:List (Bool×List Nat)) (i:Nat):cf (zG xs) i=zv (xs.getD i (false,[])).1 (xs.getD i (false,[])).2:=by
 unfold cf zG
 rw[List.getD,List.getD,List.getElem?_map]
 cases xs[i]? with
 | none=>exact zv_dflt.symm
 | some p=>rfl
theorem ia (xs:List (Bool×List Nat)) (n:Nat):zG (xs.take n)=(zG xs).take n:=by unfold zG;rw[List.map_take]
def fill {β:Type} (l:List β) (i:Nat) (z:β):List β:=l.take i++List.replicate (l.length-i) z
theorem kO {β:Type} (l:List β) (z:β):fill l 0 z=List.replicate l.length z:=by simp[fill]
theorem zAY {β:Type} (l:List β) (z:β):fill l l.length z=l:=by simp[fill]
theorem dO {β:Type} (l:List β) (i:Nat) (z:β) (h:i≤l.length):(fill l i z).length=l.length:=by
 unfold fill;rw[List.length_append,List.length_take,List.length_replicate];omega
theorem zAX {β:Type} (l:List β) (i:Nat) (z x:β) (h:l[i]?=some x):(fill l i z).set i x=fill l (i+1) z:=by
 have hi:i<l.length:=by
  rcases Nat.lt_or_ge i l.length with h1|h1
  ·exact h1
  ·rw[List.getElem?_eq_none h1] at h;cases h
 rw[List.getElem?_eq_getElem hi] at h
 unfold fill
 rw[List.set_append_right _ _ (by rw[List.length_take];omega),List.length_take,Nat.min_eq_left (by omega),Nat.sub_self,show l.length-i=(l.length-(i+1))+1 by omega,List.replicate_succ,List.set_cons_zero,
  List.take_succ_eq_append_getElem hi,List.append_assoc,Option.some.inj h];rfl
section
variable {E : Env} {P : Program} {Γ : Ctx} {M : Mem} {x : Operand}
end
end Go.En
namespace Go.Pz
theorem wD (n:Nat) (f:Nat→Int) (i:Nat):cf ((List.range n).map f) i=if i<n then f i else 0:=by
 unfold cf
 rw[List.getD,List.getElem?_map]
 by_cases h:i<n
 ·rw[List.getElem?_range h,if_pos h];rfl
 ·rw[List.getElem?_eq_none (by simpa using h),if_neg h];rfl
def zBW (op:Int→Int→Int) (a b:List Int):List Int:=jT ((List.range (max a.length b.length)).map fun i=>op (cf a i) (cf b i))
theorem sN {op:Int→Int→Int} (h:op 0 0=0) (a b:List Int) (i:Nat):cf (zBW op a b) i=op (cf a i) (cf b i):=by
 unfold zBW
 rw[bt,wD]
 split
 ·rfl
 ·rw[je (l:=a) (by omega),je (l:=b) (by omega),h]
def padd (a b:List Int):List Int:=zBW (fun x y=>x+y) a b
def psub (a b:List Int):List Int:=zBW (fun x y=>x-y) a b
theorem cf_add (a b:List Int) (i:Nat):cf (padd a b) i=cf a i+cf b i:=sN (by rfl) a b i
theorem cf_sub (a b:List Int) (i:Nat):cf (psub a b) i=cf a i-cf b i:=sN (by rfl) a b i
def fy (a:List Int) (n:Nat):List Int:=List.replicate n 0++a
theorem zBQ (a:List Int) (n i:Nat):cf (fy a n) i=if i<n then 0 else cf a (i-n):=by
 unfold cf fy
 rw[List.getD]
 by_cases h:i<n
 ·rw[List.getElem?_append_left (by simpa using h),if_pos h,List.getElem?_replicate,if_pos h];rfl
 ·rw[List.getElem?_append_right (by simpa using Nat.le_of_not_lt h),if_neg h,List.length_replicate];rfl
def rows (f g:Nat→Int):Nat→Nat→Int
 | 0,_=>0
 | i+1,n=>rows f g i n+if i≤n then f i*g (n-i) else 0
theorem ft (f g:Nat→Int):∀i n,rows f g (i+1) (n+1)=f 0*g (n+1)+rows (fun j=>f (j+1)) g i n
  | 0,n=>by
    show 0+(if 0≤n+1 then f 0*g (n+1-0) else 0)=f 0*g (n+1)+0
    rw[if_pos (Nat.zero_le _),Int.zero_add,Int.add_zero];rfl
  | i+1,n=>by
    have h:=ft f g i n
    show rows f g (i+1) (n+1)+(if i+1≤n+1 then f (i+1)*g (n+1-(i+1)) else 0)=f 0*g (n+1)+(rows (fun j=>f (j+1)) g i n+if i≤n then f (i+1)*g (n-i) else 0)
    rw[h,Int.add_assoc]
    congr 2
    by_cases hi:i≤n
    · rw[if_pos hi,if_pos (by omega),Nat.succ_sub_succ]
    · rw[if_neg hi,if_neg (by omega)]
theorem ij (f g:Nat→Int):∀i,rows f g (i+1) 0=f 0*g 0
  | 0=>by show 0+(if 0≤0 then f 0*g (0-0) else 0)=_;rw[if_pos (Nat.le_refl _),Int.zero_add]
  | i+1=>by
    show rows f g (i+1) 0+(if i+1≤0 then _ else 0)=_
    rw[ij f g i,if_neg (by omega),Int.add_zero]
theorem mW : ∀(n:Nat) (f g:Nat→Int),mul f g n=rows f g (n+1) n
  | 0,f,g=>(ij f g 0).symm
  | n+1,f,g=>by
    rw[ft,←mW n];rfl
theorem dc (f g:Nat→Int) {A n:Nat} (h:∀i,A≤i→i≤n→f i=0):∀d,rows f g (A+d) n=rows f g A n
  | 0=>rfl
  | d+1=>by
    show rows f g (A+d) n+(if A+d≤n then f (A+d)*g (n-(A+d)) else 0)=_
    rw[dc f g h d]
    split
    · rename_i hd;rw[h _ (by omega) hd,Int.zero_mul,Int.add_zero]
    · rw[Int.add_zero]
theorem uv {f g:Nat→Int} {A:Nat} (h:∀i,A≤i→f i=0) (n:Nat):rows f g A n=mul f g n:=by
 rw[mW]
 rcases Nat.le_total A (n+1) with h1|h1
 ·have:=dc f g (n:=n) (fun i hi _=>h i hi) (n+1-A)
  rw[show A+(n+1-A)=n+1 by omega] at this
  exact this.symm
 ·have:=dc f g (A:=n+1) (n:=n) (fun i hi hn=>by omega) (A-(n+1))
  rwa [show n+1+(A-(n+1))=A by omega] at this
def zHU (a b:List Int):List Int:=if jT a=[]∨jT b=[] then [] else jT ((List.range ((jT a).length+(jT b).length-1)).map fun n=>mul (cf a) (cf b) n)
theorem kG {l:List Int} {i:Nat} (h:(jT l).length≤i):cf l i=0:=by rw[←bt];exact je h
theorem zFQ (a b:List Int) (n:Nat):cf (zHU a b) n=mul (cf a) (cf b) n:=by
 unfold zHU
 split
 ·rename_i h
  rcases h with h|h
  ·rw[bb (f':=fun _=>0) (mT.1 h) (fun _=>rfl),zero_mul];rfl
  ·rw[mul_comm,bb (f':=fun _=>0) (mT.1 h) (fun _=>rfl),zero_mul];rfl
 ·rename_i h
  rw[bt,wD]
  split
  ·rfl
  ·have h1:0<(jT a).length:=List.length_pos_iff.2 fun e=>h (.inl e)
   exact (bB (A:=(jT a).length) (B:=(jT b).length) (fun i hi=>kG hi) (fun i hi=>kG hi) (by omega)).symm
def qQ (f g:Nat→Int) (i k n:Nat):Int:=rows f g i n+if i≤n∧n<i+k then f i*g (n-i) else 0
end Go.Pz
namespace Go.Pz
theorem mul_zero (f:Nat→Int) (n:Nat):mul f (fun _=>0) n=0:=by rw[mul_comm,zero_mul]
end Go.Pz
namespace Go.Pz
open Go.Nt Go.En
def Bd (l:List Int) (K:Nat):Prop:=∀i,(List.length (zA (cf l i).natAbs))≤K
theorem Bd.mono {l:List Int} {K L:Nat} (h:Bd l K) (hk:K≤L):Bd l L:=fun i=>Nat.le_trans (h i) hk
theorem Bd.nil (K:Nat):Bd [] K:=fun i=>by rw[zBR,Int.natAbs_zero,zJ];exact Nat.zero_le _
theorem Bd.add {a b:List Int} {K:Nat} (h:Bd a K) (k:Bd b K):Bd (padd a b) (K+1):=fun i=>by
 rw[cf_add]
 have:=xh (cf a i) (cf b i)
 have:=h i
 have:=k i
 omega
theorem Bd.sub {a b:List Int} {K:Nat} (h:Bd a K) (k:Bd b K):Bd (psub a b) (K+1):=fun i=>by
 rw[cf_sub]
 have:=gD (cf a i) (cf b i)
 have:=h i
 have:=k i
 omega
theorem Bd.shift {a:List Int} {K:Nat} (h:Bd a K) (n:Nat):Bd (fy a n) K:=fun i=>by
 rw[zBQ]
 split
 ·rw[Int.natAbs_zero,zJ];exact Nat.zero_le _
 ·exact h _
theorem rH {a b:List Int} {K L:Nat} (h:Bd a K) (k:Bd b L):∀i n,(List.length (zA (rows (cf a) (cf b) i n).natAbs))≤K+L+i
  | 0,n=>by
    show (List.length (zA (Int.natAbs 0)))≤_
    rw[Int.natAbs_zero,zJ];exact Nat.zero_le _
  | i+1,n=>by
    show (List.length (zA (rows (cf a) (cf b) i n+if i≤n then cf a i*cf b (n-i) else 0).natAbs))≤_
    have h1:=rH h k i n
    have h2:(List.length (zA (if i≤n then cf a i*cf b (n-i) else 0).natAbs))≤K+L:=by
      split
      · have:=qA (cf a i) (cf b (n-i))
        have:=h i
        have:=k (n-i)
        omega
      · rw[Int.natAbs_zero,zJ];exact Nat.zero_le _
    have:=xh (rows (cf a) (cf b) i n) (if i≤n then cf a i*cf b (n-i) else 0)
    omega
theorem Bd.mul {a b:List Int} {K L:Nat} (h:Bd a K) (k:Bd b L):Bd (zHU a b) (K+L+a.length):=fun n=>by
 rw[zFQ,←uv (A:=a.length) (fun i hi=>je hi)]
 exact rH h k _ _
theorem Bd.raw {xs:List (Bool×List Nat)} {K:Nat} (h:Bd (zG xs) K) (i:Nat):(List.length (zA (val (xs.getD i (false,[])).2)))≤K:=by
 have:=h i
 rwa [qb,xt] at this
end Go.Pz
namespace Go.En
open Go.Nt Go.Pz
def PR (K:Nat):Type:={ p:(Bool×List Nat)×(Bool×List Nat)//(List.length (zA (val p.1.2)))≤K∧(List.length (zA (val p.2.2)))≤K }
theorem rY {b:Option Nat} {l:List (Bool×List Nat)} {i:Nat} {z x:Bool×List Nat} {r:Mem} (h:l[i]?=some x):((b,zC (((fill l i z).set i x).flatMap zc))::r:Mem)=(b,zC ((fill l (i+1) z).flatMap zc))::r:=by rw[zAX _ _ _ _ h]
theorem rX {b:Option Nat} {l l':List (Bool×List Nat)} {r:Mem} (h:l=l'):((b,zC (l.flatMap zc))::r:Mem)=(b,zC (l'.flatMap zc))::r:=h▸rfl
theorem vE {l:List Int} {i:Nat} (h:i<l.length):l[i]?=some (cf l i):=by
 unfold cf;rw[List.getD,List.getElem?_eq_getElem h];rfl
theorem fK (l:List Int) (i:Nat):(l.map nz).getD i (false,[])=nz (cf l i):=by
 unfold cf
 rw[List.getD,List.getD,List.getElem?_map]
 cases l[i]? with
 | none=>exact nz_zero.symm
 | some z=>rfl
theorem tc {β:Type} {l:List β} {i n:Nat} {z:β} (h:i=l.length) (hn:n=l.length):(fill l i z).take n=l:=by
 subst h;subst hn;rw[zAY,List.take_length]
end Go.En
namespace Go.Gf
def ch : Nat→Nat→Nat
 | _,0=>1
 | 0,_+1=>0
 | n+1,k+1=>ch n k+ch n (k+1)
def S (a n:Nat):Nat→Nat
 | 0=>0
 | m+1=>S a n m+ch n m*a^m
end Go.Gf
namespace Go.Gf
end Go.Gf
namespace Go.Gf
theorem half (y:Nat) {k:Nat} (hk:0<k):y/2^(k-1)=2*(y/2^k)+y/2^(k-1)%2:=by
 have:y/2^k=y/2^(k-1)/2:=by
  rw[Nat.div_div_eq_div_mul,←Nat.pow_succ];congr 2;omega
 omega
theorem iv {x y p k o:Nat} (hk:0<k) (h:o=x*(y/2^k)%p) (hb:¬y/2^(k-1)%2=1):2*o%p=x*(y/2^(k-1))%p:=by
 have e:=half y hk
 rw[h,Nat.mul_mod_mod]
 congr 1
 rw[e,show y/2^(k-1)%2=0 by omega];grind
end Go.Gf
namespace Go.Gf
end Go.Gf
namespace Go.Gf
end Go.Gf
namespace Go.Pz
open Go.Gf
theorem dN {P:Nat→Prop} (h:¬∀i,P i):∃i,¬P i∧∀k,k<i→P k:=by
  obtain⟨n,hn⟩:∃n,¬P n:=Classical.byContradiction fun hk=>h fun i=>Classical.byContradiction fun hi=>hk ⟨i,hi⟩
  induction n using Nat.strongRecOn with
  | ind n ih=>
    by_cases hc:∀k,k<n→P k
    · exact⟨n,hn,hc⟩
    · obtain⟨k,hk⟩:∃k,¬(k<n→P k):=Classical.byContradiction fun hk=>hc fun i=>Classical.byContradiction fun hi=>hk ⟨i,hi⟩
      exact ih k (Nat.lt_of_not_le fun hle=>hk fun hlt=>absurd hlt (by omega)) fun hp=>hk fun _=>hp
end Go.Pz
namespace Go.Pz
open Go.Nt Go.En
theorem ii (a:List Int) (n:Nat):(fy a n).length=n+a.length:=by unfold fy;rw[List.length_append,List.length_replicate]
theorem qN (z:Int):zv (nz z).1 (nz z).2=z:=zH z
theorem Bd.one {z:Int} {K:Nat} (h:(List.length (zA z.natAbs))≤K):Bd [z] K:=fun i=>by
 cases i with
 | zero=>exact h
 | succ i=>rw[fO,zBR,Int.natAbs_zero,zJ];exact Nat.zero_le _
theorem Bd.cons {z:Int} {l:List Int} {K:Nat} (h:(List.length (zA z.natAbs))≤K) (k:Bd l K):Bd (z::l) K:=fun i=>by
 cases i with
 | zero=>exact h
 | succ i=>exact k i
end Go.Pz
namespace Go.En
open Go.Nt Go.Pz
theorem zM0 {k:Nat} {r:Mem}:((some k,zC [isB false,SlM isU []])::r:Mem)=zM k 0::r:=by
 show _=(some k,zC [isB (decide ((0:Int)<0)),SlM isU (zA (0:Int).natAbs)])::r
 rw[Int.natAbs_zero,zJ];rfl
theorem xn {l:List Int} {i:Nat} (h:i<l.length):(l.map nz)[i]?=some (nz (cf l i)):=by rw[List.getElem?_map,vE h];rfl
theorem bd64 {l:List Int} (h:∀y∈l,-9223372036854775808≤y∧y<9223372036854775808):Bd l 1:=fun i=>by
 rcases Nat.lt_or_ge i l.length with hi|hi
 ·have:=h (cf l i) (List.mem_of_getElem? (vE hi))
  exact qL (by omega)
 ·rw[je hi,Int.natAbs_zero,zJ];exact Nat.zero_le _
end Go.En
namespace Go.Mz
open Go.Pz Go.Nt Go.En
def tab (N C:Nat) (g:Nat→Nat→Int):List Int:=(List.range N).map fun j=>g (j/C) (j%C)
theorem qi (N C:Nat) (g:Nat→Nat→Int):(tab N C g).length=N:=by unfold tab;rw[List.length_map,List.length_range]
theorem cQ {C i k:Nat} (h:k<C):(i*C+k)/C=i∧(i*C+k)%C=k:=by
 have hC:0<C:=by omega
 constructor
 ·rw[Nat.mul_comm,Nat.mul_add_div hC,Nat.div_eq_of_lt h,Nat.add_zero]
 ·rw[Nat.mul_comm,Nat.mul_add_mod,Nat.mod_eq_of_lt h]
theorem xH {N C i k:Nat} (g:Nat→Nat→Int) (hk:k<C) (hN:i*C+k<N):cf (tab N C g) (i*C+k)=g i k:=by
 unfold tab
 rw[wD,if_pos hN,(cQ hk).1,(cQ hk).2]
theorem ao {C i k:Nat} (g:Nat→Nat→Int) (hk:k<C):tab (i*C+k) C g++[g i k]=tab (i*C+(k+1)) C g:=by
 unfold tab
 rw[←Nat.add_assoc,List.range_succ,List.map_append,List.map_singleton,(cQ hk).1,(cQ hk).2]
theorem ap {C i:Nat} (g:Nat→Nat→Int):tab (i*C+C) C g=tab ((i+1)*C+0) C g:=by rw[Nat.add_zero,Nat.succ_mul]
theorem zt {R C i k:Nat} (hi:i<R) (hk:k<C):i*C+k<R*C:=by
 have:(i+1)*C≤R*C:=Nat.mul_le_mul_right C hi
 rw[Nat.succ_mul] at this;omega
theorem qT {R C:Nat} (hR:R≤64) (hC:C≤64):R*C≤4096:=Nat.le_trans (Nat.mul_le_mul hR hC) (by decide)
theorem xr {N C K:Nat} {g:Nat→Nat→Int} (h:∀i k,(List.length (zA (g i k).natAbs))≤K):Bd (tab N C g) K:=fun i=>by
 unfold Go.Mz.tab
 rw[wD]
 split
 ·exact h _ _
 ·rw[Int.natAbs_zero,zJ];exact Nat.zero_le _
def xc (r c:Int) (n:Nat):Bool:=(decide (0≤r)&&decide (r≤64))&&(decide (0≤c)&&decide (c≤64))&&decide ((n:Int)=r*c)
theorem kL {r c:Int} {n:Nat}:xc r c n=true↔∃R C:Nat,r=R∧c=C∧R≤64∧C≤64∧n=R*C:=by
 unfold xc
 simp only[Bool.and_eq_true,decide_eq_true_eq]
 constructor
 ·rintro⟨⟨⟨h1,h2⟩,h3,h4⟩,h5⟩
  refine⟨r.toNat,c.toNat,by omega,by omega,by omega,by omega,?_⟩
  have:(n:Int)=(r.toNat*c.toNat:Nat):=by rw[h5,Int.natCast_mul];congr 1 <;> omega
  omega
 ·rintro⟨R,C,rfl,rfl,h1,h2,rfl⟩
  exact⟨⟨⟨by omega,by omega⟩,by omega,by omega⟩,by rw[Int.natCast_mul]⟩
theorem qK {R C n:Nat} (h1:R≤64) (h2:C≤64) (h:n=R*C):xc (R:Int) (C:Int) n=true:=kL.2 ⟨R,C,rfl,rfl,h1,h2,h⟩
theorem ez {r c:Int} (h:(0≤r∧r≤64)∧(0≤c∧c≤64)):0≤r*c∧r*c≤4096:=by
 refine⟨Int.mul_nonneg h.1.1 h.2.1,?_⟩
 have h1:r*c≤64*c:=Int.mul_le_mul_of_nonneg_right h.1.2 h.2.1
 omega
def vI (f g:Nat→Int):Nat→Int
 | 0=>0
 | n+1=>vI f g n+f n*g n
theorem gj {f f' g g':Nat→Int}:∀n,(∀i,i<n→f i=f' i)→(∀i,i<n→g i=g' i)→vI f g n=vI f' g' n
  | 0,_,_=>rfl
  | n+1,h,k=>by
    show vI f g n+f n*g n=vI f' g' n+f' n*g' n
    rw[gj n (fun i hi=>h i (by omega)) (fun i hi=>k i (by omega)),h n (by omega),k n (by omega)]
theorem jC {f g:Nat→Int} {K L:Nat} (h:∀i,(List.length (zA (f i).natAbs))≤K) (k:∀i,(List.length (zA (g i).natAbs))≤L):∀n,(List.length (zA (vI f g n).natAbs))≤K+L+n
  | 0=>by show (List.length (zA (Int.natAbs 0)))≤_;rw[Int.natAbs_zero,zJ];exact Nat.zero_le _
  | n+1=>by
    have h1:=jC h k n
    have h2:=qA (f n) (g n)
    have h3:=h n
    have h4:=k n
    have h5:=xh (vI f g n) (f n*g n)
    show (List.length (zA (vI f g n+f n*g n).natAbs))≤_
    omega
end Go.Mz
namespace Go.En
open Go.Nt Go.Pz Go.Mz
abbrev PI (R C:Nat):Type:={ p:Nat×Nat//p.1<R∧p.2<C }
abbrev isAt (P:Program) (R C:Nat) (f:Nat→Nat→Bool×List Nat):VP:=dI (ι:=PI R C) P (fun p=>[isI (p.1.1:Int),isI (p.1.2:Int)]) (fun p=>zk (zc (f p.1.1 p.1.2)))
abbrev isM (r c:Int) (xs:List (Bool×List Nat)):VP:=zk [isI r,isI c,SlK 2 zc xs]
abbrev xW (R C:Nat) (L:List Int):VP:=zk [isI (R:Int),isI (C:Int),isP L]
abbrev ptM (r c:Int) (xs:List (Bool×List Nat)):VP:=aZ [isI r,isI c,SlK 2 zc xs]
abbrev nD : VP:=zk [isI 0,isI 0,SlK 2 zc ([]:List (Bool×List Nat))]
theorem bi {R C:Nat} {L L':List Int} (h:L=L'):xW R C L=xW R C L':=h▸rfl
theorem lS {α:Type} {fk:α→List VP} {g:Gr α} {ys ys':List α} {n:Nat} {b:Nat} {A B:VP} {r:Mem} (hn:n=ys'.length) (h:ys=ys'):(zj fk g ys::(some b,zC [A,B,ze g n])::r:Mem)=zj fk g ys'::(some b,zC [A,B,ze g ys'.length])::r:=by subst h;subst hn;rfl
theorem zvz (f:Nat→Nat→Int):(fun i k=>zv (nz (f i k)).1 (nz (f i k)).2)=f:=by funext i k;exact qN _
end Go.En
namespace Go.En
open Go.Nt Go.Pz Go.Mz
abbrev Row : Type:=Gr (Bool×List Nat)×List Int
abbrev qQ (r:Row):VP:=ze r.1 (r.2.map nz).length
abbrev qo (r:Row):Option Nat×MP:=zj zc r.1 (r.2.map nz)
def pv (ps:List Nat):List Int:=ps.map fun (n:Nat)=>(n:Int)
theorem ju (ps:List Nat):(pv ps).length=ps.length:=List.length_map _
theorem jU {pre:Mem} {rs:List Row} {i:Nat} {r:Row} (h:rs[i]?=some r):(pre++rs.map qo)[pre.length+i]?=some (qo r):=by
 rw[List.getElem?_append_right (by omega),Nat.add_sub_cancel_left,List.getElem?_map,h];rfl
theorem sY {pre:Mem} {rs:List Row} {i j:Nat} {r:Row} {v:Int} (h:rs[i]?=some r):(pre++rs.map qo).set (pre.length+i) (zj zc r.1 ((r.2.map nz).set j (nz v)))=pre++(rs.set i (r.1,r.2.set j v)).map qo:=by
 rw[List.set_append_right _ _ (by omega),Nat.add_sub_cancel_left,←List.map_set,List.map_set (f:=qo)]
def rowsOf (R C:Nat) (L:List Int):List (List Int):=(List.range R).map fun i=>(List.range C).map fun k=>cf L (i*C+k)
theorem rowsOf_len (R C:Nat) (L:List Int):(rowsOf R C L).length=R:=by unfold rowsOf;rw[List.length_map,List.length_range]
theorem swap_perm {β:Type} {l:List β} {i j:Nat} {a b:β} (hi:l[i]?=some a) (hj:l[j]?=some b) (hne:i≠j):((l.set i b).set j a).Perm l:=by
  have hil:i<l.length:=by
    rcases Nat.lt_or_ge i l.length with h|h
    · exact h
    · rw[List.getElem?_eq_none h] at hi;cases hi
  have hjl:j<l.length:=by
    rcases Nat.lt_or_ge j l.length with h|h
    · exact h
    · rw[List.getElem?_eq_none h] at hj;cases hj
  have p1:∀(m:List β) (k:Nat) (x:β),m[k]?=some x→m.Perm (x::m.eraseIdx k):=by
    intro m
    induction m with
    | nil=>intro k x h;simp at h
    | cons y m ih=>
      intro k x h
      cases k with
      | zero=>
        obtain rfl:y=x:=by simpa using h
        exact List.Perm.refl _
      | succ k=>exact ((ih k x (by simpa using h)).cons y).trans (List.Perm.swap x y _)
  have q1:=p1 l i a hi
  have q2:=p1 (l.set i b) i b (List.getElem?_set_self hil)
  rw[List.eraseIdx_set_eq] at q2
  have q3:=p1 (l.set i b) j b (by rw[List.getElem?_set_ne hne];exact hj)
  have q4:=p1 ((l.set i b).set j a) j a (List.getElem?_set_self (by rw[List.length_set];exact hjl))
  rw[List.eraseIdx_set_eq] at q4
  have q5:((l.set i b).eraseIdx j).Perm (l.eraseIdx i):=(q3.symm.trans q2).cons_inv
  exact q4.trans ((q5.cons a).trans q1.symm)
theorem tB {pre:Mem} {rs rs':List Row} (h:rs'.Perm rs):(pre++rs.map qo).Perm (pre++rs'.map qo):=(h.symm.map qo).append_left pre
def FindR (rs:List Row) (top col:Nat) (odd:Bool) (rs':List Row) (odd' ok:Bool):Prop:=
 (ok=false∧rs'=rs∧odd'=odd∧∀(j:Nat) (r:Row),top≤j→rs[j]?=some r→cf r.2 col=0)∨
 (ok=true∧∃(i:Nat) (r t:Row),top≤i∧rs[i]?=some r∧rs[top]?=some t∧cf r.2 col≠0∧(∀(j:Nat) (r':Row),top≤j→j<i→rs[j]?=some r'→cf r'.2 col=0)∧
  rs'=(if i=top then rs else (rs.set i t).set top r)∧odd'=if i=top then odd else !odd)
def exQ (x l:Int):Int:=if l≠0∧x.tmod l=0 then x.tdiv l else 0
def clr (p row:List Int) (col:Nat) (last:Int) (k:Nat):Int:=exQ (cf row k*cf p col-cf row col*cf p k) last
def clrL (p row:List Int) (col:Nat) (last:Int):List Int:=(List.range row.length).map (clr p row col last)
def mixR (p row:List Int) (col:Nat) (last:Int) (k:Nat):List Int:=(clrL p row col last).take k++row.drop k
theorem clrL_len (p row:List Int) (col:Nat) (last:Int):(clrL p row col last).length=row.length:=by unfold clrL;rw[List.length_map,List.length_range]
theorem tJ (p row:List Int) (col:Nat) (last:Int):mixR p row col last 0=row:=by unfold mixR;rw[List.take_zero,List.drop_zero];rfl
theorem lB (ps:List Nat) (n:Nat):pv ps++[(n:Int)]=pv (ps++[n]):=by unfold pv;rw[List.map_append];rfl
theorem mH {β:Type} {l:List β} {i:Nat} {x:β} (h:l[i]?=some x):l.set i x=l:=by
 have hi:i<l.length:=by
  rcases Nat.lt_or_ge i l.length with h'|h'
  ·exact h'
  ·rw[List.getElem?_eq_none h'] at h;cases h
 have e:l[i]=x:=by rw[List.getElem?_eq_getElem hi] at h;exact Option.some.inj h
 subst e
 exact List.set_getElem_self hi
theorem zGB {a b c d:Option Nat×MP} {rs rs':List Row} (h:rs=rs'):(a::b::c::d::rs.map qo:Mem)=a::b::c::d::rs'.map qo:=h▸rfl
theorem aB {rs:List Row} {i col:Nat} {r:Row} {p:List Int} {last:Int} (h:rs[i]?=some r):rs=rs.set i (r.1,mixR p r.2 col last 0):=by rw[tJ];exact (mH h).symm
theorem pg {pre:Mem} {rs:List Row} {X:Row} {i j:Nat} {v:Int} {L:List Int} (h:(rs.set i X)[i]?=some X) (e:X.2.set j v=L):
  (pre++(rs.set i X).map qo).set (pre.length+i) (zj zc X.1 ((X.2.map nz).set j (nz v)))=pre++(rs.set i (X.1,L)).map qo:=by
 rw[sY h,e,List.set_set]
theorem pp {gt:Gr Row} {rs:List Row} {i:Nat} {r:Row} {L:List Int} (h:rs[i]?=some r) (hl:L.length=r.2.length):grM qQ gt (rs.set i (r.1,L))=grM qQ gt rs:=by
 unfold grM
 have e:(rs.set i (r.1,L)).map qQ=rs.map qQ:=by
  rw[List.map_set]
  refine mH ?_
  rw[List.getElem?_map,h]
  show some (ze r.1 (r.2.map nz).length)=some (ze r.1 (L.map nz).length)
  rw[List.length_map,List.length_map,hl]
 rw[List.map_append,List.map_append,e]
end Go.En
namespace Go.Hn
open Go.Nt Go.Pz Go.Mz Go.En
def mx2 (x:Int) (p:List Int) (y:Int) (q:List Int):List Int:=(List.range p.length).map fun k=>x*cf p k+y*cf q k
theorem dE (x:Int) (p:List Int) (y:Int) (q:List Int):(mx2 x p y q).length=p.length:=by unfold mx2;rw[List.length_map,List.length_range]
theorem jP {x:Int} {p:List Int} {y:Int} {q:List Int} (h:q.length=p.length) (k:Nat):cf (mx2 x p y q) k=x*cf p k+y*cf q k:=by
 unfold mx2
 rw[wD]
 split
 ·rfl
 ·rw[je (l:=p) (by omega),je (l:=q) (by omega)];omega
theorem pY {x y:Int} {p q:List Int} {A B K L N:Nat} (hx:(List.length (zA x.natAbs))≤A) (hp:Bd p K) (hy:(List.length (zA y.natAbs))≤B) (hq:Bd q L) (h1:A+K+1≤N) (h2:B+L+1≤N):Bd (mx2 x p y q) N:=fun k=>by
 unfold mx2
 rw[wD]
 split
 ·have e1:=xh (x*cf p k) (y*cf q k)
  have e2:=qA x (cf p k)
  have e3:=qA y (cf q k)
  have e4:=hp k
  have e5:=hq k
  omega
 ·rw[Int.natAbs_zero,zJ];exact Nat.zero_le _
def xgg (a b:Int):Int:=(Nat.gcd a.natAbs b.natAbs:Nat)
def xgx (a b:Int):Int:=if b=0 then sgn a else xg a b
def xgy (a b:Int):Int:=if b=0 then 0 else (xgg a b-xg a b*a).tdiv b
theorem zGW (a b:Int):0≤xgg a b:=Int.natCast_nonneg _
theorem lw {a b:Int}:xgg a b=0↔a=0∧b=0:=by
 unfold xgg
 constructor
 ·intro h
  have h1:Nat.gcd a.natAbs b.natAbs=0:=by omega
  have:=Nat.gcd_eq_zero_iff.1 h1
  omega
 ·rintro⟨rfl,rfl⟩;rfl
theorem cc (a b:Int):xgg a b∣a:=Int.natAbs_dvd_natAbs.1 (by unfold xgg;rw[Int.natAbs_natCast];exact Nat.gcd_dvd_left _ _)
theorem bL (a b:Int):xgg a b∣b:=Int.natAbs_dvd_natAbs.1 (by unfold xgg;rw[Int.natAbs_natCast];exact Nat.gcd_dvd_right _ _)
theorem uE {a b:Int} (h:b≠0):b∣xgg a b-xg a b*a:=by
 have hc:=(fN a b).2.1
 rw[(fN a b).1] at hc
 show b∣((Nat.gcd a.natAbs b.natAbs:Nat):Int)-xg a b*a
 unfold xg
 obtain⟨u,hu⟩:=hc
 have hg:=cc a b
 have hg2:=bL a b
 obtain⟨v,hv⟩:=hg
 obtain⟨w,hw⟩:=hg2
 have hgp:0<xgg a b:=by
  have:=zGW a b
  rcases Int.lt_or_eq_of_le this with h1|h1
  ·exact h1
  ·exact absurd (lw.1 h1.symm).2 h
 change xgg a b-(cof a b 1 0).2*a=b*u at hu
 show b∣xgg a b-(cof a b 1 0).2%((b.natAbs:Int)/xgg a b)*a
 generalize (cof a b 1 0).2=c at*
 generalize hG:xgg a b=g at*
 have e1:(b.natAbs:Int)/g=(w.natAbs:Int):=by
  have:(b.natAbs:Int)=g*(w.natAbs:Int):=by
   rw[hw,Int.natAbs_mul,Int.natCast_mul]
   rw[show ((g.natAbs:Nat):Int)=g by omega]
  rw[this,Int.mul_ediv_cancel_left _ (by omega)]
 rw[e1]
 have e2:=Int.emod_add_mul_ediv c (w.natAbs:Int)
 obtain⟨s,hs⟩:∃s:Int,(w.natAbs:Int)=w*s:=by
  rcases Int.natAbs_eq w with h1|h1
  ·exact⟨1,by omega⟩
  ·exact⟨-1,by omega⟩
 refine⟨u+s*(c/(w.natAbs:Int))*v,?_⟩
 have e3:c%(w.natAbs:Int)=c-w*s*(c/(w.natAbs:Int)):=by rw[hs] at e2 ⊢;omega
 rw[e3]
 generalize c/(w.natAbs:Int)=t
 have hb:b*(u+s*t*v)=b*u+(g*w)*s*t*v:=by rw[←hw];grind
 rw[hb,←hu]
 have ha:a=g*v:=hv
 grind
theorem iW (a b:Int):xgx a b*a+xgy a b*b=xgg a b:=by
 unfold xgx xgy
 by_cases h:b=0
 ·rw[if_pos h,if_pos h,h]
  unfold xgg
  rw[show (0:Int).natAbs=0 from rfl,Nat.gcd_zero_right]
  rcases qR a with ⟨e,e2⟩|⟨e,e2⟩|⟨e,e2⟩ <;> rw[e] <;> omega
 ·rw[if_neg h,if_neg h]
  obtain⟨q,hq⟩:=uE (a:=a) h
  rw[hq,Int.mul_tdiv_cancel_left _ h]
  have:b*q=q*b:=Int.mul_comm _ _
  omega
theorem zGV {a b:Int} (h:b≠0):(if b≠0∧(xgg a b-xg a b*a).tmod b=0 then (xgg a b-xg a b*a).tdiv b else 0)=xgy a b:=by
 rw[if_pos ⟨h,Int.tmod_eq_zero_of_dvd (uE h)⟩]
 unfold xgy
 rw[if_neg h]
theorem uC (a b:Int) {K:Nat} (hb:(List.length (zA b.natAbs))≤K):(List.length (zA (xgx a b).natAbs))≤K+1:=by
 unfold xgx
 split
 ·have:(List.length (zA (sgn a).natAbs))≤1:=qL (by have:=da a;omega)
  omega
 ·rename_i h
  exact Nat.le_trans (qF (uD h)) (by omega)
theorem uU {x b:Int} {m:Nat} (hb:b≠0) (h:x.natAbs≤b.natAbs*m):(x.tdiv b).natAbs≤m:=by
 rw[Int.natAbs_tdiv]
 exact Nat.div_le_of_le_mul h
theorem uA (a b:Int) {K:Nat} (ha:(List.length (zA a.natAbs))≤K):(List.length (zA (xgy a b).natAbs))≤K+2:=by
 unfold xgy
 split
 ·rw[Int.natAbs_zero,zJ];exact Nat.zero_le _
 ·rename_i h
  have h1:((xgg a b-xg a b*a).tdiv b).natAbs≤1+a.natAbs:=by
   refine uU h ?_
   have e1:=Int.natAbs_sub_le (xgg a b) (xg a b*a)
   have e2:(xgg a b).natAbs≤b.natAbs:=by unfold xgg;rw[Int.natAbs_natCast];exact Nat.gcd_le_right _ (by omega)
   rw[Int.natAbs_mul] at e1
   have e3:=Nat.mul_le_mul_right a.natAbs (uD (A:=a) h)
   rw[Nat.mul_add,Nat.mul_one]
   omega
  refine Nat.le_trans (qF h1) (Nat.le_trans (ji _ _) ?_)
  have:=gE
  omega
/-! ### the steps -/
def jn (rs:List (List Int)) (t i col:Nat):List (List Int):=
 if xgg (cf (rs.getD t []) col) (cf (rs.getD i []) col)=0 then rs else
 (rs.set t (mx2 (xgx (cf (rs.getD t []) col) (cf (rs.getD i []) col)) (rs.getD t []) (xgy (cf (rs.getD t []) col) (cf (rs.getD i []) col)) (rs.getD i []))).set i
  (mx2 (-((cf (rs.getD i []) col).tdiv (xgg (cf (rs.getD t []) col) (cf (rs.getD i []) col)))) (rs.getD t []) ((cf (rs.getD t []) col).tdiv (xgg (cf (rs.getD t []) col) (cf (rs.getD i []) col))) (rs.getD i []))
theorem xj {α:Type} {l:List α} {i:Nat} {x d:α} (h:l[i]?=some x):l.getD i d=x:=by rw[List.getD,h];rfl
theorem lt_of_some {α:Type} {l:List α} {i:Nat} {x:α} (h:l[i]?=some x):i<l.length:=by
 rcases Nat.lt_or_ge i l.length with h1|h1
 ·exact h1
 ·rw[List.getElem?_eq_none h1] at h;cases h
theorem zGG {rs:List (List Int)} {t i col:Nat} {p q:List Int} (hp:rs[t]?=some p) (hq:rs[i]?=some q) (h:xgg (cf p col) (cf q col)=0):jn rs t i col=rs:=by
 unfold jn
 rw[xj hp,xj hq,if_pos h]
theorem zGH {rs:List (List Int)} {t i col:Nat} {p q:List Int} (hp:rs[t]?=some p) (hq:rs[i]?=some q) (h:¬xgg (cf p col) (cf q col)=0):jn rs t i col=
  (rs.set t (mx2 (xgx (cf p col) (cf q col)) p (xgy (cf p col) (cf q col)) q)).set i (mx2 (-((cf q col).tdiv (xgg (cf p col) (cf q col)))) p ((cf p col).tdiv (xgg (cf p col) (cf q col))) q):=by
 unfold jn
 rw[xj hp,xj hq,if_neg h]
def jns (rs:List (List Int)) (t col:Nat):Nat→List (List Int)
 | 0=>rs
 | n+1=>jn (jns rs t col n) t (t+1+n) col
def rd (rs:List (List Int)) (t i col:Nat):List (List Int):=rs.set i (mx2 1 (rs.getD i []) (-(cf (rs.getD i []) col/cf (rs.getD t []) col)) (rs.getD t []))
def rds (rs:List (List Int)) (t col:Nat):Nat→List (List Int)
 | 0=>rs
 | n+1=>rd (rds rs t col n) t n col
def hsg (rs:List (List Int)) (t col:Nat):List (List Int):=if cf (rs.getD t []) col<0 then rs.set t (mx2 (-1) (rs.getD t []) 0 (rs.getD t [])) else rs
structure HS where
 rows:List (List Int)
 top:Nat
def hjs (s:HS) (col:Nat):List (List Int):=jns s.rows s.top col (s.rows.length-(s.top+1))
def vH (s:HS) (col:Nat):HS:=if cf ((hjs s col).getD s.top []) col=0 then ⟨hjs s col,s.top⟩ else ⟨rds (hsg (hjs s col) s.top col) s.top col s.top,s.top+1⟩
def qP (s:HS):Nat→HS
 | 0=>s
 | c+1=>if (qP s c).top<(qP s c).rows.length then vH (qP s c) c else qP s c
def ww (C R:Nat) (L:List Int) (i:Nat):List Int:=(List.range (C+R)).map fun k=>if k<C then cf L (i*C+k) else if k=C+i then 1 else 0
def qm (C R:Nat) (L:List Int) (n:Nat):List (List Int):=(List.range n).map (ww C R L)
def hrm (R C:Nat) (L:List Int):HS:=qP ⟨qm C R L R,0⟩ C
/-! ### sizes -/
theorem oy (rs:List (List Int)) (t i col:Nat):(jn rs t i col).length=rs.length:=by unfold jn;split <;> simp
theorem xX (rs:List (List Int)) (t col:Nat):∀n,(jns rs t col n).length=rs.length
 | 0=>rfl
 | n+1=>(oy _ _ _ _).trans (xX rs t col n)
theorem zHT (rs:List (List Int)) (t i col:Nat):(rd rs t i col).length=rs.length:=by unfold rd;simp
theorem aN (rs:List (List Int)) (t col:Nat):∀n,(rds rs t col n).length=rs.length
 | 0=>rfl
 | n+1=>(zHT _ _ _ _).trans (aN rs t col n)
theorem jZ (rs:List (List Int)) (t col:Nat):(hsg rs t col).length=rs.length:=by unfold hsg;split <;> simp
theorem aR {rs:List (List Int)} {t col j:Nat} (hj:j<t):∀n,(jns rs t col n)[j]?=rs[j]?
  | 0=>rfl
  | n+1=>by
    show (jn _ _ _ _)[j]?=_
    unfold jn
    split
    · exact aR hj n
    · rw[List.getElem?_set_ne (by omega),List.getElem?_set_ne (by omega)];exact aR hj n
theorem fF {rs:List (List Int)} {t col:Nat}:∀{n j:Nat},t+1+n≤j→(jns rs t col n)[j]?=rs[j]?
  | 0,_,_=>rfl
  | n+1,j,hj=>by
    show (jn _ _ _ _)[j]?=_
    unfold jn
    split
    · exact fF (by omega)
    · rw[List.getElem?_set_ne (by omega),List.getElem?_set_ne (by omega)];exact fF (by omega)
theorem cx {rs:List (List Int)} {t col:Nat}:∀{n j:Nat},n≤j→(rds rs t col n)[j]?=rs[j]?
  | 0,_,_=>rfl
  | n+1,j,hj=>by
    show (rd _ _ _ _)[j]?=_
    unfold rd
    rw[List.getElem?_set_ne (by omega)];exact cx (by omega)
theorem wT {α:Type} {P:α→Prop} {l:List α} {i:Nat} {x:α} (h:∀r∈l,P r) (hx:P x):∀r∈l.set i x,P r:=fun r hr=>by
 rcases List.mem_or_eq_of_mem_set hr with h1|rfl
 ·exact h r h1
 ·exact hx
theorem xU {P:List Int→Prop} {l:List (List Int)} {i:Nat} (h:∀r∈l,P r) (hi:i<l.length):P (l.getD i []):=by
 rw[List.getD,List.getElem?_eq_getElem hi];exact h _ (List.getElem_mem _)
theorem jn_row {rs:List (List Int)} {t i col W:Nat} (h:∀r∈rs,r.length=W) (ht:t<rs.length):∀r∈jn rs t i col,r.length=W:=by
 unfold jn
 split
 ·exact h
 ·have e:=xU h ht
  exact wT (wT h (by rw[dE,e])) (by rw[dE,e])
theorem vn {rs:List (List Int)} {t col W:Nat} (h:∀r∈rs,r.length=W) (ht:t<rs.length):∀n,∀r∈jns rs t col n,r.length=W
 | 0=>h
 | n+1=>jn_row (vn h ht n) (by rw[xX];exact ht)
theorem en {rs:List (List Int)} {t col W:Nat} (h:∀r∈rs,r.length=W) (ht:t<rs.length):∀n,n≤t→∀r∈rds rs t col n,r.length=W
  | 0,_=>h
  | n+1,hn=>by
    have ih:=en h ht (col:=col) n (by omega)
    exact wT ih (by rw[dE];exact xU ih (by rw[aN];omega))
theorem fI {rs:List (List Int)} {t col W:Nat} (h:∀r∈rs,r.length=W) (ht:t<rs.length):∀r∈hsg rs t col,r.length=W:=by
 unfold hsg
 split
 ·exact wT h (by rw[dE];exact xU h ht)
 ·exact h
theorem zAF (s:HS) (col:Nat):(vH s col).rows.length=s.rows.length:=by
 unfold vH hjs
 split
 ·exact xX _ _ _ _
 ·show (rds _ _ _ _).length=_
  rw[aN,jZ,xX]
theorem zAD (s:HS) (col:Nat) (h:s.top<s.rows.length):(vH s col).top≤s.rows.length:=by
 unfold vH
 split
 ·show s.top≤_;omega
 ·show s.top+1≤_;omega
theorem zAE {s:HS} {W:Nat} (col:Nat) (h:s.top<s.rows.length) (hr:∀r∈s.rows,r.length=W):∀r∈(vH s col).rows,r.length=W:=by
 unfold vH hjs
 split
 ·exact vn hr h _
 ·exact en (fI (vn hr h _) (by rw[xX];exact h)) (by rw[jZ,xX];exact h) _ (Nat.le_refl _)
/-! ### how great the numbers get -/
theorem zBF {a b:Int} (hb:0<b) {K:Nat} (h:(List.length (zA a.natAbs))≤K):(List.length (zA (a/b).natAbs))≤K:=by
 refine Nat.le_trans (qF ?_) h
 have h1:0≤a∨a<0:=by omega
 rcases h1 with h1|h1
 ·have h2:=Int.ediv_le_self (b:=b) (a:=a) h1
  have h3:=Int.ediv_nonneg h1 (by omega:0≤b)
  omega
 ·have h2:a≤a/b:=by
   rw[Int.le_ediv_iff_mul_le hb]
   have:=Int.mul_le_mul_of_nonneg_left (show (1:Int)≤b by omega) (show 0 ≤ -a by omega)
   rw[Int.neg_mul,Int.neg_mul,Int.mul_one] at this
   omega
  have h3:a/b<0:=Int.ediv_neg_of_neg_of_pos h1 hb
  omega
theorem zDV {p:List Int} {K:Nat} (h:Bd p K):Bd (mx2 (-1) p 0 p) K:=fun k=>by
 unfold mx2
 rw[wD]
 split
 ·rw[show -1*cf p k+0*cf p k = -(cf p k) by omega,Int.natAbs_neg];exact h k
 ·rw[Int.natAbs_zero,zJ];exact Nat.zero_le _
theorem jn_bd {rs:List (List Int)} {t i col P K:Nat} (ht:Bd (rs.getD t []) P) (hi:Bd (rs.getD i []) K) (h:∀r∈rs,Bd r P):∀r∈jn rs t i col,Bd r (P+(K+3)):=by
 unfold jn
 split
 ·exact fun r hr=>(h r hr).mono (by omega)
 ·refine wT (wT (fun r hr=>(h r hr).mono (by omega)) ?_) ?_
  ·exact pY (uC _ _ (hi col)) ht (uA _ _ (ht col)) hi (by omega) (by omega)
  ·refine pY (A:=K) (B:=P) ?_ ht ?_ hi (by omega) (by omega)
   ·rw[Int.natAbs_neg];exact Nat.le_trans (wL _ _) (hi col)
   ·exact Nat.le_trans (wL _ _) (ht col)
theorem ja {rs:List (List Int)} {K:Nat} (h:∀r∈rs,Bd r K) (i:Nat):Bd (rs.getD i []) K:=by
 rcases Nat.lt_or_ge i rs.length with h1|h1
 ·exact xU h h1
 ·rw[List.getD,List.getElem?_eq_none h1];exact Bd.nil K
theorem gO {rs:List (List Int)} {t col K:Nat} (h:∀r∈rs,Bd r K):∀n,∀r∈jns rs t col n,Bd r (K+n*(K+3))
  | 0=>fun r hr=>(h r hr).mono (by omega)
  | n+1=>fun r hr=>by
    have ih:=gO (t:=t) (col:=col) h n
    have e:(jns rs t col n).getD (t+1+n) []=rs.getD (t+1+n) []:=by rw[List.getD,fF (Nat.le_refl _)];rfl
    refine (jn_bd (ja ih t) (by rw[e];exact ja h _) ih r hr).mono ?_
    rw[Nat.succ_mul];omega
theorem pA {rs:List (List Int)} {t col K:Nat} (h:∀r∈rs,Bd r K):∀r∈hsg rs t col,Bd r K:=by
 unfold hsg
 split
 ·exact wT h (zDV (ja h t))
 ·exact h
theorem oW {rs:List (List Int)} {t col K P:Nat} (hb:0<cf (rs.getD t []) col) (ht:Bd (rs.getD t []) P) (hl:∀i,i<t→Bd (rs.getD i []) K) (hP:∀r∈rs,Bd r P) (hKP:K≤P):∀n,n≤t→∀r∈rds rs t col n,Bd r (P+K+2)
  | 0,_=>fun r hr=>(hP r hr).mono (by omega)
  | n+1,hn=>by
    have ih:=oW hb ht hl hP hKP n (by omega)
    have e1:(rds rs t col n).getD t []=rs.getD t []:=by rw[List.getD,cx (by omega)];rfl
    have e2:(rds rs t col n).getD n []=rs.getD n []:=by rw[List.getD,cx (Nat.le_refl _)];rfl
    show ∀r∈rd _ _ _ _,_
    unfold rd
    rw[e1,e2]
    have hn2:=hl n (by omega)
    have h1:(List.length (zA (1:Int).natAbs))≤1:=qL (by decide)
    exact wT ih (pY (A:=1) (B:=K) h1 hn2 (by rw[Int.natAbs_neg];exact zBF hb (hn2 col)) ht (by omega) (by omega))
theorem zES {s:HS} {K:Nat} (col:Nat) (ht:s.top<s.rows.length) (h:∀r∈s.rows,Bd r K):∀r∈(vH s col).rows,Bd r ((K+3)*(s.rows.length+2)-3):=by
 have hm:(K+3)*(s.rows.length+2)=K*s.rows.length+2*K+3*s.rows.length+6:=by rw[Nat.add_mul,Nat.mul_add,Nat.mul_add];omega
 have hm2:(s.rows.length-(s.top+1))*(K+3)≤s.rows.length*(K+3):=Nat.mul_le_mul_right _ (by omega)
 have hm3:s.rows.length*(K+3)=K*s.rows.length+3*s.rows.length:=by rw[Nat.mul_add,Nat.mul_comm s.rows.length K,Nat.mul_comm s.rows.length 3]
 have hj:=gO (t:=s.top) (col:=col) h (s.rows.length-(s.top+1))
 unfold vH hjs
 split
 ·exact fun r hr=>(hj r hr).mono (by omega)
 ·rename_i h0
  have hg:=pA (t:=s.top) (col:=col) hj
  have htj:s.top<(jns s.rows s.top col (s.rows.length-(s.top+1))).length:=by rw[xX];exact ht
  have hpos:0<cf ((hsg (jns s.rows s.top col (s.rows.length-(s.top+1))) s.top col).getD s.top []) col:=by
   unfold hsg
   split
   ·rename_i h1
    rw[List.getD,List.getElem?_set_self htj]
    show 0<cf (mx2 _ _ _ _) col
    rw[jP rfl];omega
   ·rename_i h1;omega
  have hlow:∀i,i<s.top→Bd ((hsg (jns s.rows s.top col (s.rows.length-(s.top+1))) s.top col).getD i []) K:=fun i hi=>by
   have e:(hsg (jns s.rows s.top col (s.rows.length-(s.top+1))) s.top col).getD i []=s.rows.getD i []:=by
    unfold hsg
    split
    ·rw[List.getD,List.getElem?_set_ne (by omega),aR hi];rfl
    ·rw[List.getD,aR hi];rfl
   rw[e];exact ja h i
  exact fun r hr=>(oW hpos (ja hg _) hlow hg (by omega) s.top (Nat.le_refl _) r hr).mono (by omega)
theorem rh {rs:List (List Int)} {t col:Nat} {p:List Int} (hp:rs[t]?=some p) (h0:¬cf p col=0):0<cf ((hsg rs t col).getD t []) col:=by
 unfold hsg
 rw[xj hp]
 split
 ·rw[List.getD,List.getElem?_set_self (lt_of_some hp)]
  show 0<cf (mx2 _ _ _ _) col
  rw[jP rfl];omega
 ·rw[xj hp];omega
structure HOk (R W K:Nat) (s:HS):Prop where
 len:s.rows.length=R
 top:s.top≤R
 row:∀r∈s.rows,r.length=W
 bd:∀r∈s.rows,Bd r K
theorem wN {R W K:Nat} {s:HS} (h:HOk R W K s):∀c,HOk R W ((K+3)*(R+2)^c-3) (qP s c)
  | 0=>⟨h.len,h.top,h.row,fun r hr=>(h.bd r hr).mono (by rw[Nat.pow_zero];omega)⟩
  | c+1=>by
    have ih:=wN h c
    have hp:1≤(R+2)^c:=Nat.one_le_pow _ _ (by omega)
    have hp2:=Nat.mul_le_mul_left (K+3) hp
    have e:(K+3)*(R+2)^(c+1)=(K+3)*(R+2)^c*(R+2):=by rw[Nat.pow_succ,Nat.mul_assoc]
    have e2:(K+3)*(R+2)^c≤(K+3)*(R+2)^c*(R+2):=Nat.le_mul_of_pos_right _ (by omega)
    show HOk R W _ (if _ then _ else _)
    split
    · rename_i ht
      refine⟨(zAF _ _).trans ih.len,?_,zAE c ht ih.row,fun r hr=>?_⟩
      · have:=zAD (qP s c) c ht;rwa [ih.len] at this
      · have:=zES c ht ih.bd r hr
        rw[ih.len] at this
        refine this.mono ?_
        rw[e,show (K+3)*(R+2)^c-3+3=(K+3)*(R+2)^c by omega]
        exact Nat.le_refl _
    · exact⟨ih.len,ih.top,ih.row,fun r hr=>(ih.bd r hr).mono (by omega)⟩
theorem tU {R W K:Nat} {s:HS} (h:HOk R W K s) {c:Nat}:∀{C:Nat},c≤C→¬(c<C∧(qP s c).top<R)→qP s C=qP s c
  | C,hc,hn=>by
    by_cases e:c=C
    · rw[e]
    · have ht:¬(qP s c).top<R:=fun h2=>hn ⟨by omega,h2⟩
      have key:∀n,qP s (c+n)=qP s c:=by
        intro n
        induction n with
        | zero=>rfl
        | succ n ih=>
          show (if (qP s (c+n)).top<(qP s (c+n)).rows.length then vH (qP s (c+n)) (c+n) else qP s (c+n))=qP s c
          rw[ih,(wN h c).len,if_neg ht]
      have:=key (C-c)
      rwa [show c+(C-c)=C by omega] at this
theorem au (C R:Nat) (L:List Int) (i:Nat):(ww C R L i).length=C+R:=by unfold ww;rw[List.length_map,List.length_range]
theorem ik (C R:Nat) (L:List Int) (n:Nat):(qm C R L n).length=n:=by unfold qm;rw[List.length_map,List.length_range]
theorem oO (C R:Nat) (L:List Int) (n:Nat):qm C R L n++[ww C R L n]=qm C R L (n+1):=by unfold qm;rw[List.range_succ,List.map_append];rfl
theorem zDH {C R K:Nat} {L:List Int} (h:Bd L K) (i:Nat):Bd (ww C R L i) (K+1):=fun k=>by
 unfold ww
 rw[wD]
 have h1:(List.length (zA (1:Int).natAbs))≤1:=qL (by decide)
 have h0:(List.length (zA (0:Int).natAbs))≤0:=by rw[Int.natAbs_zero,zJ];exact Nat.le_refl _
 have:=h (i*C+k)
 (repeat' split) <;> omega
theorem jG {R C K:Nat} {L:List Int} (h:Bd L K):HOk R (C+R) (K+1) ⟨qm C R L R,0⟩ where
 len:=ik _ _ _ _
 top:=Nat.zero_le _
 row r hr:=by
  obtain⟨i,_,rfl⟩:=List.mem_map.1 hr
  exact au _ _ _ _
 bd r hr:=by
  obtain⟨i,_,rfl⟩:=List.mem_map.1 hr
  exact zDH h i
theorem zDI {C R:Nat} {L:List Int} {i k:Nat} (h:k<C):((ww C R L i).map nz)[k]?=some (nz (cf L (i*C+k))):=by
 rw[List.getElem?_map]
 unfold ww
 rw[List.getElem?_map,List.getElem?_range (by omega)]
 show some (nz (if k<C then _ else _))=_
 rw[if_pos h]
theorem su {C R:Nat} {L:List Int} {i n k:Nat} (hi:i<R) (hk:k=C) (hn:n=C+R):((fill ((ww C R L i).map nz) k (false,[])).set (C+i) (nz 1)).take n=(ww C R L i).map nz:=by
 subst hk
 have hl:((ww k R L i).map nz).length=k+R:=by rw[List.length_map,au]
 refine List.ext_getElem? fun j=>?_
 rcases Nat.lt_or_ge j (k+R) with hj|hj
 ·rw[List.getElem?_take_of_lt (by omega)]
  have hr:((ww k R L i).map nz)[j]?=some (nz (if j<k then cf L (i*k+j) else if j=k+i then 1 else 0)):=by
   rw[List.getElem?_map]
   unfold ww
   rw[List.getElem?_map,List.getElem?_range hj];rfl
  rw[hr]
  by_cases e:j=k+i
  ·subst e
   rw[List.getElem?_set_self (by rw[dO _ _ _ (by omega)];omega),if_neg (by omega),if_pos rfl]
  ·rw[List.getElem?_set_ne (fun h=>e h.symm)]
   unfold fill
   by_cases h2:j<k
   ·rw[List.getElem?_append_left (by rw[List.length_take];omega),List.getElem?_take_of_lt h2,hr]
   ·rw[List.getElem?_append_right (by rw[List.length_take];omega),List.length_take,List.getElem?_replicate,if_pos (by omega),if_neg h2,if_neg e,nz_zero]
 ·rw[List.getElem?_eq_none (by rw[List.length_take];omega),List.getElem?_eq_none (by omega)]
theorem rd_go {rs:List (List Int)} {t i col:Nat} {r b:List Int} (hr:rs[i]?=some r) (hb:rs[t]?=some b):rd rs t i col=rs.set i (mx2 1 r (-(cf r col/cf b col)) b):=by unfold rd;rw[xj hr,xj hb]
/-! ### parts of rows, put together -/
def xV (lo hi:Nat) (rs:List (List Int)):List Int:=rs.flatMap fun r=>(r.take hi).drop lo
theorem ge {lo hi i:Nat} {rs:List (List Int)} {r:List Int} (h:rs[i]?=some r):xV lo hi (rs.take (i+1))=xV lo hi (rs.take i)++(r.take hi).drop lo:=by
 unfold xV
 rw[List.take_add_one,h,List.flatMap_append]
 simp
theorem kN {lo hi W:Nat} (h1:lo≤hi) (h2:hi≤W):∀{rs:List (List Int)},(∀r∈rs,r.length=W)→(xV lo hi rs).length=rs.length*(hi-lo)
  | [],_=>by simp[xV]
  | r::rs,h=>by
    have ih:=kN h1 h2 (rs:=rs) fun r hr=>h r (List.mem_cons_of_mem _ hr)
    have hr:=h r List.mem_cons_self
    show ((r.take hi).drop lo++xV lo hi rs).length=_
    rw[List.length_append,ih,List.length_drop,List.length_take,List.length_cons,Nat.succ_mul]
    omega
theorem kM {lo hi W:Nat} {rs:List (List Int)} (h1:lo≤hi) (h2:hi≤W) (h:∀r∈rs,r.length=W):xV lo hi rs=tab (rs.length*(hi-lo)) (hi-lo) fun i k=>cf (rs.getD i []) (lo+k):=by
  have key:∀n,n≤rs.length→xV lo hi (rs.take n)=tab (n*(hi-lo)+0) (hi-lo) fun i k=>cf (rs.getD i []) (lo+k):=by
    intro n
    induction n with
    | zero=>intro _;simp[xV,tab]
    | succ n ih=>
      intro hn
      have hr:=List.getElem?_eq_getElem (show n<rs.length by omega)
      have hW:=h rs[n] (List.getElem_mem _)
      rw[List.take_add_one,hr]
      show (rs.take n++[rs[n]]).flatMap _=_
      rw[List.flatMap_append]
      show xV lo hi (rs.take n)++_=_
      rw[ih (by omega),←ap]
      have e:∀m,m≤hi-lo→tab (n*(hi-lo)+0) (hi-lo) (fun i k=>cf (rs.getD i []) (lo+k))++((rs[n].drop lo).take m)=tab (n*(hi-lo)+m) (hi-lo) fun i k=>cf (rs.getD i []) (lo+k):=by
        intro m
        induction m with
        | zero=>intro _;simp
        | succ m im=>
          intro hm
          rw[←ao _ (show m<hi-lo by omega),←im (by omega),List.append_assoc,List.take_add_one,List.getElem?_drop,List.getElem?_eq_getElem (by omega)]
          congr 2
          show [_]=[_]
          rw[xj hr]
          unfold cf
          rw[List.getD,List.getElem?_eq_getElem (by omega)];rfl
      have e2:=e (hi-lo) (Nat.le_refl _)
      rw[←e2]
      congr 1
      show (rs[n].take hi).drop lo++[]=_
      rw[List.append_nil,List.drop_take]
  have:=key rs.length (Nat.le_refl _)
  rwa [List.take_length,Nat.add_zero] at this
end Go.Hn
namespace Go.En
open Go.RowKit Go.Nt Go.Pz Go.Mz
section
variable {E : Env} {P : Program} {Γ : Ctx} {M M' : Mem}
theorem eB {fn:Func} {R:VP→Mem→Prop} {S:VP} {W:List Nat} {e:Exit} {a:Act} {w:World} {F:Blk} (hs:M'.Sublist M) (he:e=.ret∨e=.normal) (s:Sat E Γ M a w F) (hw:E.W=W) {v:Value} (hv:(results fn a.tmps).run P w=.ok v w) (hS:S.h w F v) (hR:R S M'):
  bodyPost P fn (iD E.w0 E.F0 W R) e a w:=gf he (s.sub hs) hw hv hS hR
theorem rG {fn:Func} {r:ResultVar} {R:VP→Mem→Prop} {S:VP} {W:List Nat} {e:Exit} (hs:M'.Sublist M) (he:e=.ret∨e=.normal) (hr:fn.results=#[r]) (hw:E.W=W) (h:ResL E P Γ M [r] [S]) (hR:R S M'):At E Γ M (bodyPost P fn (iD E.w0 E.F0 W R)) e:=by
 intro a w F s
 obtain⟨vs,h1,h2⟩:=xA hr h s
 match vs,h2 with
 | [v],h2=>exact eB hs he s hw (by simpa using h1) h2.1 hR
 | [],h2=>exact h2.elim
 | _::_::_,h2=>exact h2.2.elim
theorem fq {fn:Func} {R:VP→Mem→Prop} {W:List Nat} {e:Exit} (hs:M'.Sublist M) (he:e=.ret∨e=.normal) (hr:fn.results=#[]) (hw:E.W=W) (hR:R (zZ []) M'):At E Γ M (bodyPost P fn (iD E.w0 E.F0 W R)) e:=by
 intro a w F s
 obtain⟨vs,h1,h2⟩:=xA (rs:=[]) hr .nil s
 cases vs with
 | nil=>exact eB hs he s hw (by simpa using h1) (S:=zZ []) ⟨[],rfl,trivial⟩ hR
 | cons=>exact h2.elim
theorem OK1.slLHK {ty:TypeId} {pos:String} {after:Array Edge} {gd:Option (Nat×Bool)} {d:Option Tmp} {T:TypeId} {x y y2:Operand} {α:Type} {fk:α→List VP} {xs:List α} {k:Nat} {e:TypeId} {g:Bool} {z z2:Int} (hT:slB P T=some e) (ht:tyB P e=some (k,g)) (hk:∀y,(fk y).length=k) (hx:Has E Γ M x (SlK k fk xs)) (hy:Has E Γ M y (isI z)) (hy2:Has E Γ M y2 (isI z2)) (h:0≤z∧z≤z2∧z2≤xs.length):
  OK1 E P Γ M ⟨d,.slice T x (some y) (some y2) none,ty,pos,after,gd⟩ (SlK k fk ((xs.take z2.toNat).drop z.toNat)):=
 OK1.slG (l:=z.toNat) (h:=z2.toNat) hT ht hx (fun a w F s cap hc=>by
  simp only[Instr.sliceBounds,Option.map_some,evI hy a w F s,evI hy2 a w F s,Sem.run_bind,Sem.run_pure,Result.andThen_ok,xp (show 0≤z2 by omega) (show z2≤(cap:Int) by omega),
   xp h.1 (show z≤(z2.toNat:Int) by omega)]) (by omega) (by omega)
  (lm (by rw[List.length_drop,List.length_take,Nat.min_eq_left (by omega)]) (by rw[eA hk]))
end
section
variable {E : Env} {P : Program} {Γ : Ctx} {M : Mem} {ty : TypeId} {pos : String} {after : Array Edge} {gd : Option (Nat × Bool)} {d : Option Tmp}
 {ops : Array Oper} {Q : Exit → Act → World → Prop} {rest : List Oper} {T T' : TypeId} {x y : Operand} {α : Type} {fk : α → List VP} {xs : List α} {k : Nat}
theorem DrB.cv {Γ':Ctx} {l:List Oper} {bs:List Nat} (c:Cv E Γ M Γ' M) (h:DrB E P l Γ' M Q bs):DrB E P l Γ M Q bs:=fun a w F s=>by
 obtain⟨F',s'⟩:=c a w F s
 exact h a w F' s'
theorem DrB.w {l:List Oper} {bs:List Nat} {Γ':Ctx} (ts:List Nat) (h:kE Γ ts=some Γ') (k:DrB E P l Γ' M Q bs):DrB E P l Γ M Q bs:=.cv (.wk (.l ts h)) k
end
abbrev hw0 (bw:Nat) (gt:Gr (List Int)) (n C top:Nat):Option Nat×MP:=(some bw,zC [ze gt n,isI (C:Int),isI (top:Int)])
abbrev hwM (bw:Nat) (gt:Gr (List Int)) (rs:List (List Int)) (C top:Nat):Mem:=[hw0 bw gt rs.length C top,grM isP gt rs]
theorem gU {bw C n top:Nat} {gt:Gr (List Int)} {rs rs':List (List Int)} (h:rs=rs') (hn:n=rs'.length):([hw0 bw gt n C top,grM isP gt rs]:Mem)=hwM bw gt rs' C top:=by subst h;subst hn;rfl
theorem zEK {bw C top':Nat} {gt:Gr (List Int)} {rs:List (List Int)} {z:Int} (h:z=(top':Int)):([(some bw,zC [ze gt rs.length,isI (C:Int),isI z]),grM isP gt rs]:Mem)=hwM bw gt rs C top':=by subst h;rfl
theorem wM {L L':List Int} (h:L=L'):isP L=isP L':=h▸rfl
end Go.En
namespace Go.Br
open Go.Nt Go.Pz
structure BS where
 rows:List (List Int)
 ps:List Nat
 last:Int
 odd:Bool
def zCE (c:Nat) (s s':BS):Prop:=
  (s'=s∧∀(j:Nat) (r:List Int),s.ps.length≤j→s.rows[j]?=some r→cf r c=0)∨
  ∃(i:Nat) (r t:List Int) (sw:List (List Int)),s.ps.length≤i∧s.rows[i]?=some r∧s.rows[s.ps.length]?=some t∧cf r c≠0∧sw=(if i=s.ps.length then s.rows else (s.rows.set i t).set s.ps.length r)∧
    s'.rows.length=s.rows.length∧(∀j:Nat,s'.rows[j]?=if s.ps.length<j then (sw[j]?).map (fun row=>Go.En.clrL r row c s.last) else sw[j]?)∧s'.ps=s.ps++[c]∧s'.last=cf r c∧s'.odd=if i=s.ps.length then s.odd else !s.odd
inductive BRun (s0:BS):Nat→BS→Prop
 | zero:BRun s0 0 s0
 | step {c:Nat} {s s':BS}:BRun s0 c s→zCE c s s'→BRun s0 (c+1) s'
theorem BRun.full {s0 s:BS} {c:Nat} (h:BRun s0 c s) (hf:s.rows.length≤s.ps.length):∀d,BRun s0 (c+d) s
 | 0=>h
 | d+1=>(BRun.full h hf d).step (.inl ⟨rfl,fun j r hj hr=>by rw[List.getElem?_eq_none (by omega)] at hr;cases hr⟩)
end Go.Br
namespace Go.En
open Go.Nt Go.Pz Go.Br
structure RunI (s0:BS) (C K R c:Nat) (rs:List Row) (ps:List Nat) (last:Int) (odd:Bool):Prop where
 hc:c≤C
 hlen:rs.length=R
 hrow:∀r∈rs,r.2.length=C
 hps:ps.length≤R
 hb:∀r∈rs,Bd r.2 ((K+1)*2^ps.length-1)
 hl:(List.length (zA last.natAbs))≤(K+1)*2^ps.length-1
 run:BRun s0 c ⟨rs.map Prod.snd,ps,last,odd⟩
theorem RunI.no {s0:BS} {C K R c:Nat} {rs rs2:List Row} {ps:List Nat} {last:Int} {odd odd2:Bool} (h:RunI s0 C K R c rs ps last odd) (hc:c<C) (hF:FindR rs ps.length c odd rs2 odd2 false):RunI s0 C K R (c+1) rs2 ps last odd2:=by
  rcases hF with ⟨_,rfl,rfl,hz⟩|⟨h0,_⟩
  · refine⟨hc,h.hlen,h.hrow,h.hps,h.hb,h.hl,h.run.step (.inl ⟨rfl,fun j r hj hr=>?_⟩)⟩
    rw[List.getElem?_map] at hr
    cases hq:rs2[j]? with
    | none=>rw[hq] at hr;cases hr
    | some q=>
      rw[hq] at hr
      obtain rfl:q.2=r:=by simpa using hr
      exact hz j q hj hq
  · cases h0
theorem RunI.fin {s0:BS} {C K R c:Nat} {rs:List Row} {ps:List Nat} {last:Int} {odd:Bool} (h:RunI s0 C K R c rs ps last odd) (he:C≤c∨R≤ps.length):RunI s0 C K R C rs ps last odd:=by
 rcases he with he|he
 ·obtain rfl:C=c:=Nat.le_antisymm he h.hc
  exact h
 ·refine⟨Nat.le_refl _,h.hlen,h.hrow,h.hps,h.hb,h.hl,?_⟩
  have:=h.run.full (by show (rs.map Prod.snd).length≤ps.length;rw[List.length_map,h.hlen];exact he) (C-c)
  rwa [show c+(C-c)=C by have:=h.hc;omega] at this
theorem mQ (M:Mem):M.Perm (M++[]):=by rw[List.append_nil]
end Go.En
namespace Go.En
open Go.RowKit Go.Nt Go.Pz
section
variable {E : Env} {P : Program} {Γ : Ctx} {M : Mem}
theorem All2.conv {α:Type} {f g:α→VP} {w:World} {F:Blk}:∀{xs:List α} {Us:List VP} {vs:List Value},(∀x∈xs,∀v,(f x).h w F v→(g x).h w F v)→All2 (xs.map f++Us) w F vs→All2 (xs.map g++Us) w F vs
 | [],Us,vs,_,h=>h
 | x::xs,Us,v::vs,hc,h=>⟨hc x (by simp) v h.1,All2.conv (fun y hy=>hc y (by simp[hy])) h.2⟩
 | _::_,_,[],_,h=>h.elim
end
end Go.En
namespace Go.En
open Go.RowKit
section
variable {E : Env} {P : Program} {Γ : Ctx} {M : Mem} {ty : TypeId} {pos : String} {after : Array Edge} {gd : Option (Nat × Bool)} {d : Option Tmp}
 {ops : Array Oper} {Q : Exit → Act → World → Prop} {rest : List Oper} {T T' : TypeId} {x y : Operand} {α : Type} {f : α → VP} {xs : List α}
theorem OKY.eq {o:Oper} {S S':VP} (h:OKY E P Γ M o S) (e:S=S'):OKY E P Γ M o S':=e▸h
theorem OKY.addI {d:Option Tmp} {i j:Int} (hx:Has E Γ M x (isI i)) (hy:Has E Γ M y (isI j)) (h1 : -9223372036854775808≤i+j) (h2:i+j<9223372036854775808):OKY E P Γ M ⟨d,.binOp .add T x y T',ty,pos,after,none⟩ (isI (i+j)):=fun a w F s=>by
 refine⟨.int .i64 (i+j),fun w'=>?_,wb h1 h2 w F⟩
 have g1:=evI hx a w F s
 have g2:=evI hy a w F s
 have g3:=cq (P:=P) (T:=T) .i64 i j w'
 simp only[execOp,g1,g2]
 simp[go_sem,g3]
 exact vO h1 h2
theorem Ops.appendG0 {i:Nat} {e:TypeId} {g0:Bool} {z:Value} {u:α} {g:Gr α} {ys zs:List α} (hT:slB P T=some e) (ht:tyB P e=some (1,g0)) (hz:qe P e=some z) (hZ:∀w F,All2 [f u] w F z.cells.toList) (h1:∀u,One (f u)) (hby:jQ P e 1024=true)
  (hx:Has E Γ M x (ze g ys.length)) (hM:M[i]?=some (grM f g ys)) (hy:Has E Γ M y (SlM f zs)) (hn':ys.length+zs.length≤4294967296) {d':Nat} (hd:Nat.blt d' E.n=true)
  (k:∀g':Gr α,Ops E P ops Q rest ((d',ze g' (ys++zs).length)::Γ) (M.set i (grM f g' (ys++zs)))):
  Ops E P ops Q (⟨some d',.call ⟨.builtin .append,#[x,y],#[T,T]⟩,ty,pos,after,none⟩::rest) Γ M:=by
 have e1:∀(g:Gr α) (l:List α),zj (fun a=>[f a]) g l=grM f g l:=fun g l=>by unfold zj grM;rw[rx]
 have e2:(SlK 1 (fun a=>[f a]) zs:VP)=SlM f zs:=by unfold SlK SlM;rw[rx]
 refine .appendGK0 (k:=1) (fk:=fun a=>[f a]) (u:=u) (g:=g) (ys:=ys) (zs:=zs) (i:=i) (fun _=>rfl) (by decide) (fun u=>by have:=h1 u;exact inferInstance) hT ht hz hZ hby hx (by rw[hM,e1]) (e2▸hy) hn' hd fun g'=>?_
 rw[e1,←List.length_append];exact k g'
end
end Go.En
namespace Go.En
open Go.RowKit Go.Nt Go.Pz
section
variable {E : Env} {P : Program} {Γ : Ctx} {M : Mem} {ops : Array Oper} {Q : Exit → Act → World → Prop} {rest : List Oper}
theorem Has.wk {x:Operand} {S S':VP} (h:Has E Γ M x S) (k:∀w F v,S.h w F v→S'.h w F v):Has E Γ M x S':=fun a w F s=>k _ _ _ (h a w F s)
theorem OK1.wk {o:Oper} {S S':VP} (h:OK1 E P Γ M o S) (k:∀w F v,S.h w F v→S'.h w F v):OK1 E P Γ M o S':=fun a w F s K Q hK=>h a w F s K Q fun v w' F' ad hv=>hK v w' F' ad (k _ _ _ hv)
theorem OKY.wk {o:Oper} {S S':VP} (h:OKY E P Γ M o S) (k:∀w F v,S.h w F v→S'.h w F v):OKY E P Γ M o S':=fun a w F s=>by
 obtain⟨v,h1,h2⟩:=h a w F s
 exact⟨v,h1,k _ _ _ h2⟩
theorem Cv.memEq {M':Mem} (h:M=M'):Cv E Γ M Γ M':=h▸Cv.refl
theorem Cv.winRow {t b n i:Nat} {xs ys:List (Bool×List Nat)} (ht:zR Γ t=some (qW b 0 n n)) (hM:M[i]?=some (some b,zC (xs.flatMap zc))) (hy:xs=ys) (hl:ys.length=n):
  Cv E Γ M ((t,ze (⟨some b,n,[]⟩:Gr (Bool×List Nat)) ys.length)::Γ) (M.set i (zj zc ⟨some b,n,[]⟩ ys)):=by
 subst hy
 have h:=Cv.winGrK (E:=E) (fk:=zc) (ys:=xs) ht hM (by omega) hl (by rw[List.take_of_length_le (by omega)])
 rwa [List.drop_eq_nil_of_le (by omega)] at h
end
end Go.En
namespace Go.En
open Go.Nt Go.Pz Go.Mz
abbrev lw0 (bw N:Nat) (gd:Gr (Bool×List Nat)) (gl gu:Gr Row) (c1 c2 c3:Nat) (m n:Bool) (ps qs:List Nat) (z:Int):Option Nat×MP:=(some bw,zC [isI (N:Int),ze gd c1,ze gl c2,ze gu c3,isB m,zD ps,isB n,zD qs,isI z])
abbrev lwM (bw N:Nat) (gd:Gr (Bool×List Nat)) (gl gu:Gr Row) (ds:List Int) (ls us:List Row) (m n:Bool) (ps qs:List Nat) (z:Int):Mem:=lw0 bw N gd gl gu (ds.map nz).length ls.length us.length m n ps qs z::zj zc gd (ds.map nz)::grM qQ gl ls::grM qQ gu us::(ls++us).map qo
theorem lwL {ls us:List Row} {i:Nat} {r:Row} (h:ls[i]?=some r):(ls++us)[i]?=some r:=by
 have hi:i<ls.length:=by
  rcases Nat.lt_or_ge i ls.length with g|g
  ·exact g
  ·rw[List.getElem?_eq_none g] at h;cases h
 rw[List.getElem?_append_left hi];exact h
theorem lwU {ls us:List Row} {i:Nat} {r:Row} (h:us[i]?=some r):(ls++us)[ls.length+i]?=some r:=by
 rw[List.getElem?_append_right (by omega),Nat.add_sub_cancel_left];exact h
def smZ (x d:Int):Bool:=decide (ql (((x+x).natAbs:Nat):Int) d≤0)
def stL (N:Nat) (f g:Nat→Int) (j:Nat):List Int:=(List.range N).map fun k=>if k<j then g k else f k
theorem xD (N:Nat) (f g:Nat→Int) (j:Nat):(stL N f g j).length=N:=by unfold stL;rw[List.length_map,List.length_range]
theorem bR {N:Nat} {f g:Nat→Int} {j k:Nat} (h:k<N):(stL N f g j)[k]?=some (if k<j then g k else f k):=by unfold stL;rw[List.getElem?_map,List.getElem?_range h];rfl
theorem jq {N:Nat} {f g:Nat→Int} {j k:Nat} (h:k<N):cf (stL N f g j) k=if k<j then g k else f k:=by
 have:=bR (f:=f) (g:=g) (j:=j) h
 rw[vE (by rw[xD];exact h)] at this
 exact Option.some.inj this
theorem fb {N:Nat} {f g:Nat→Int} {j:Nat} (h:j<N):((stL N f g j).map nz)[j]?=some (nz (f j)):=by rw[List.getElem?_map,bR h,if_neg (Nat.lt_irrefl j)];rfl
theorem cl {N:Nat} {f g:Nat→Int} {j:Nat} (h:j<N):(stL N f g j).set j (g j)=stL N f g (j+1):=by
 refine List.ext_getElem? fun k=>?_
 rcases Nat.lt_or_ge k N with hk|hk
 ·rw[bR hk]
  by_cases e:j=k
  ·subst e
   rw[List.getElem?_set_self (by rw[xD];exact h),if_pos (Nat.lt_succ_self j)]
  ·rw[List.getElem?_set_ne e,bR hk]
   by_cases g1:k<j
   ·rw[if_pos g1,if_pos (by omega)]
   ·rw[if_neg g1,if_neg (by omega)]
 ·rw[List.getElem?_eq_none (by rw[List.length_set,xD];exact hk),List.getElem?_eq_none (by rw[xD];exact hk)]
theorem ck {N:Nat} {q:List Int} (g:Nat→Int) (h:q.length=N):stL N (cf q) g 0=q:=by
 refine List.ext_getElem? fun k=>?_
 rcases Nat.lt_or_ge k N with hk|hk
 ·rw[bR hk,if_neg (Nat.not_lt_zero _),vE (by omega)]
 ·rw[List.getElem?_eq_none (by rw[xD];exact hk),List.getElem?_eq_none (by omega)]
theorem oN {β:Type} {l:List β} {i:Nat} {a b:β} (h:l[i]?=some a) (e:a=b):l=l.set i b:=by
 subst e
 refine List.ext_getElem? fun k=>?_
 by_cases g:i=k
 ·subst g
  rw[h,List.getElem?_set_self]
  rcases Nat.lt_or_ge i l.length with c|c
  ·exact c
  ·rw[List.getElem?_eq_none c] at h;cases h
 ·rw[List.getElem?_set_ne g]
theorem lwS {ls us:List Row} {i:Nat} (X Y:Row) (hi:i<ls.length):((ls++us).set (ls.length+i) X).set i Y=ls.set i Y++us.set i X:=by
 rw[List.set_append_right _ _ (by omega),Nat.add_sub_cancel_left,List.set_append_left _ _ hi]
theorem xq {l:List Int} {k j:Nat} {x:Int} (h:k≠j):cf (l.set k x) j=cf l j:=by
 unfold cf
 rw[List.getD_eq_getElem?_getD,List.getD_eq_getElem?_getD,List.getElem?_set_ne h]
theorem zGA {a b c d e:Option Nat×MP} {rs rs':List Row} (h:rs=rs'):(a::b::c::d::e::rs.map qo:Mem)=a::b::c::d::e::rs'.map qo:=h▸rfl
def vR (x d:Int):Int:=(x+x+d)/(d+d)
def iQ (N:Nat) (q qk:List Int) (c:Int):List Int:=stL N (cf q) (fun j=>cf q j-c*cf qk j) N
def eU (N k:Nat) (r rk:List Int) (c x:Int):List Int:=stL N (cf (r.set k x)) (fun j=>cf (r.set k x) j-c*cf rk j) k
def zGP (N i k:Nat) (ds:List Int) (ls us:List Row) (r rk q qk:Row) (ls' us':List Row):Prop:=
 (smZ (cf r.2 k) (cf ds (k+1))=true∧ls'=ls∧us'=us)∨(smZ (cf r.2 k) (cf ds (k+1))=false∧ls'=ls.set i (r.1,eU N k r.2 rk.2 (vR (cf r.2 k) (cf ds (k+1))) (cf r.2 k-vR (cf r.2 k) (cf ds (k+1))*cf ds (k+1)))∧us'=us.set i (q.1,iQ N q.2 qk.2 (vR (cf r.2 k) (cf ds (k+1)))))
theorem lw_fin {bw N:Nat} {gd:Gr (Bool×List Nat)} {gl gu:Gr Row} {ds:List Int} {ls us:List Row} {m n:Bool} {ps qs:List Nat} {z:Int} {i:Nat} {r q:Row} {L U:List Int} (hi:ls[i]?=some r) (ui:us[i]?=some q) (hL:L.length=r.2.length) (hU:U.length=q.2.length):
  (lw0 bw N gd gl gu (ds.map nz).length ls.length us.length m n ps qs z::zj zc gd (ds.map nz)::grM qQ gl ls::grM qQ gu us::(((ls++us).set (ls.length+i) (q.1,U)).set i (r.1,L)).map qo:Mem)=lwM bw N gd gl gu ds (ls.set i (r.1,L)) (us.set i (q.1,U)) m n ps qs z:=by
 have hil:i<ls.length:=by
  rcases Nat.lt_or_ge i ls.length with g|g
  ·exact g
  ·rw[List.getElem?_eq_none g] at hi;cases hi
 rw[lwS _ _ hil]
 unfold lwM
 rw[pp hi hL,pp ui hU,List.length_set,List.length_set]
theorem pb (z:Int) : -9223372036854775808≤IntKind.i64.wrap z∧IntKind.i64.wrap z<9223372036854775808:=by
 simp[IntKind.wrap,IntKind.signed,IntKind.bits]
 omega
section
variable {E : Env} {P : Program} {Γ : Ctx} {M : Mem} {x y : Operand} {d : Option Tmp} {T T' : TypeId} {ty : TypeId} {pos : String} {after : Array Edge} {gd : Option (Nat × Bool)}
theorem OK1.addW {i j:Int} (hx:Has E Γ M x (isI i)) (hy:Has E Γ M y (isI j)):OK1 E P Γ M ⟨d,.binOp .add T x y T',ty,pos,after,gd⟩ (isI (IntKind.i64.wrap (i+j))):=
 .bin (evI hx) (evI hy) (cq _ _ _) (fun w F=>wb (pb _).1 (pb _).2 w F)
end
end Go.En
namespace Go.En
open Go.RowKit Go.ChangeShapes Go.WideShapes Go.ChangeAt
section
variable {H : Type} {enc : TypeId × Value → H} {P : Program}
theorem cC (hl:laidOutB P=true) {W W':World} (hb:Below W.heap.size W W'):∀{ts:List TypeId} {vs:List Value} {ds:List (DataW H)} {ps:List MemPlace},
    (ts.all fun t=>P.readableRec t&&decide (t<P.types.size))=true→DataW.TrodAll enc P W 0 (fun _=>true) true ts vs ds ps→(∀x∈ps,x.block<W.heap.size)→
    DataW.TrodAll enc P W' 0 (fun b=>decide (b<W.heap.size)) true ts vs ds ps
  | [],vs,ds,ps,_,h,_=>by
    obtain⟨rfl,rfl,rfl⟩:=trodAll_nil h;exact trodAll_mk0
  | t::ts,vs,ds,ps,hr,h,hp=>by
    obtain⟨v,vs',d,ds',p,q,rfl,rfl,rfl,h1,h2⟩:=trodAll_cons h
    simp only[List.all_cons,Bool.and_eq_true] at hr
    exact trodAll_cons_mk (Below.trod hl hr.1.1 (of_decide_eq_true hr.1.2) h1 hb (fun x hx=>hp x (by simp[hx]))) (cC hl hb hr.2 h2 (fun x hx=>hp x (by simp[hx])))
theorem eH : ∀{ts:List TypeId} {vs:List Value} {ds:List (DataW H)} {ps:List MemPlace} {W:World} {base:Nat} {sp:Nat→Bool} {hd:Bool},DataW.TrodAll enc P W base sp hd ts vs ds ps→vs.length=ts.length∧ds.length=ts.length
  | [],vs,ds,ps,_,_,_,_,h=>by obtain⟨rfl,rfl,rfl⟩:=trodAll_nil h;exact⟨rfl,rfl⟩
  | t::ts,vs,ds,ps,_,_,_,_,h=>by
    obtain⟨v,vs',d,ds',p,q,rfl,rfl,rfl,h1,h2⟩:=trodAll_cons h
    have:=eH h2
    exact⟨by simp[this.1],by simp[this.2]⟩
def zGO (P:Program) (fn:Func) (f:FuncId):Prop:=∀(H:Type) (enc:TypeId×Value→H) (W:World) (base:Nat) (args:Array Value) (ds:List (DataW H)) (ps:List MemPlace),
 (∀(j:Nat) t v,fn.params[j]?=some t→args[j]?=some v→Value.okWide P W .any base t v)→DataW.TrodAll enc P W 0 (fun _=>true) true fn.params.toList args.toList ds ps→
 (∀x∈ps,x.block<W.heap.size)→∃Ss,All2 Ss W (fun b=>b<W.heap.size) args.toList∧Ctr P f Ss (isB true)
theorem yo {C:Checked} {os:Os} {f:FuncId} {fn:Func} {s:ChangeSpec} {conds:List PathCond} {tb:TypeId}
  (own:ownKnob C.prog.godebug=none) (started:os.Started) (noInit:C.prog.inits.idxOf? f=none) (hfn:C.prog.funcs[f]?=some fn)
  (witness:∃(w:World) (tape:Tape) (i:Input),w.os=os∧(w.forCall tape i).Shaped C.prog∧i.vars=[]∧Input.okWide C.prog (w.forCall tape i) .any w.heap.size f i∧
   s.pre6 enc C.prog fn conds false (w.forCall tape i).memory i.args∧({}:Assume).holds C.prog (lone (Frame.enter C.prog f i.args .normal) [] (w.forCall tape i)))
  (hl:laidOutB C.prog=true) (hpar:(fn.params.toList.all fun t=>C.prog.readableRec t&&decide (t<C.prog.types.size))=true) (hvars:s.vars=[])
  (hres:fn.resultTypes=#[tb]) (htb:C.prog.underlying tb=some .bool)
  (hs:∀ds:List (DataW H),ds.length=fn.params.toList.length→s.fn H ds={ results:=[.lit (.bool true)],args:=ds }) (hopen:zGO C.prog fn f):
  ReturnsInHanded {} C os f .any (s.pre6 enc C.prog fn conds false) (s.post enc C.prog fn false true false false):=by
 refine returnsInHanded_of_change (C:=C) own started noInit hfn witness ?_
 intro W base args ds gs before hval hW hcnd _
 have hW':=hW
 obtain⟨p,q,hA0,hV,rfl,hfz,hnd⟩:=hW
 have hA:DataW.TrodAll enc C.prog W 0 (fun _=>true) true fn.params.toList args.toList ds p:=hA0
 rw[hvars] at hV
 obtain⟨rfl,rfl⟩:=trodVars_none hV
 have hlt:∀x∈p,x.block<W.heap.size:=fun x hx=>hW'.lt x (by simp[hx])
 obtain⟨Ss,h1,h2⟩:=hopen H enc W base args ds p hval hA hlt
 have hlen:=eH hA
 refine (h2.2 W _ args.toList (fun _ h=>h) h1).mono fun e W'=>?_
 rintro⟨v,rfl,hk,hv⟩
 obtain rfl:v=.bool true:=hv
 have bel:=hk.below
 refine⟨_,rfl,_,_,_,[],p,[],hW',?_,?_,?_,?_,fun h=>by cases h⟩
 ·rw[List.append_nil,hs ds hlen.2,hres]
  exact trodAll_mk1 (shut_bool htb _)
 ·rw[List.append_nil,hs ds hlen.2]
  exact cC hl bel hpar hA hlt
 ·rw[List.append_nil,hs ds hlen.2,hvars];exact hV
 ·exact bel.frame _
theorem rd_K {w:World} {sp:Nat→Bool} {fuel:Nat} {T:TypeId} {k:IntKind} {cs:List Value} {x:DataW H×List MemPlace} (hu:P.underlying T=some (.int k)) (h:DataW.trod enc P w 0 sp true fuel T cs=some x):
  ∃z,cs=[.int k z]∧rng k z:=by
 obtain⟨n,hc,_,hw⟩:=DataW.trod_int hu h
 exact⟨n,hc,by simpa [Lit.wf,rng] using hw⟩
theorem rd_I {w:World} {sp:Nat→Bool} {fuel:Nat} {T:TypeId} {cs:List Value} {x:DataW H×List MemPlace} (hu:P.underlying T=some (.int .i64)) (h:DataW.trod enc P w 0 sp true fuel T cs=some x):
  ∃z:Int,cs=[.int .i64 z] ∧ -9223372036854775808≤z∧z<9223372036854775808:=by
 obtain⟨z,rfl,h1,h2⟩:=rd_K hu h
 simp[IntKind.min,IntKind.max,IntKind.signed,IntKind.bits] at h1 h2
 exact⟨z,rfl,by omega,by omega⟩
theorem bC {α:Type} {p:Nat→α→Prop}:∀(n:Nat),(∀i,i<n→∃a,p i a)→∃l:List α,l.length=n∧∀i (h:i<l.length),p i l[i]
  | 0,_=>⟨[],rfl,fun i h=>absurd h (by simp)⟩
  | n+1,h=>by
    obtain⟨l,h1,h2⟩:=bC n (fun i hi=>h i (by omega))
    obtain⟨a,ha⟩:=h n (by omega)
    refine⟨l++[a],by simp[h1],fun i hi=>?_⟩
    rcases Nat.lt_or_ge i l.length with h3|h3
    · rw[List.getElem_append_left h3];exact h2 i h3
    · have:i=n:=by simp at hi;omega
      subst this
      rw[List.getElem_append_right h3];simpa [h1] using ha
theorem bI : ∀{Ss:List VP} {w:World} {F:Blk} {vs:List Value},Ss.length=vs.length→(∀(i:Nat) (S:VP) (v:Value),Ss[i]?=some S→vs[i]?=some v→S.h w F v)→All2 Ss w F vs
 | [],_,_,[],_,_=>trivial
 | S::Ss,_,_,v::vs,hl,h=>⟨h 0 S v rfl rfl,bI (by simpa using hl) (fun i S' v' h1 h2=>h (i+1) S' v' (by simpa using h1) (by simpa using h2))⟩
 | [],_,_,_::_,hl,_=>by simp at hl
 | _::_,_,_,[],hl,_=>by simp at hl
end
end Go.En
namespace Go.En
open Go.RowKit Go.ChangeShapes Go.WideShapes Go.ChangeAt
section
variable {H : Type} {enc : TypeId × Value → H} {P : Program}
theorem yE {α:Type} {f:α→VP} {W:World} {T T':TypeId} {k:IntKind} {fuel:Nat} {cs:List Value} {x:DataW H×List MemPlace} (hu:P.underlying T=some (.slice T')) (hu':P.underlying T'=some (.int k)) (hc:P.cellsOf T'=1)
    (hf:∀z,rng k z→∃a,∀w F,(f a).h w F (.int k z)) (h:DataW.trod enc P W 0 (fun _=>true) true fuel T cs=some x) (hps:∀y∈x.2,y.block<W.heap.size):∃(v:Value) (xs:List α),cs=[v]∧(SlM f xs).h W (fun b=>b<W.heap.size) v:=by
  rcases open_ints hu hu' hc h with ⟨h1,_⟩|⟨a,len,cap,zs,h1,h2,h3,h4,h5,h6,h7,h8⟩
  · exact⟨_,[],h1,nilM _ _⟩
  · simp only[if_true] at h5
    obtain⟨l,hl,hget⟩:=bC (p:=fun i (x:α)=>∀w F,(f x).h w F (.int k (zs.getD i 0))) len (fun i hi=>by
      have hz:zs.getD i 0∈zs:=by
        have:i<zs.length:=by omega
        simp[List.getD,this]
      exact hf _ (by simpa [Lit.wf,rng] using h8 _ hz))
    refine⟨_,l,h1,some a,cap,by rw[hl],by rw[hl];exact h3,h4,by simp,?_⟩
    rcases Nat.eq_zero_or_pos len with h0|h0
    · exact .inl (by omega)
    · have hc0:=h7 0 (by omega)
      have hs:a.spot=none:=by
        cases hsp:a.spot with
        | none=>rfl
        | some s=>
          simp only[Addr.add,if_true] at hc0
          unfold World.cell? at hc0
          rw[hsp] at hc0
          split at hc0 <;> simp at hc0
      obtain⟨b,off,sp⟩:=a
      simp only at hs
      subst hs
      right
      refine⟨b,off,rfl,?_,(List.range len).map (fun i=>.int k (zs.getD i 0)),?_,fun j u hj=>?_⟩
      · have:MemPlace.cell b (off+0)∈x.2:=by
          rw[h6]
          exact List.mem_map.2 ⟨0,by simp;omega,rfl⟩
        exact hps _ this
      · refine bI (by simp[hl]) (fun i S v hS hv=>?_)
        have hi:i<l.length:=by
          rcases Nat.lt_or_ge i l.length with h|h
          · exact h
          · rw[List.getElem?_eq_none (by simpa using h)] at hS;cases hS
        rw[List.getElem?_map,List.getElem?_eq_getElem hi] at hS
        rw[List.getElem?_map,List.getElem?_range (by omega)] at hv
        simp at hS hv
        subst hS;subst hv
        simpa [List.getD] using hget i hi W (fun b=>b<W.heap.size)
      · have hjl:j<len:=by
          rcases Nat.lt_or_ge j len with h|h
          · exact h
          · rw[List.getElem?_eq_none (by simpa using h)] at hj;cases hj
        rw[List.getElem?_map,List.getElem?_range hjl] at hj
        simp at hj
        subst hj
        have:=h7 j (by omega)
        rw[xN] at this
        simpa [List.getD] using this
theorem pf (z:Int) (h:rng .u64 z):∃n:Nat,∀w F,(isU n).h w F (.int .u64 z):=by
 obtain⟨h1,h2⟩:=h
 simp[IntKind.min,IntKind.max,IntKind.signed,IntKind.bits] at h1 h2
 refine⟨z.toNat,fun w F=>⟨?_,by omega⟩⟩
 rw[Int.toNat_of_nonneg h1]
def fsB (P:Program) (T:TypeId):Option (List (TypeId×Nat)):=match P.underlying T with
 | some (.struct fs)=>some (fs.toList.map fun f=>(f.type,f.offset))
 | _=>none
theorem gc {T:TypeId} {l:List (TypeId×Nat)} (h:fsB P T=some l):∃fs,P.underlying T=some (.struct fs)∧fs.size=l.length∧∀(i t o:Nat),l[i]?=some (t,o)→∃f,fs[i]?=some f∧f.type=t∧f.offset=o:=by
  unfold fsB at h
  split at h
  · rename_i fs hu
    obtain rfl:=Option.some.inj h
    refine⟨fs,hu,by simp,fun i t o hi=>?_⟩
    rw[List.getElem?_map] at hi
    cases hf:fs.toList[i]? with
    | none=>rw[hf] at hi;cases hi
    | some f=>
      rw[hf] at hi
      simp at hi
      exact⟨f,by simpa using hf,hi.1,hi.2⟩
  · cases h
theorem yT {W:World} {base:Nat} {T tb ts T':TypeId} {v:Value} {d:DataW H} {ps:List MemPlace} (hfs:fsB P T=some [(tb,0),(ts,1)]) (hub:P.underlying tb=some .bool) (hu:P.underlying ts=some (.slice T')) (hu':P.underlying T'=some (.int .u64)) (hc:P.cellsOf T'=1) (hcb:P.cellsOf tb=1) (hcs:P.cellsOf ts=1) (hcT:P.cellsOf T=2)
    (hv:Value.okWide P W .any base T v) (h:DataW.Trod enc P W 0 (fun _=>true) true T v d ps) (hps:∀x∈ps,x.block<W.heap.size):∃x:Bool×List Nat,(zk [isB x.1,zD x.2]).h W (fun b=>b<W.heap.size) v:=by
  obtain⟨fs,huT,hsz,hget⟩:=gc hfs
  have hv':=hv
  simp only[Value.okWide,huT] at hv'
  obtain⟨cs,rfl,_,_⟩:=hv'
  obtain⟨fuel,hf⟩:=h
  obtain⟨xs,m,_,hx,hl,hxl,hfe⟩:=DataW.trod_struct huT hf
  simp[Value.cells] at hl hx
  obtain⟨f0,g0,rfl,e0⟩:=hget 0 tb 0 rfl
  obtain⟨f1,g1,rfl,e1⟩:=hget 1 ts 1 rfl
  have h0:=hfe 0 f0 g0
  have h1:=hfe 1 f1 g1
  rw[List.getElem?_eq_getElem (by rw[hxl,hsz];simp)] at h0 h1
  rw[e0,hcb] at h0
  rw[e1,hcs] at h1
  obtain⟨b,hb,_⟩:=DataW.trod_bool hub h0
  obtain⟨v,ws,hv1,hw⟩:=yE hu hu' hc pf h1 (fun y hy=>hps y (by
    rw[hx.2]
    exact List.mem_flatMap.2 ⟨_,List.getElem_mem _,hy⟩))
  refine⟨(b,ws),cs.toList,by simp,?_⟩
  have hcs2:cs.toList=[.bool b,v]:=by
    have hlen:cs.toList.length=2:=by rw[←hcT];simpa using hl
    match hq:cs.toList,hlen with
    | [p,q],_=>
      have a1:[p]=[Value.bool b]:=by have:=hb;simpa [Value.cells,hq] using this
      have a2:[q]=[v]:=by have:=hv1;simpa [Value.cells,hq] using this
      rw[List.cons.inj a1 |>.1,List.cons.inj a2 |>.1]
  rw[hcs2]
  exact⟨rfl,hw,trivial⟩
end
end Go.En
namespace Go.Proofs.YtchbfpcaibfkdaaGreat
open Go.En
theorem zBU : jQ Tryz.prog 22 1024=true:=by kernel_rfl
theorem cT : jQ Tryz.prog 28 1024=true:=by kernel_rfl
theorem by3 : jQ Tryz.prog 3 1024=true:=by kernel_rfl
theorem by50 : jQ Tryz.prog 50 1024=true:=by kernel_rfl
theorem hH : jQ Tryz.prog 60 1024=true:=by kernel_rfl
theorem by65 : jQ Tryz.prog 65 1024=true:=by kernel_rfl
theorem by70 : jQ Tryz.prog 70 1024=true:=by kernel_rfl
theorem vz : IsExt Tryz.prog 102 add64Entry:=⟨⟨Tryz.f102,Tryz.func102,by kernel_rfl,by kernel_rfl,by kernel_rfl,by kernel_rfl⟩⟩
theorem eC : IsExt Tryz.prog 104 zHD:=⟨⟨Tryz.f104,Tryz.func104,by kernel_rfl,by kernel_rfl,by kernel_rfl,by kernel_rfl⟩⟩
theorem zY : jb Tryz.prog 24 0=some (0,3):=by kernel_rfl
theorem zo : jb Tryz.prog 24 1=some (1,3):=by kernel_rfl
theorem qU : jb Tryz.prog 24 2=some (2,22):=by kernel_rfl
theorem xL : jb Tryz.prog 28 0=some (0,4):=by kernel_rfl
theorem qM : jb Tryz.prog 28 1=some (1,26):=by kernel_rfl
theorem bn : jb Tryz.prog 67 0=some (0,64):=by kernel_rfl
theorem aV : jb Tryz.prog 67 1=some (1,65):=by kernel_rfl
theorem jc : jb Tryz.prog 70 0=some (0,28):=by kernel_rfl
theorem vo : jb Tryz.prog 70 1=some (2,28):=by kernel_rfl
theorem xS : jb Tryz.prog 88 0=some (0,86):=by kernel_rfl
theorem vZ : jb Tryz.prog 88 2=some (2,3):=by kernel_rfl
theorem wO : jb Tryz.prog 96 0=some (0,3):=by kernel_rfl
theorem xG : jb Tryz.prog 96 1=some (1,22):=by kernel_rfl
theorem qa : jb Tryz.prog 96 2=some (2,86):=by kernel_rfl
theorem xk : jb Tryz.prog 96 3=some (3,86):=by kernel_rfl
theorem lV : jb Tryz.prog 96 4=some (4,28):=by kernel_rfl
theorem lU : jb Tryz.prog 96 5=some (6,28):=by kernel_rfl
theorem fL : jb Tryz.prog 96 6=some (8,3):=by kernel_rfl
theorem fs24 : fsB Tryz.prog 24=some [(3,0),(3,1),(22,2)]:=by kernel_rfl
theorem fs28 : fsB Tryz.prog 28=some [(4,0),(26,1)]:=by kernel_rfl
theorem zW : Tryz.prog.follows .mixedOrders=true:=by kernel_rfl
theorem bx : plB Tryz.prog 24=some [(0,1),(1,1),(2,1)]:=by kernel_rfl
theorem yN : plB Tryz.prog 28=some [(0,1),(1,1)]:=by kernel_rfl
theorem tA : plB Tryz.prog 70=some [(0,2),(2,2)]:=by kernel_rfl
theorem pl88 : plB Tryz.prog 88=some [(0,1),(1,1),(2,1)]:=by kernel_rfl
theorem pl96 : plB Tryz.prog 96=some [(0,1),(1,1),(2,1),(3,1),(4,2),(6,2),(8,1)]:=by kernel_rfl
theorem fh : slB Tryz.prog 119=some 50:=by kernel_rfl
theorem zz : slB Tryz.prog 22=some 28:=by kernel_rfl
theorem zh : slB Tryz.prog 26=some 60:=by kernel_rfl
theorem wr : slB Tryz.prog 50=some 3:=by kernel_rfl
theorem sj : slB Tryz.prog 64=some 65:=by kernel_rfl
theorem bv : slB Tryz.prog 65=some 70:=by kernel_rfl
theorem zHL : slB Tryz.prog 77=some 2:=by kernel_rfl
theorem qn : slB Tryz.prog 86=some 22:=by kernel_rfl
theorem ty2 : tyB Tryz.prog 2=some (1,false):=by kernel_rfl
theorem zP : tyB Tryz.prog 22=some (1,false):=by kernel_rfl
theorem zL : tyB Tryz.prog 24=some (3,true):=by kernel_rfl
theorem qc : tyB Tryz.prog 26=some (1,false):=by kernel_rfl
theorem zE : tyB Tryz.prog 28=some (2,true):=by kernel_rfl
theorem ty3 : tyB Tryz.prog 3=some (1,false):=by kernel_rfl
theorem ty4 : tyB Tryz.prog 4=some (1,false):=by kernel_rfl
theorem oH : tyB Tryz.prog 50=some (1,false):=by kernel_rfl
theorem zp : tyB Tryz.prog 60=some (1,false):=by kernel_rfl
theorem eR : tyB Tryz.prog 64=some (1,false):=by kernel_rfl
theorem jV : tyB Tryz.prog 65=some (1,false):=by kernel_rfl
theorem zCQ : tyB Tryz.prog 67=some (2,true):=by kernel_rfl
theorem qI : tyB Tryz.prog 70=some (4,true):=by kernel_rfl
theorem ty77 : tyB Tryz.prog 77=some (1,false):=by kernel_rfl
theorem zu : tyB Tryz.prog 86=some (1,false):=by kernel_rfl
theorem uQ : Tryz.prog.underlying 124=some (.int .u64):=by kernel_rfl
theorem un2 : Tryz.prog.underlying 2=some (.int .i64):=by kernel_rfl
theorem un22 : Tryz.prog.underlying 22=some (.slice 28):=by kernel_rfl
theorem zGZ : Tryz.prog.underlying 26=some (.slice 60):=by kernel_rfl
theorem un3 : Tryz.prog.underlying 3=some (.int .i64):=by kernel_rfl
theorem un4 : Tryz.prog.underlying 4=some .bool:=by kernel_rfl
theorem un5 : Tryz.prog.underlying 5=some (.int .u8):=by kernel_rfl
theorem sa : Tryz.prog.underlying 60=some (.int .u64):=by kernel_rfl
theorem un9 : Tryz.prog.underlying 9=some .string:=by kernel_rfl
theorem zero2 : qe Tryz.prog 2=some (.int .i64 0):=by kernel_rfl
theorem wU : qe Tryz.prog 22=some (.slice none 0 0):=by kernel_rfl
theorem zX : qe Tryz.prog 24=some (.agg #[.int .i64 0,.int .i64 0,.slice none 0 0]):=by kernel_rfl
theorem zK : qe Tryz.prog 28=some (.agg #[.bool false,.slice none 0 0]):=by kernel_rfl
theorem bz : qe Tryz.prog 3=some (.int .i64 0):=by kernel_rfl
theorem oC : qe Tryz.prog 50=some (.slice none 0 0):=by kernel_rfl
theorem jL : qe Tryz.prog 60=some (.int .u64 0):=by kernel_rfl
theorem tx : qe Tryz.prog 65=some (.slice none 0 0):=by kernel_rfl
theorem oB : qe Tryz.prog 67=some (.agg #[.slice none 0 0,.slice none 0 0]):=by kernel_rfl
theorem qu : qe Tryz.prog 70=some (.agg #[.bool false,.slice none 0 0,.bool false,.slice none 0 0]):=by kernel_rfl
theorem zGU : qe Tryz.prog 88=some (.agg #[.slice none 0 0,.int .i64 0,.int .i64 0]):=by kernel_rfl
theorem tw : qe Tryz.prog 96=some (.agg #[.int .i64 0,.slice none 0 0,.slice none 0 0,.slice none 0 0,.bool false,.slice none 0 0,.bool false,.slice none 0 0,.int .i64 0]):=by kernel_rfl
end Go.Proofs.YtchbfpcaibfkdaaGreat
namespace Go.Proofs.YtchbfpcaibfkdaaGreat
open Go.En Go.RowKit
set_option maxRecDepth 10000
set_option maxHeartbeats 4000000
open Go.Nt
theorem cV {x y:Nat}:Ctr Tryz.prog 126 [isU x,isU y] (zZ [isU (x*y/18446744073709551616),isU (x*y%18446744073709551616)]):=by
 refine Ctr.i Tryz.func126 rfl Tryz.ntmps126 fun w0 F0=>.w [0,1] rfl (.fact (Has.ltU (Has.t (t:=0) rfl)) fun lt0=>.fact (Has.ltU (Has.t (t:=1) rfl)) fun lt1=>?_)
 have hf:=mZ lt0 lt1
 have hx1:x/2^32<4294967296:=by omega
 have hy1:y/2^32<4294967296:=by omega
 refine .sr fun k1=>st (.as (.cU 0 rfl)) rfl (st (.as (.cU 0 rfl)) rfl (nkQ k1 (.sr fun k2=>stM rfl (st (.eq (.andU (.t rfl) (.cU 4294967295 rfl)) (zV (Nat.and_two_pow_sub_one_eq_mod _ 32))) rfl (stM rfl (nkQ k2 (.sr fun k3=>stM rfl (st (.shrUU (.t rfl) (.cU 32 rfl) (by omega)) rfl (stM rfl (nkQ k3 (.sr fun k4=>stM rfl (st (.eq (.andU (.t rfl) (.cU 4294967295 rfl)) (zV (Nat.and_two_pow_sub_one_eq_mod _ 32))) rfl (stM rfl (nkQ k4 (.w [0,1,4,5,6,7,8] rfl (.sr fun k5=>stM rfl (st (.shrUU (.t rfl) (.cU 32 rfl) (by omega)) rfl (stM rfl (nkQ k5 (.sr fun k6=>stM rfl (stM rfl (st (.mulU' (.t rfl) (.t rfl) (by omega)) rfl (stM rfl (nkQ k6 (.w [0,1,4,5,6,7,8,9,10] rfl ?_)))))))))))))))))))))))))
 refine .sr fun k7=>stM rfl (stM rfl (st (.mulU' (.t rfl) (.t rfl) (by omega)) rfl (stM rfl (st (.shrUU (.t rfl) (.cU 32 rfl) (by omega)) rfl (st (.addU' (.t rfl) (.t rfl) (by omega)) rfl (stM rfl (nkQ k7 (.w [0,1,4,5,6,7,9,11] rfl (.sr fun k8=>stM rfl (st (.eq (.andU (.t rfl) (.cU 4294967295 rfl)) (zV (Nat.and_two_pow_sub_one_eq_mod _ 32))) rfl (stM rfl (nkQ k8 (.sr fun k9=>stM rfl (st (.shrUU (.t rfl) (.cU 32 rfl) (by omega)) rfl (stM rfl (nkQ k9 (.w [0,1,4,5,6,7,9,12,13] rfl (.sr fun k10=>stM rfl (stM rfl (stM rfl (st (.mulU' (.t rfl) (.t rfl) (by omega)) rfl (st (.addU' (.t rfl) (.t rfl) (by omega)) rfl (stM rfl (nkQ k10 (.w [0,1,4,5,7,9,12,13] rfl (.sr fun k11=>stM rfl (stM rfl (st (.mulU' (.t rfl) (.t rfl) (by omega)) rfl ?_))))))))))))))))))))))))))))
 refine stM rfl (st (.addU' (.t rfl) (.t rfl) (by omega)) rfl (stM rfl (st (.shrUU (.t rfl) (.cU 32 rfl) (by omega)) rfl (st (.addU' (.t rfl) (.t rfl) (by omega)) rfl (stM rfl (nkQ k11 (.w [0,1,4,5] rfl (.sr fun k12=>stM rfl (stM rfl (st (.mulU (.t rfl) (.t rfl)) rfl (stM rfl (nkQ k12 (.w [4,5] rfl (.ret (rtN (.inl rfl) Tryz.results126 rfl rfl (.tmp (Has.t' rfl ?_) (.tmp (Has.t' rfl ?_) .nil)))))))))))))))))
 ·exact zV (yc x y)
 ·rfl
theorem th {xs:List Nat} (hx:xs.length≤4294967296):Ctr Tryz.prog 109 [zD xs] (zD xs):=by
 refine Ctr.i Tryz.func109 rfl Tryz.ntmps109 fun w0 F0=>.w [0] rfl (.fact (Has.lenLt (Has.t (t:=0) rfl)) fun lt0=>.fact (Has.okW (Has.t (t:=0) rfl)) fun ok0=>.sr fun k1=>st (.as (.cW (f:=isU))) rfl (nkQ k1 (.sq fun k2=>.sr fun k3=>stM rfl (.eqNil zh (.t rfl) rfl fun bn1 hn1=>nkQ k3 (.cd rfl (fun hc2=>?_) (fun hc2=>?_))))))
 ·refine .sr fun k4=>st (.as (.cW (f:=isU))) rfl (nkQ k4 (.ret (.thr (rt1 (.inl rfl) Tryz.results109 rfl (.tmp (Has.t' rfl ?_) .nil)))))
  all_goals (rw[hn1 hc2])
 ·refine .skip (.nk k2 (.sr fun k5=>.buildS0 zh zp rfl (stM rfl (st (.appendZM zh zp jL hH (.t rfl) (.t rfl) (by omega)) rfl (stM rfl (nkQ k5 (.w [2] rfl (.ret (rt1 (.inl rfl) Tryz.results109 rfl (.tmp (Has.t' rfl ?_) .nil))))))))))
  all_goals (rfl)
theorem xR {xs:List Nat}:Ctr Tryz.prog 84 [zD xs] (zD (zA (val xs))):=by
 refine Ctr.i Tryz.func84 rfl Tryz.ntmps84 fun w0 F0=>.w [0] rfl (.fact (Has.lenLt (Has.t (t:=0) rfl)) fun lt0=>.fact (Has.okW (Has.t (t:=0) rfl)) fun ok0=>.sr fun k1=>st (.as (.cW (f:=isU))) rfl (nkQ k1 (.sr fun k2=>stM rfl (st (.len zh (.t rfl)) rfl (stM rfl (nkQ k2 (.sq fun k3=>.block (.loopF [0,2] (fun (z:{ k:Nat//k≤xs.length∧∀i,k≤i→xs.getD i 0=0 })=>match z with|⟨k,hI⟩=>[(3,isI (k:Int))]) (fun M=>fun (z:{ k:Nat//k≤xs.length∧∀i,k≤i→xs.getD i 0=0 })=>match z with|⟨k,hI⟩=>M) (fun (z:{ k:Nat//k≤xs.length∧∀i,k≤i→xs.getD i 0=0 })=>match z with|⟨k,hI⟩=>k) (⟨xs.length,Nat.le_refl _,fun i hi=>by simp[List.getD,List.getElem?_eq_none hi]⟩) (Cv.mem (.c 3 rfl ?_ (.l [0,2] rfl)) ?_) ?_))))))))
 ·rfl
 ·rfl
 rintro⟨k,hk,hz⟩ K4 hK4
 refine .w [3,0,2] rfl ?_
 have ek:((k:Int)-1).toNat=k-1:=by omega
 refine .sq fun k5=>.sr fun k6=>stM rfl (st (.gtI (.t rfl) (.cI 0 rfl)) rfl (stM rfl (stT rfl rfl (fun hg=>.mv (.t rfl)) rfl (stT rfl rfl (fun hg=>.mv (.t rfl)) rfl ?_))))
 refine stT rfl rfl (fun hg=>have hg':=BP.t hg;OK1.subI (Has.g rfl hg) (.cI 1 rfl) (by omega) (by omega)) rfl ?_
 refine stT rfl rfl (fun hg=>have hg':=BP.t hg;OK1.ixP zh zp (Has.g rfl hg) (Has.g rfl hg) (by omega) (getD_some (d:=0) (by omega))) rfl ?_
 refine stT rfl rfl (fun hg=>.loadP1 (Has.g rfl hg) zp) rfl (stT rfl rfl (fun hg=>.eqU (Has.g rfl hg) (.cU 0 rfl)) rfl (st (.pickAnd (.t rfl) (fun h=>Has.g rfl h)) rfl (nkQ k6 (.cd rfl (fun hc1=>?_) (fun hc1=>?_)))))
 ·refine .skip (.nk k5 (.block (.region (stM rfl (st (.subI (.t rfl) (.cI 1 rfl) (by omega) (by omega)) rfl (stM rfl (nl (.bln (.thn ?_)))))))))
  refine hK4 (⟨k-1,by omega,fun i hi=>by rcases Nat.lt_or_ge i k with h|h;(have e:i=k-1:=by omega);(rw[e,←ek];exact hc1.2);exact hz i h⟩) _ _ ?_ (Cv.mem (.c 3 rfl ?_ (.l [0,2] rfl)) ?_)
  ·show k-1<k;omega
  ·exact zF (by omega)
  ·rfl
 ·refine .exit (.the (.the (.blh (.nk k3 (.w [0,2,3] rfl (.sr fun k7=>stM rfl (stM rfl (st (.slHM zh zp (.t rfl) (.t rfl) (by omega)) rfl (stM rfl (nkQ k7 (.w [2] rfl (.ret (rt1 (.inl rfl) Tryz.results84 rfl (.tmp (Has.t' rfl ?_) .nil))))))))))))))
  all_goals (exact qJ (iI ok0 hk hz (by rcases hc1 with h|h;left;omega;right;rwa [ek] at h)))
theorem vc {xs:List Nat}:Ctr Tryz.prog 103 [zD xs] (zD (zA (val xs))):=by
 refine Ctr.i Tryz.func103 rfl Tryz.ntmps103 fun w0 F0=>.w [0] rfl (.fact (Has.lenLt (Has.t (t:=0) rfl)) fun lt0=>.fact (Has.okW (Has.t (t:=0) rfl)) fun ok0=>.sr fun k1=>st (.as (.cW (f:=isU))) rfl (nkQ k1 (.sr fun k2=>stM rfl (st (.call (xR) (.cons (.t rfl) .nil)) rfl (stM rfl (nkQ k2 (.sq fun k3=>.sr fun k4=>stM rfl (st (.len zh (.t rfl)) rfl (st (.eqI (.t rfl) (.cI 0 rfl)) rfl (nkQ k4 (.cd rfl (fun hc1=>?_) (fun hc1=>?_))))))))))))
 ·refine .sr fun k5=>st (.as (.cW (f:=isU))) rfl (nkQ k5 (.w [0,2] rfl (.ret (.thr (rt1 (.inl rfl) Tryz.results103 rfl (.tmp (Has.t' rfl ?_) .nil))))))
  all_goals (exact qJ (List.eq_nil_of_length_eq_zero (by omega)).symm)
 ·refine .skip (.nk k3 (.w [0,2] rfl (.sr fun k6=>stM rfl (stM rfl (nkQ k6 (.ret (rt1 (.inl rfl) Tryz.results103 rfl (.tmp (Has.t' rfl ?_) .nil))))))))
  all_goals (rfl)
theorem oh {x:Nat}:Ctr Tryz.prog 54 [isU x] (zD (zA x)):=by
 refine Ctr.i Tryz.func54 rfl Tryz.ntmps54 fun w0 F0=>.w [0] rfl (.fact (Has.ltU (Has.t (t:=0) rfl)) fun lt0=>.sr fun k1=>st (.as (.cW (f:=isU))) rfl (nkQ k1 (.sq fun k2=>.sr fun k3=>stM rfl (st (.eqU (.t rfl) (.cU 0 rfl)) rfl (nkQ k3 (.cd rfl (fun hc1=>?_) (fun hc1=>?_)))))))
 ·refine .sr fun k4=>st (.as (.cW (f:=isU))) rfl (nkQ k4 (.ret (.thr (rt1 (.inl rfl) Tryz.results54 rfl (.tmp (Has.t' rfl ?_) .nil)))))
  all_goals (exact qJ (by rw[hc1,zJ]))
 ·refine .skip (.nk k2 (.sr fun k5=>stM rfl (st (.buildS [isU 0] zh zp jL (fun _ _=>⟨⟨rfl,by decide⟩,trivial⟩) rfl rfl (.cons (.t rfl) rfl rfl rfl .nil) rfl (S:=zD [_]) rfl) rfl (stM rfl (nkQ k5 (.w [2] rfl (.ret (rt1 (.inl rfl) Tryz.results54 rfl (.tmp (Has.t' rfl ?_) .nil)))))))))
  all_goals (exact qJ (by rw[eF lt0,if_neg (by omega)]))
theorem vT {xs:List Nat} (hx:(List.length (zA (val xs)))≤4294967296):Ctr Tryz.prog 83 [zD xs] (zD (zA (val xs))):=by
 refine Ctr.i Tryz.func83 rfl Tryz.ntmps83 fun w0 F0=>.w [0] rfl (.fact (Has.lenLt (Has.t (t:=0) rfl)) fun lt0=>.fact (Has.okW (Has.t (t:=0) rfl)) fun ok0=>.sr fun k1=>st (.as (.cW (f:=isU))) rfl (nkQ k1 (.sr fun k2=>stM rfl (st (.call (xR) (.cons (.t rfl) .nil)) rfl (st (.call (th (by omega)) (.cons (.t rfl) .nil)) rfl (st (.call (vc) (.cons (.t rfl) .nil)) rfl (stM rfl (nkQ k2 (.w [2] rfl (.ret (rt1 (.inl rfl) Tryz.results83 rfl (.tmp (Has.t' rfl ?_) .nil))))))))))))
 all_goals (rw[zB])
theorem et {xs ys:List Nat}:Ctr Tryz.prog 69 [zD xs,zD ys] (isI (aY (val xs) (val ys))):=by
 refine Ctr.i Tryz.func69 rfl Tryz.ntmps69 fun w0 F0=>.w [0,1] rfl (.fact (Has.lenLt (Has.t (t:=0) rfl)) fun lt0=>.fact (Has.okW (Has.t (t:=0) rfl)) fun ok0=>.fact (Has.lenLt (Has.t (t:=1) rfl)) fun lt1=>.fact (Has.okW (Has.t (t:=1) rfl)) fun ok1=>?_)
 have n0:(zA (val xs)).length≤xs.length:=wX ok0
 have n1:(zA (val ys)).length≤ys.length:=wX ok1
 refine .sr fun k1=>st (.as (.cI 0 rfl)) rfl (nkQ k1 (.sr fun k2=>stM rfl (st (.call (xR) (.cons (.t rfl) .nil)) rfl (stM rfl (st (.call (xR) (.cons (.t rfl) .nil)) rfl (stM rfl (stM rfl (nkQ k2 (.sq fun k3=>.sr fun k4=>stM rfl (st (.len zh (.t rfl)) rfl (stM rfl (st (.len zh (.t rfl)) rfl (st (.neI (.t rfl) (.t rfl)) rfl (nkQ k4 (.w [0,1,4,14] rfl (.cd rfl (fun hc1=>?_) (fun hc1=>?_)))))))))))))))))
 ·refine .sq fun k5=>.sr fun k6=>stM rfl (st (.len zh (.t rfl)) rfl (stM rfl (st (.len zh (.t rfl)) rfl (st (.ltI (.t rfl) (.t rfl)) rfl (nkQ k6 (.w [0,1,4,19] rfl (.cd rfl (fun hc2=>?_) (fun hc2=>?_))))))))
  ·refine .sr fun k7=>st (.as (.cI (-1) rfl)) rfl (nkQ k7 (.ret (.thr (.thr (rt1 (.inl rfl) Tryz.results69 rfl (.tmp (Has.t' rfl ?_) .nil))))))
   all_goals (exact zF (pM (show (zA _).length<(zA _).length by omega)))
  ·refine .skip (.nk k5 (.sr fun k8=>st (.as (.cI 1 rfl)) rfl (nkQ k8 (.ret (.thr (rt1 (.inl rfl) Tryz.results69 rfl (.tmp (Has.t' rfl ?_) .nil)))))))
   all_goals (exact zF (pN (show (zA _).length<(zA _).length by omega)))
 ·refine .skip (.nk k3 (.sq fun k9=>.sr fun k10=>stM rfl (st (.len zh (.t rfl)) rfl (st (.subI (.t rfl) (.cI 1 rfl) (by omega) (by omega)) rfl (stM rfl (nkQ k10 (.block (.loopF [0,1] (fun (z:{ k:Nat//k≤(zA (val xs)).length∧val xs/W^k=val ys/W^k })=>match z with|⟨k,hI⟩=>[(5,isI ((k:Int)-1))]) (fun M=>fun (z:{ k:Nat//k≤(zA (val xs)).length∧val xs/W^k=val ys/W^k })=>match z with|⟨k,hI⟩=>M) (fun (z:{ k:Nat//k≤(zA (val xs)).length∧val xs/W^k=val ys/W^k })=>match z with|⟨k,hI⟩=>k) (⟨(zA (val xs)).length,Nat.le_refl _,tg (show (zA _).length=(zA _).length by omega)⟩) (Cv.mem (.c 5 rfl ?_ (.l [0,1] rfl)) ?_) ?_))))))))
  ·rfl
  ·rfl
  rintro⟨k,hk,he⟩ K11 hK11
  refine .w [5,0,1] rfl ?_
  have ek:((k:Int)-1).toNat=k-1:=by omega
  refine .sq fun k12=>.sr fun k13=>stM rfl (st (.geI (.t rfl) (.cI 0 rfl)) rfl (nkQ k13 (.cd rfl (fun hc3=>?_) (fun hc3=>?_))))
  ·refine .skip (.nk k12 (.sq fun k14=>.block (.block (.sq fun k15=>.dr (.m [] rfl (.m [] rfl (.so [28,29] rfl (.ixP zh zp (.t rfl) (.t rfl) (by omega) (getD_some (d:=0) (by omega))) (.so [30] rfl (.loadP1 (.t rfl) zp) (.m [] rfl (.m [] rfl (.so [32,33] rfl (.ixP zh zp (.t rfl) (.t rfl) (by omega) (getD_some (d:=0) (by omega))) (.so [34] rfl (.loadP1 (.t rfl) zp) (.fn (n:=8) zW (.w [0,1,5,23,24,28,29,30,31,32,33,34,35] rfl (st (.ltU (.t rfl) (.t rfl)) rfl (stM rfl (nkQ k15 (.cd rfl (fun hc4=>?_) (fun hc4=>?_)))))))))))))))))))
   ·refine .sr fun k16=>st (.as (.cI (-1) rfl)) rfl (nkQ k16 (.ret (.blr (.blr (.thr (.thr (.blr (.thr (rt1 (.inl rfl) Tryz.results69 rfl (.tmp (Has.t' rfl ?_) .nil))))))))))
    all_goals (rw[ek] at hc4;exact zF (cmp_lt (by omega) he hc4))
   ·refine .sq fun k17=>.dr (.m [] rfl (.m [] rfl (.so [38,39] rfl (.ixP zh zp (.t rfl) (.t rfl) (by omega) (getD_some (d:=0) (by omega))) (.so [40] rfl (.loadP1 (.t rfl) zp) (.m [] rfl (.m [] rfl (.so [42,43] rfl (.ixP zh zp (.t rfl) (.t rfl) (by omega) (getD_some (d:=0) (by omega))) (.so [44] rfl (.loadP1 (.t rfl) zp) (.fn (n:=8) zW (.w [0,1,5,23,24,28,29,30,31,32,33,34,35,36,27,38,39,40,41,42,43,44,45] rfl (st (.gtU (.t rfl) (.t rfl)) rfl (stM rfl (nkQ k17 (.cd rfl (fun hc5=>?_) (fun hc5=>?_)))))))))))))))
    ·refine .sr fun k18=>st (.as (.cI 1 rfl)) rfl (nkQ k18 (.ret (.blr (.blr (.thr (.thr (.blr (.thr (rt1 (.inl rfl) Tryz.results69 rfl (.tmp (Has.t' rfl ?_) .nil))))))))))
     all_goals (rw[ek] at hc5;exact zF (cmp_gt (by omega) he hc5))
    ·refine .skip (.bln (.bln (.nk k14 (.region (stM rfl (st (.subI (.t rfl) (.cI 1 rfl) (by omega) (by omega)) rfl (stM rfl (nl (.thn (hK11 (⟨k-1,by omega,zBK (by omega) he (by rw[ek] at hc4 hc5;omega)⟩) _ _ ?_ (Cv.mem (.c 5 rfl ?_ (.l [0,1] rfl)) ?_)))))))))))
     ·show k-1<k;omega
     ·exact zF (by show _=((k-1:Nat):Int)-1;omega)
     ·rfl
  ·refine .exit (.the (.the (.blh (.nk k9 (.cv (Cv.wk .nil) (.sr fun k19=>st (.as (.cI 0 rfl)) rfl (nkQ k19 (.ret (rt1 (.inl rfl) Tryz.results69 rfl (.tmp (Has.t' rfl ?_) .nil))))))))))
   all_goals (exact zF (cmp_eq he (by omega)))
theorem dD {xs ys:List Nat} (hx:(List.length (zA (val xs)))<4294967296) (hy:(List.length (zA (val ys)))<4294967296):Ctr Tryz.prog 73 [zD xs,zD ys] (zD (zA (val xs+val ys))):=by
 refine Ctr.i Tryz.func73 rfl Tryz.ntmps73 fun w0 F0=>.w [0,1] rfl (.fact (Has.lenLt (Has.t (t:=0) rfl)) fun lt0=>.fact (Has.okW (Has.t (t:=0) rfl)) fun ok0=>.fact (Has.lenLt (Has.t (t:=1) rfl)) fun lt1=>.fact (Has.okW (Has.t (t:=1) rfl)) fun ok1=>.sr fun k1=>st (.as (.cW (f:=isU))) rfl (nkQ k1 (.sr fun k2=>stM rfl (st (.call (xR) (.cons (.t rfl) .nil)) rfl (stM rfl (st (.call (xR) (.cons (.t rfl) .nil)) rfl (stM rfl (stM rfl (nkQ k2 (.cutF [4] (fun (z:{ z:Nat×Nat//z.1+z.2=val xs+val ys∧(List.length (zA z.2))≤(List.length (zA z.1))∧(List.length (zA z.1))<4294967296 })=>match z with|⟨(p,q),hI⟩=>[(0,zD (zA p)),(1,zD (zA q))]) (fun M=>fun (z:{ z:Nat×Nat//z.1+z.2=val xs+val ys∧(List.length (zA z.2))≤(List.length (zA z.1))∧(List.length (zA z.1))<4294967296 })=>match z with|⟨(p,q),hI⟩=>M) (fun K3 hK3=>?_) ?_))))))))))
 ·refine .sr fun k4=>stM rfl (st (.len zh (.t rfl)) rfl (stM rfl (st (.len zh (.t rfl)) rfl (st (.ltI (.t rfl) (.t rfl)) rfl (nkQ k4 (.w [0,1,4,17] rfl (.cd rfl (fun hc1=>?_) (fun hc1=>?_))))))))
  ·refine .region (stM rfl (stM rfl (stM rfl (stM rfl (nl (.thn ?_))))))
   refine hK3 (⟨(val ys,val xs),Nat.add_comm _ _,by simp only[];omega,hy⟩) _ _ (Cv.mem (.c 0 rfl ?_ (.c 1 rfl ?_ (.l [4] rfl))) ?_)
   ·rfl
   ·rfl
   ·rfl
  ·refine .skip (.thn ?_)
   refine hK3 (⟨(val xs,val ys),rfl,by simp only[];omega,hx⟩) _ _ (Cv.mem (.c 0 rfl ?_ (.c 1 rfl ?_ (.l [4] rfl))) ?_)
   ·rfl
   ·rfl
   ·rfl
 rintro⟨⟨p,q⟩,hI1,hI2,hI3⟩
 refine .w [0,1,4] rfl ?_
 simp only[] at hI1 hI2 hI3
 refine .sr fun k5=>stM rfl (st (.len zh (.t rfl)) rfl (st (.addI (.t rfl) (.cI 1 rfl) (by omega) (by omega)) rfl (.make (f:=isU) (u:=0) (n:=(List.length (zA p))+1) (c:=(List.length (zA p))+1) zh zp jL (fun _ _=>⟨⟨rfl,by decide⟩,trivial⟩) hH (Has.t' rfl rfl) (Has.t' rfl rfl) (by omega) rfl fun b1=>stM rfl (nkQ k5 (.sr fun k6=>st (.as (.cU 0 rfl)) rfl (nkQ k6 (.sq fun k7=>.sr fun k8=>stM rfl (st (.len zh (.t rfl)) rfl (st (.mv (.cI 0 rfl)) rfl (nkQ k8 (.w [4,0,1,5,6,25,26] rfl (.block (.loopF [4,0,1,5,25] (fun (z:{ i:Nat//i≤(List.length (zA p)) })=>match z with|⟨i,hI⟩=>[(26,isI (i:Int)),(6,isU (car p q i))]) (fun M=>fun (z:{ i:Nat//i≤(List.length (zA p)) })=>match z with|⟨i,hI⟩=>[(some b1,zC (List.map isU (xO (p+q) i ((List.length (zA p))+1))))]) (fun (z:{ i:Nat//i≤(List.length (zA p)) })=>match z with|⟨i,hI⟩=>(List.length (zA p))-i) (⟨0,Nat.zero_le _⟩) (Cv.mem (.c 26 rfl ?_ (.c 6 rfl ?_ (.l [4,0,1,5,25] rfl))) ?_) ?_)))))))))))))
 ·rfl
 ·exact zV (nf _ _)
 ·exact qy (cH _ _)
 rintro⟨i,hI⟩ K9 hK9
 refine .w [26,6,4,0,1,5,25] rfl (.memEq (M':=[(some b1,zC (List.map isU (xO (p+q) i ((List.length (zA p))+1))))]) rfl ?_)
 have wl:(xO (p+q) i ((List.length (zA p))+1)).length=(List.length (zA p))+1:=bM (by omega)
 refine .sr fun k10=>st (.ltI (.t rfl) (.t rfl)) rfl (nkQ k10 (.sq fun k11=>.cd rfl (fun hc2=>?_) (fun hc2=>?_)))
 ·refine .skip (.nk k11 (.sq fun k12=>.block (.sr fun k13=>stM rfl (stM rfl (nkQ k13 (.sr fun k14=>st (.as (.cU 0 rfl)) rfl (nkQ k14 (.cutF [4,0,1,5,25,26,6,27,28,7] (fun (_:Unit)=>[(8,isU (dig q i))]) (fun M=>fun (_:Unit)=>M) (fun K15 hK15=>?_) ?_))))))))
  ·refine .sr fun k16=>stM rfl (stM rfl (st (.len zh (.t rfl)) rfl (st (.ltI (.t rfl) (.t rfl)) rfl (nkQ k16 (.cd rfl (fun hc3=>?_) (fun hc3=>?_))))))
   ·refine .region (stM rfl (stM rfl (st (.ixP zh zp (.t rfl) (.t rfl) (by omega) (getD_some (d:=0) (by omega))) rfl (st (.loadP1 (.t rfl) zp) rfl (stM rfl (nl (.thn (hK15 (()) _ _ (Cv.mem (.c 8 rfl ?_ (.l [4,0,1,5,25,26,6,27,28,7] rfl)) ?_)))))))))
    ·first|exact zV (qH _ _)|exact zV (aH (by omega)).symm
    ·rfl
   ·refine .skip (.thn (hK15 (()) _ _ (Cv.mem (.c 8 rfl ?_ (.l [4,0,1,5,25,26,6,27,28,7] rfl)) ?_)))
    ·first|exact zV (qH _ _)|exact zV (aH (by omega)).symm
    ·rfl
  rintro _
  refine .w [8,4,0,1,5,25,26,6,27,28,7] rfl (.region (stM rfl (stM rfl (stM rfl (stM rfl (st (.ixP zh zp (.t rfl) (.t rfl) (by omega) (getD_some (d:=0) (by omega))) rfl (st (.eq (.loadP1 (.t rfl) zp) (zV (qH _ i))) rfl (stM rfl (stM rfl (st (.add64 vz (.t rfl) (.t rfl) (.t rfl) (by exact pS _ _ _) ⟨(by exact xB _ _),(by exact xB _ _)⟩) rfl (stM rfl (st (.ext (.t rfl) rfl) rfl (st (.ext (.t rfl) rfl) rfl (st (.eq (.ixWin zh zp (.t rfl) (.t rfl) (by omega)) (qG (by exact aS))) rfl (.storeM (.t rfl) (.t rfl) (i:=0) rfl zp (by omega) (M':=[(_,_)]) rfl (stM rfl (nl (.bln (.nk k12 (.region (st (.addI (.t rfl) (.cI 1 rfl) (by omega) (by omega)) rfl (stM rfl (nl (.thn (hK9 (⟨i+1,by omega⟩) _ _ ?_ (Cv.mem (.c 26 rfl ?_ (.c 6 rfl ?_ (.l [4,0,1,5,25] rfl))) ?_))))))))))))))))))))))))))
  ·show (List.length (zA p))-(i+1)<(List.length (zA p))-i;omega
  ·rfl
  ·exact zV (sR _ _ _)
  ·exact qy (wm (by omega) (lk _ _ _))
 ·refine .exit (.the (.the (.blh (.nk k7 (.sr fun k17=>stM rfl (stM rfl (st (.len zh (.t rfl)) rfl (stM rfl (st (.eq (.ixWin zh zp (.t rfl) (.t rfl) (by omega)) (qG (by exact aS))) rfl (.storeM (.t rfl) (.t rfl) (i:=0) rfl zp (by omega) (M':=[(_,_)]) rfl (nkQ k17 (.w [4,5] rfl (.sq fun k18=>.cv (Cv.freeze' (t:=5) (i:=0) (ys:=zT ((List.length (zA p))+1) (p+q)) rfl rfl rfl (by simp;omega) (zAS (by omega) (by omega) (zFV (vF (by omega)) (vF (by omega))))) ?_)))))))))))))
  refine .memEq (M':=[]) rfl (.w [4,5] rfl (.region (stM rfl (st (.call (vc) (.cons (.t rfl) .nil)) rfl (stM rfl (nkQ k18 (.ret (rt1 (.inl rfl) Tryz.results73 rfl (.tmp (Has.t' rfl ?_) .nil)))))))))
  all_goals (exact qJ (by rw[qv (zCB (xI p) (vF hI2)),hI1]))
theorem lE {xs ys:List Nat} (hx:(List.length (zA (val xs)))<4294967296):Ctr Tryz.prog 74 [zD xs,zD ys] (zZ [zD (zA (val xs-val ys)),isB (decide (val ys≤val xs))]):=by
 refine Ctr.i Tryz.func74 rfl Tryz.ntmps74 fun w0 F0=>.w [0,1] rfl (.fact (Has.lenLt (Has.t (t:=0) rfl)) fun lt0=>.fact (Has.okW (Has.t (t:=0) rfl)) fun ok0=>.fact (Has.lenLt (Has.t (t:=1) rfl)) fun lt1=>.fact (Has.okW (Has.t (t:=1) rfl)) fun ok1=>.sr fun k1=>st (.as (.cW (f:=isU))) rfl (st (.as (.cB false)) rfl (nkQ k1 (.sq fun k2=>.sr fun k3=>stM rfl (stM rfl (st (.call (et) (.cons (.t rfl) (.cons (.t rfl) .nil))) rfl (st (.ltI (.t rfl) (.cI 0 rfl)) rfl (nkQ k3 (.cd rfl (fun hc1=>?_) (fun hc1=>?_))))))))))
 ·have hlt:=dP.1 hc1
  refine .sr fun k4=>st (.as (.cW (f:=isU))) rfl (st (.as (.cB false)) rfl (nkQ k4 (.ret (.thr (rtN (.inl rfl) Tryz.results74 rfl rfl (.tmp (Has.t' rfl ?_) (.tmp (Has.t' rfl ?_) .nil)))))))
  ·exact qJ (by rw[Nat.sub_eq_zero_of_le (Nat.le_of_lt hlt),zJ])
  ·exact zl (by simp;omega)
 ·have hle:val ys≤val xs:=Nat.le_of_not_lt (fun h=>by have:=dP.2 h;omega)
  have hnw:=qF hle
  refine .skip (.nk k2 (.sr fun k5=>stM rfl (st (.call (xR) (.cons (.t rfl) .nil)) rfl (stM rfl (st (.call (xR) (.cons (.t rfl) .nil)) rfl (stM rfl (stM rfl (nkQ k5 (.w [0,1,4,5] rfl (.sr fun k6=>stM rfl (st (.len zh (.t rfl)) rfl (.make (f:=isU) (u:=0) (n:=(List.length (zA (val xs)))) (c:=(List.length (zA (val xs)))) zh zp jL (fun _ _=>⟨⟨rfl,by decide⟩,trivial⟩) hH (Has.t' rfl rfl) (Has.t' rfl rfl) (by omega) rfl fun b1=>stM rfl (nkQ k6 (.sr fun k7=>st (.as (.cU 0 rfl)) rfl (nkQ k7 (.sq fun k8=>.sr fun k9=>stM rfl (st (.len zh (.t rfl)) rfl (st (.mv (.cI 0 rfl)) rfl (nkQ k9 (.block (.loopF [0,1,4,5,6,22] (fun (z:{ i:Nat//i≤(List.length (zA (val xs))) })=>match z with|⟨i,hI⟩=>[(23,isI (i:Int)),(7,isU (bor (val xs) (val ys) i))]) (fun M=>fun (z:{ i:Nat//i≤(List.length (zA (val xs))) })=>match z with|⟨i,hI⟩=>[(some b1,zC (List.map isU (xO (val xs-val ys) i ((List.length (zA (val xs)))))))]) (fun (z:{ i:Nat//i≤(List.length (zA (val xs))) })=>match z with|⟨i,hI⟩=>(List.length (zA (val xs)))-i) (⟨0,Nat.zero_le _⟩) (Cv.mem (.c 23 rfl ?_ (.c 7 rfl ?_ (.l [0,1,4,5,6,22] rfl))) ?_) ?_)))))))))))))))))))))
  ·rfl
  ·exact zV (nj _ _)
  ·exact qy (cH _ _)
  rintro⟨i,hI⟩ K10 hK10
  refine .w [23,7,0,1,4,5,6,22] rfl (.memEq (M':=[(some b1,zC (List.map isU (xO (val xs-val ys) i ((List.length (zA (val xs)))))))]) rfl ?_)
  have wl:(xO (val xs-val ys) i ((List.length (zA (val xs))))).length=(List.length (zA (val xs))):=bM (by omega)
  refine .sr fun k11=>st (.ltI (.t rfl) (.t rfl)) rfl (nkQ k11 (.sq fun k12=>.cd rfl (fun hc2=>?_) (fun hc2=>?_)))
  ·refine .skip (.nk k12 (.sq fun k13=>.block (.sr fun k14=>stM rfl (stM rfl (nkQ k14 (.sr fun k15=>st (.as (.cU 0 rfl)) rfl (nkQ k15 (.cutF [0,1,4,5,6,22,23,7,24,25,8] (fun (_:Unit)=>[(9,isU (dig (val ys) i))]) (fun M=>fun (_:Unit)=>M) (fun K16 hK16=>?_) ?_))))))))
   ·refine .sr fun k17=>stM rfl (stM rfl (st (.len zh (.t rfl)) rfl (st (.ltI (.t rfl) (.t rfl)) rfl (nkQ k17 (.cd rfl (fun hc3=>?_) (fun hc3=>?_))))))
    ·refine .region (stM rfl (stM rfl (st (.ixP zh zp (.t rfl) (.t rfl) (by omega) (getD_some (d:=0) (by omega))) rfl (st (.loadP1 (.t rfl) zp) rfl (stM rfl (nl (.thn (hK16 (()) _ _ (Cv.mem (.c 9 rfl ?_ (.l [0,1,4,5,6,22,23,7,24,25,8] rfl)) ?_)))))))))
     ·first|exact zV (qH _ _)|exact zV (aH (by omega)).symm
     ·rfl
    ·refine .skip (.thn (hK16 (()) _ _ (Cv.mem (.c 9 rfl ?_ (.l [0,1,4,5,6,22,23,7,24,25,8] rfl)) ?_)))
     ·first|exact zV (qH _ _)|exact zV (aH (by omega)).symm
     ·rfl
   rintro _
   refine .w [9,0,1,4,5,6,22,23,7,24,25,8] rfl (.region (stM rfl (stM rfl (stM rfl (stM rfl (st (.ixP zh zp (.t rfl) (.t rfl) (by omega) (getD_some (d:=0) (by omega))) rfl (st (.eq (.loadP1 (.t rfl) zp) (zV (qH _ i))) rfl (stM rfl (stM rfl (st (.sub64 eC (.t rfl) (.t rfl) (.t rfl) (by exact lg _ _ _) ⟨(by exact xB _ _),(by exact xB _ _)⟩) rfl (stM rfl (st (.ext (.t rfl) rfl) rfl (st (.ext (.t rfl) rfl) rfl (st (.eq (.ixWin zh zp (.t rfl) (.t rfl) (by omega)) (qG (by exact aS))) rfl (.storeM (.t rfl) (.t rfl) (i:=0) rfl zp (by omega) (M':=[(_,_)]) rfl (stM rfl (nl (.bln (.nk k13 (.region (st (.addI (.t rfl) (.cI 1 rfl) (by omega) (by omega)) rfl (stM rfl (nl (.thn (hK10 (⟨i+1,by omega⟩) _ _ ?_ (Cv.mem (.c 23 rfl ?_ (.c 7 rfl ?_ (.l [0,1,4,5,6,22] rfl))) ?_))))))))))))))))))))))))))
   ·show (List.length (zA (val xs)))-(i+1)<(List.length (zA (val xs)))-i;omega
   ·rfl
   ·exact zV (dU _ _ _)
   ·exact qy (wm (by omega) (pu hle _))
  ·refine .exit (.the (.the (.blh (.nk k8 (.w [4,5,6] rfl (.sq fun k18=>.cv (Cv.freeze' (t:=6) (i:=0) (ys:=zT ((List.length (zA (val xs)))) (val xs-val ys)) rfl rfl rfl (by simp;omega) (kK (by omega))) ?_))))))
   refine .memEq (M':=[]) rfl (.w [4,5,6] rfl (.region (stM rfl (st (.call (vc) (.cons (.t rfl) .nil)) rfl (stM rfl (st (.as (.cB true)) rfl (nkQ k18 (.ret (rtN (.inl rfl) Tryz.results74 rfl rfl (.tmp (Has.t' rfl ?_) (.tmp (Has.t' rfl ?_) .nil)))))))))))
   ·exact qJ (by rw[qv (zCW (xI _))])
   ·exact zl (by simp;omega)
set_option maxHeartbeats 2000000 in
theorem zDS {N A x o n c m:Nat} (h1:(List.length (zA A))+1≤n) (h2:o+n≤m) (h3:N/W^o<W^(List.length (zA A))):CtrM Tryz.prog 118 (fun b0=>[qW b0 o n c,zD (zA A),isU x]) (zC (List.map isU (zT m N))) (zC (List.map isU (zT m (N+W^o*(A*x))))) (fun b0=>zZ []):=by
 refine CtrM.intro Tryz.func118 rfl (by kernel_rfl) Tryz.ntmps118 (fun _=>rfl) fun w0 F0 b0=>.w [0,1,2] rfl (.fact (Has.lenLt (Has.t (t:=0) rfl)) fun lt0=>.fact (Has.winLe (Has.t (t:=0) rfl)) fun lw0=>.fact (Has.lenLt (Has.t (t:=1) rfl)) fun lt1=>.fact (Has.okW (Has.t (t:=1) rfl)) fun ok1=>.fact (Has.ltU (Has.t (t:=2) rfl)) fun lt2=>.sr fun k1=>st (.as (.cU 0 rfl)) rfl (nkQ k1 (.sq fun k2=>.sr fun k3=>stM rfl (st (.len zh (.t rfl)) rfl (st (.mv (.cI 0 rfl)) rfl (nkQ k3 (.block (.loopF [0,1,2,12,13] (fun (z:{ i:Nat//i≤(List.length (zA A)) })=>match z with|⟨i,hI⟩=>[(14,isI (i:Int)),(6,isU (wa (N/W^o) A x i))]) (fun M=>fun (z:{ i:Nat//i≤(List.length (zA A)) })=>match z with|⟨i,hI⟩=>[(some b0,zC (List.map isU (mix (o+i) (N+W^o*(A*x)) N m)))]) (fun (z:{ i:Nat//i≤(List.length (zA A)) })=>match z with|⟨i,hI⟩=>(List.length (zA A))-i) (⟨0,Nat.zero_le _⟩) (Cv.mem (.c 14 rfl ?_ (.c 6 rfl ?_ (.l [0,1,2,12,13] rfl))) ?_) ?_))))))))
 ·rfl
 ·exact zV (iy _ _ _)
 ·exact qy (aB (by omega) (eI _ _ _))
 rintro⟨i,hI⟩ K4 hK4
 refine .w [14,6,0,1,2,12,13] rfl (.memEq (M':=[(some b0,zC (List.map isU (mix (o+i) (N+W^o*(A*x)) N m)))]) rfl ?_)
 have wl:(mix (o+i) (N+W^o*(A*x)) N m).length=m:=jW (by omega)
 have hrow:=uw lt2 (xB A i) (xB (N/W^o) i) (Nat.lt_of_le_of_lt (dF (N/W^o) A x i) lt2) (xB _ _) (eK (N/W^o) A x i)
 have hcl:=Nat.lt_of_le_of_lt (dF (N/W^o) A x i) lt2
 refine .sr fun k5=>st (.ltI (.t rfl) (.t rfl)) rfl (nkQ k5 (.sq fun k6=>.cd rfl (fun hc1=>?_) (fun hc1=>?_)))
 ·refine .skip (.nk k6 (.sq fun k7=>.block (.sr fun k8=>stM rfl (st (.ixP zh zp (.t rfl) (.t rfl) (by omega) (getD_some (d:=0) (by omega))) rfl (st (.eq (.loadP1 (.t rfl) zp) (zV (qH _ i))) rfl (stM rfl (stM rfl (nkQ k8 (.sr fun k9=>stM rfl (stM rfl (st (.call (cV) (.cons (.t rfl) (.cons (.t rfl) .nil))) rfl (stM rfl (st (.ext (.t rfl) rfl) rfl (st (.ext (.t rfl) rfl) rfl (stM rfl (stM rfl (nkQ k9 (.sr fun k10=>st (.as (.cU 0 rfl)) rfl (nkQ k10 (.sr fun k11=>stM rfl (stM rfl (stM rfl (st (.eq (.ixWin zh zp (.t rfl) (.t rfl) (by omega)) (qG (by exact gS))) rfl (st (.eq (.load1 (.t rfl) (i:=0) rfl zp (map_some (getD_some (d:=0) (by omega)))) (zV (oP (by omega)))) rfl (st (.add64 vz (.t rfl) (.t rfl) (.cU 0 rfl) (by omega) ⟨(by omega),(by exact xB _ _)⟩) rfl (stM rfl (st (.ext (.t rfl) rfl) rfl (st (.ext (.t rfl) rfl) rfl (stM rfl (stM rfl ?_))))))))))))))))))))))))))))))
  refine nkQ k11 (.sr fun k12=>stM rfl (stM rfl (st (.addU' (.t rfl) (.t rfl) (by omega)) rfl (stM rfl (nkQ k12 (.sr fun k13=>stM rfl (stM rfl (st (.add64 vz (.t rfl) (.t rfl) (.cU 0 rfl) (by omega) ⟨(by omega),(by omega)⟩) rfl (stM rfl (st (.ext (.t rfl) rfl) rfl (st (.ext (.t rfl) rfl) rfl (stM rfl (stM rfl (nkQ k13 (.region (stM rfl (stM rfl (stM rfl (stM rfl (stM rfl (st (.addU' (.t rfl) (.t rfl) (by omega)) rfl (st (.eq (.ixWin zh zp (.t rfl) (.t rfl) (by omega)) (qG (by exact gS))) rfl (.storeM (.t rfl) (.t rfl) (i:=0) rfl zp (by omega) (M':=[(_,_)]) rfl (stM rfl (nl (.bln (.nk k7 (.region (st (.addI (.t rfl) (.cI 1 rfl) (by omega) (by omega)) rfl (stM rfl (nl (.thn ?_))))))))))))))))))))))))))))))))
  refine hK4 (⟨i+1,by omega⟩) _ _ ?_ (Cv.mem (.c 14 rfl ?_ (.c 6 rfl ?_ (.l [0,1,2,12,13] rfl))) ?_)
  ·show (List.length (zA A))-(i+1)<(List.length (zA A))-i;omega
  ·rfl
  ·exact zV hrow.2.1
  ·exact qy (ux (by omega) hrow.1)
 ·refine .exit (.the (.the (.blh (.nk k2 (.w [0,1,6] rfl (.region (stM rfl (stM rfl (st (.len zh (.t rfl)) rfl (stM rfl (st (.eq (.ixWin zh zp (.t rfl) (.t rfl) (by omega)) (qG (by exact gS))) rfl (.storeM (.t rfl) (.t rfl) (i:=0) rfl zp (by omega) (M':=[(_,_)]) rfl (nl (rtM0 (.inr rfl) Tryz.results118 rfl (i:=0) ?_))))))))))))))
  all_goals (obtain rfl:i=(List.length (zA A)):=(by omega);exact lH (zHQ rfl (by omega) h3 (xI A) lt2))
theorem zDU {xs ys:List Nat} (hx:(List.length (zA (val xs)))+(List.length (zA (val ys)))<4294967296):Ctr Tryz.prog 97 [zD xs,zD ys] (zD (zA (val xs*val ys))):=by
 refine Ctr.i Tryz.func97 rfl Tryz.ntmps97 fun w0 F0=>.w [0,1] rfl (.fact (Has.lenLt (Has.t (t:=0) rfl)) fun lt0=>.fact (Has.okW (Has.t (t:=0) rfl)) fun ok0=>.fact (Has.lenLt (Has.t (t:=1) rfl)) fun lt1=>.fact (Has.okW (Has.t (t:=1) rfl)) fun ok1=>.sr fun k1=>st (.as (.cW (f:=isU))) rfl (nkQ k1 (.sr fun k2=>stM rfl (st (.call (xR) (.cons (.t rfl) .nil)) rfl (stM rfl (st (.call (xR) (.cons (.t rfl) .nil)) rfl (stM rfl (stM rfl (nkQ k2 (.sr fun k3=>stM rfl (st (.len zh (.t rfl)) rfl (stM rfl (st (.len zh (.t rfl)) rfl (st (.addI (.t rfl) (.t rfl) (by omega) (by omega)) rfl (st (.addI (.t rfl) (.cI 1 rfl) (by omega) (by omega)) rfl (.make (f:=isU) (u:=0) (n:=(List.length (zA (val xs)))+(List.length (zA (val ys)))+1) (c:=(List.length (zA (val xs)))+(List.length (zA (val ys)))+1) zh zp jL (fun _ _=>⟨⟨rfl,by decide⟩,trivial⟩) hH (Has.t' rfl rfl) (Has.t' rfl rfl) (by omega) rfl fun b1=>stM rfl (nkQ k3 (.w [0,1,4,5] rfl (.sq fun k4=>.sr fun k5=>stM rfl (st (.len zh (.t rfl)) rfl (st (.mv (.cI 0 rfl)) rfl ?_)))))))))))))))))))))
 refine nkQ k5 (.block (.loopF [0,4,5,19,20] (fun (z:{ i:Nat//i≤(List.length (zA (val ys))) })=>match z with|⟨i,hI⟩=>[(21,isI (i:Int))]) (fun M=>fun (z:{ i:Nat//i≤(List.length (zA (val ys))) })=>match z with|⟨i,hI⟩=>[(some b1,zC (List.map isU (zT ((List.length (zA (val xs)))+(List.length (zA (val ys)))+1) (val xs*(val ys%W^i)))))]) (fun (z:{ i:Nat//i≤(List.length (zA (val ys))) })=>match z with|⟨i,hI⟩=>(List.length (zA (val ys)))-i) (⟨0,Nat.zero_le _⟩) (Cv.mem (.c 21 rfl ?_ (.l [0,4,5,19,20] rfl)) ?_) ?_))
 ·rfl
 ·exact qy (tH _ _ _)
 rintro⟨i,hI⟩ K6 hK6
 refine .w [21,0,4,5,19,20] rfl (.memEq (M':=[(some b1,zC (List.map isU (zT ((List.length (zA (val xs)))+(List.length (zA (val ys)))+1) (val xs*(val ys%W^i)))))]) rfl ?_)
 have wl:(zT ((List.length (zA (val xs)))+(List.length (zA (val ys)))+1) (val xs*(val ys%W^i))).length=(List.length (zA (val xs)))+(List.length (zA (val ys)))+1:=qB _ _
 refine .sr fun k7=>st (.ltI (.t rfl) (.t rfl)) rfl (nkQ k7 (.sq fun k8=>.cd rfl (fun hc1=>?_) (fun hc1=>?_)))
 ·refine .skip (.nk k8 (.sq fun k9=>.block (.sr fun k10=>stM rfl (st (.ixP zh zp (.t rfl) (.t rfl) (by omega) (getD_some (d:=0) (by omega))) rfl (st (.eq (.loadP1 (.t rfl) zp) (zV (qH _ i))) rfl (stM rfl (stM rfl (nkQ k10 (.region (stM rfl (stM rfl (st (.eq (.slLWin zh zp (.t rfl) (.t rfl) ⟨by omega,by omega,by omega⟩) (gT (by exact aS) rfl rfl)) rfl (stM rfl (stM rfl (.callM (zDS (m:=(List.length (zA (val xs)))+(List.length (zA (val ys)))+1) (N:=val xs*(val ys%W^i)) (by simp only[Int.toNat_natCast];omega) (by simp only[Int.toNat_natCast];omega) (mulDiv (xI _))) (i:=0) rfl (.cons (.t rfl) (.cons (.t rfl) (.cons (.t rfl) .nil))) rfl (M':=[(_,_)]) rfl ?_)))))))))))))))
  refine nl (.bln (.nk k9 (.region (st (.addI (.t rfl) (.cI 1 rfl) (by omega) (by omega)) rfl (stM rfl (nl (.thn (hK6 (⟨i+1,by omega⟩) _ _ ?_ (Cv.mem (.c 21 rfl ?_ (.l [0,4,5,19,20] rfl)) ?_)))))))))
  ·show (List.length (zA (val ys)))-(i+1)<(List.length (zA (val ys)))-i;omega
  ·rfl
  ·exact qy (by rw[dn])
 ·refine .exit (.the (.the (.blh (.nk k4 (.w [4,5] rfl (.sq fun k11=>.cv (Cv.freeze' (t:=5) (i:=0) (ys:=zT ((List.length (zA (val xs)))+(List.length (zA (val ys)))+1) (val xs*(val ys%W^i))) rfl rfl rfl (by simp;omega) (aU (qB _ _).symm)) ?_))))))
  refine .memEq (M':=[]) rfl (.w [4,5] rfl (.region (stM rfl (st (.call (vc) (.cons (.t rfl) .nil)) rfl (stM rfl (nkQ k11 (.ret (rt1 (.inl rfl) Tryz.results97 rfl (.tmp (Has.t' rfl ?_) .nil)))))))))
  all_goals (obtain rfl:i=(List.length (zA (val ys))):=(by omega);exact qJ (mulEnd rfl))
theorem rS {xs:List Nat} {k:Nat} (hk:k≤1048576) (hx:(List.length (zA (val xs)))<4294900000):Ctr Tryz.prog 129 [zD xs,isI (k:Int)] (zZ [zD (zA (val xs*2^k)),isB true]):=by
 refine Ctr.i Tryz.func129 rfl Tryz.ntmps129 fun w0 F0=>.w [0,1] rfl (.fact (Has.lenLt (Has.t (t:=0) rfl)) fun lt0=>.fact (Has.okW (Has.t (t:=0) rfl)) fun ok0=>.fact (Has.rngI (Has.t (t:=1) rfl)) fun lt1=>?_)
 have e1:((k:Int)/64)=((k/64:Nat):Int):=by omega
 have e2:((k:Int)%64).toNat=k%64:=by omega
 refine .sr fun k1=>st (.as (.cW (f:=isU))) rfl (st (.as (.cB false)) rfl (nkQ k1 (.sq fun k2=>.sr fun k3=>stM rfl (st (.ltI (.t rfl) (.cI 0 rfl)) rfl (stM rfl (stF rfl rfl (fun hg=>.mv (.t rfl)) rfl (stF rfl rfl (fun hg=>.gtI (Has.g rfl hg) (.cI 1048576 rfl)) rfl (st (.pickOr (.t rfl) (fun h=>Has.g rfl (ng h))) rfl (nkQ k3 (.w [0,1,4,5,16] rfl (.cd rfl (fun hc1=>?_) (fun hc1=>?_))))))))))))
 ·exfalso;first|omega|contradiction|(revert hc1;simp)
 ·refine .skip (.nk k2 (.sr fun k4=>stM rfl (st (.call (xR) (.cons (.t rfl) .nil)) rfl (stM rfl (nkQ k4 (.sr fun k5=>stM rfl (st (.eq (.quoI (.t rfl) (.cI 64 rfl) (by omega) (by omega) (by omega)) (zF e1)) rfl (stM rfl (st (.remI (.t rfl) (.cI 64 rfl) (by omega) (by omega) (by omega)) rfl (st (.eq (.convIU un3 uQ (.t rfl) (by omega) (by omega)) (zV e2)) rfl (stM rfl (stM rfl (nkQ k5 (.w [0,4,5,6,7] rfl (.sr fun k6=>stM rfl (st (.len zh (.t rfl)) rfl (stM rfl (st (.addI (.t rfl) (.t rfl) (by omega) (by omega)) rfl (st (.addI (.t rfl) (.cI 1 rfl) (by omega) (by omega)) rfl (.make (f:=isU) (u:=0) (n:=(List.length (zA (val xs)))+k/64+1) (c:=(List.length (zA (val xs)))+k/64+1) zh zp jL (fun _ _=>⟨⟨rfl,by decide⟩,trivial⟩) hH (Has.t' rfl rfl) (Has.t' rfl rfl) (by omega) rfl fun b1=>stM rfl (nkQ k6 (.w [0,4,5,6,7,8] rfl (.sq fun k7=>.sr fun k8=>stM rfl (st (.len zh (.t rfl)) rfl (st (.mv (.cI 0 rfl)) rfl (nkQ k8 ?_))))))))))))))))))))))))))
  refine .block (.loopF [4,5,6,7,8,30,31] (fun (z:{ i:Nat//i≤(List.length (zA (val xs))) })=>match z with|⟨i,hI⟩=>[(32,isI (i:Int))]) (fun M=>fun (z:{ i:Nat//i≤(List.length (zA (val xs))) })=>match z with|⟨i,hI⟩=>[(some b1,zC (List.map isU (zT ((List.length (zA (val xs)))+k/64+1) (val xs%W^i*2^k))))]) (fun (z:{ i:Nat//i≤(List.length (zA (val xs))) })=>match z with|⟨i,hI⟩=>(List.length (zA (val xs)))-i) (⟨0,Nat.zero_le _⟩) (Cv.mem (.c 32 rfl ?_ (.l [4,5,6,7,8,30,31] rfl)) ?_) ?_)
  ·rfl
  ·exact qy (un _ _ _)
  rintro⟨i,hI⟩ K9 hK9
  refine .w [32,4,5,6,7,8,30,31] rfl (.memEq (M':=[(some b1,zC (List.map isU (zT ((List.length (zA (val xs)))+k/64+1) (val xs%W^i*2^k))))]) rfl ?_)
  have wl:(zT ((List.length (zA (val xs)))+k/64+1) (val xs%W^i*2^k)).length=(List.length (zA (val xs)))+k/64+1:=qB _ _
  have ek:(((k/64:Nat):Int)+(i:Int)).toNat=k/64+i:=by omega
  refine .sr fun k10=>st (.ltI (.t rfl) (.t rfl)) rfl (nkQ k10 (.sq fun k11=>.cd rfl (fun hc2=>?_) (fun hc2=>?_)))
  ·refine .skip (.nk k11 (.sq fun k12=>.block (.sr fun k13=>stM rfl (st (.ixP zh zp (.t rfl) (.t rfl) (by omega) (getD_some (d:=0) (by omega))) rfl (st (.eq (.loadP1 (.t rfl) zp) (zV (qH _ i))) rfl (stM rfl (stM rfl (nkQ k13 (.sr fun k14=>stM rfl (stM rfl (stM rfl (st (.addI (.t rfl) (.t rfl) (by omega) (by omega)) rfl (st (.eq (.ixWin zh zp (.t rfl) (.t rfl) (by omega)) (qG (by exact aS))) rfl (st (.eq (.load1 (.t rfl) (i:=0) rfl zp (map_some (getD_some (d:=0) (by omega)))) ((show isU _=isU (val xs%W^i*2^k/W^(k/64+i)) from zV (by rw[ek];exact zDA (by omega))))) rfl ?_))))))))))))))
   refine stM rfl (stM rfl (st (.shlUU (.t rfl) (.t rfl) (by exact True.intro)) rfl (st (.orU (.t rfl) (.t rfl)) rfl (st (.eq (.ixWin zh zp (.t rfl) (.t rfl) (by omega)) (qG (by exact aS))) rfl (.storeM (.t rfl) (.t rfl) (i:=0) rfl zp (by omega) (M':=[(_,_)]) rfl (nkQ k14 (.sr fun k15=>stM rfl (st (.gtU (.t rfl) (.cU 0 rfl)) rfl (nkQ k15 (.cd rfl (fun hc3=>?_) (fun hc3=>?_)))))))))))
   ·refine .region (stM rfl (stM rfl (stM rfl (st (.addI (.t rfl) (.t rfl) (by omega) (by omega)) rfl (st (.addI (.t rfl) (.cI 1 rfl) (by omega) (by omega)) rfl (stM rfl (stM rfl (st (.subU' (.cU 64 rfl) (.t rfl) (by omega) (by omega)) rfl (st (.shrUU (.t rfl) (.t rfl) (by exact xB _ _)) rfl (st (.eq (.ixWin zh zp (.t rfl) (.t rfl) (by omega)) (qG (by exact aS))) rfl (.storeM (.t rfl) (.t rfl) (i:=0) rfl zp (by simp only[Int.toNat_natCast,List.length_set,List.length_replicate];omega) (M':=[(_,_)]) rfl ?_)))))))))))
    refine nl (.bln (.nk k12 (.region (st (.addI (.t rfl) (.cI 1 rfl) (by omega) (by omega)) rfl (stM rfl (nl (.thn (hK9 (⟨i+1,by omega⟩) _ _ ?_ (Cv.mem (.c 32 rfl ?_ (.l [4,5,6,7,8,30,31] rfl)) ?_)))))))))
    ·show (List.length (zA (val xs)))-(i+1)<(List.length (zA (val xs)))-i;omega
    ·rfl
    ·exact qy (by rw[ek,mG (by omega) rfl];exact uj (by omega) (by omega) (by omega) rfl)
   ·refine .skip (.bln (.nk k12 (.region (st (.addI (.t rfl) (.cI 1 rfl) (by omega) (by omega)) rfl (stM rfl (nl (.thn (hK9 (⟨i+1,by omega⟩) _ _ ?_ (Cv.mem (.c 32 rfl ?_ (.l [4,5,6,7,8,30,31] rfl)) ?_)))))))))
    ·show (List.length (zA (val xs)))-(i+1)<(List.length (zA (val xs)))-i;omega
    ·rfl
    ·exact qy (by rw[ek,mG (by omega) rfl];exact um (by omega) (by omega))
  ·refine .exit (.the (.the (.blh (.nk k7 (.w [4,5,8] rfl (.sq fun k16=>.cv (Cv.freeze' (t:=8) (i:=0) (ys:=zT ((List.length (zA (val xs)))+k/64+1) (val xs%W^i*2^k)) rfl rfl rfl (by simp;omega) (aU (by rw[wl]))) ?_))))))
   refine .memEq (M':=[]) rfl (.w [4,5,8] rfl (.region (stM rfl (st (.call (vc) (.cons (.t rfl) .nil)) rfl (stM rfl (st (.as (.cB true)) rfl (nkQ k16 (.ret (rtN (.inl rfl) Tryz.results129 rfl rfl (.tmp (Has.t' rfl ?_) (.tmp (Has.t' rfl ?_) .nil)))))))))))
   ·obtain rfl:i=(List.length (zA (val xs))):=(by omega);exact qJ (zHM rfl)
   ·rfl
theorem zDT {xs:List Nat} {k:Nat} (hk:k<9223372036854775808) (hx:(List.length (zA (val xs)))<4294900000):Ctr Tryz.prog 131 [zD xs,isI (k:Int)] (zZ [zD (zA (val xs/2^k)),isB true]):=by
 refine Ctr.i Tryz.func131 rfl Tryz.ntmps131 fun w0 F0=>.w [0,1] rfl (.fact (Has.lenLt (Has.t (t:=0) rfl)) fun lt0=>.fact (Has.okW (Has.t (t:=0) rfl)) fun ok0=>.fact (Has.rngI (Has.t (t:=1) rfl)) fun lt1=>?_)
 have e1:((k:Int)/64)=((k/64:Nat):Int):=by omega
 have e2:((k:Int)%64).toNat=k%64:=by omega
 have nX:=zIC (val xs) (k/64)
 refine .sr fun k1=>st (.as (.cW (f:=isU))) rfl (st (.as (.cB false)) rfl (nkQ k1 (.sq fun k2=>.sr fun k3=>stM rfl (st (.ltI (.t rfl) (.cI 0 rfl)) rfl (nkQ k3 (.cd rfl (fun hc1=>?_) (fun hc1=>?_)))))))
 ·exfalso;first|omega|contradiction|(revert hc1;simp)
 ·refine .skip (.nk k2 (.sr fun k4=>stM rfl (st (.call (xR) (.cons (.t rfl) .nil)) rfl (stM rfl (nkQ k4 (.sr fun k5=>stM rfl (st (.eq (.quoI (.t rfl) (.cI 64 rfl) (by omega) (by omega) (by omega)) (zF e1)) rfl (stM rfl (st (.remI (.t rfl) (.cI 64 rfl) (by omega) (by omega) (by omega)) rfl (st (.eq (.convIU un3 uQ (.t rfl) (by omega) (by omega)) (zV e2)) rfl (stM rfl (stM rfl (nkQ k5 (.w [0,4,5,6,7] rfl (.sq fun k6=>.sr fun k7=>stM rfl (stM rfl (st (.len zh (.t rfl)) rfl (st (.geI (.t rfl) (.t rfl)) rfl (nkQ k7 (.cd rfl (fun hc2=>?_) (fun hc2=>?_)))))))))))))))))))))
  ·refine .sr fun k8=>st (.as (.cW (f:=isU))) rfl (st (.as (.cB true)) rfl (nkQ k8 (.ret (.thr (rtN (.inl rfl) Tryz.results131 rfl rfl (.tmp (Has.t' rfl ?_) (.tmp (Has.t' rfl ?_) .nil)))))))
   ·exact qJ (uh (by omega))
   ·rfl
  ·refine .skip (.nk k6 (.sr fun k9=>stM rfl (stM rfl (st (.eq (.slLM zh zp (.t rfl) (.t rfl) (by omega)) (qJ (gh (val xs) (k/64)))) rfl (stM rfl (nkQ k9 (.w [0,4,5,7] rfl (.sr fun k10=>stM rfl (st (.len zh (.t rfl)) rfl (.make (f:=isU) (u:=0) (n:=(List.length (zA (val xs/W^(k/64))))) (c:=(List.length (zA (val xs/W^(k/64))))) zh zp jL (fun _ _=>⟨⟨rfl,by decide⟩,trivial⟩) hH (Has.t' rfl rfl) (Has.t' rfl rfl) (by omega) rfl fun b1=>stM rfl (nkQ k10 (.sq fun k11=>.sr fun k12=>stM rfl (st (.len zh (.t rfl)) rfl (st (.mv (.cI 0 rfl)) rfl (nkQ k12 (.block (.loopF [0,4,5,7,8,30,31] (fun (z:{ i:Nat//i≤(List.length (zA (val xs/W^(k/64)))) })=>match z with|⟨i,hI⟩=>[(32,isI (i:Int))]) (fun M=>fun (z:{ i:Nat//i≤(List.length (zA (val xs/W^(k/64)))) })=>match z with|⟨i,hI⟩=>[(some b1,zC (List.map isU (xO ((val xs/W^(k/64))/2^(k%64)) i ((List.length (zA (val xs/W^(k/64))))))))]) (fun (z:{ i:Nat//i≤(List.length (zA (val xs/W^(k/64)))) })=>match z with|⟨i,hI⟩=>(List.length (zA (val xs/W^(k/64))))-i) (⟨0,Nat.zero_le _⟩) (Cv.mem (.c 32 rfl ?_ (.l [0,4,5,7,8,30,31] rfl)) ?_) ?_)))))))))))))))))
   ·rfl
   ·exact qy (cH _ _)
   rintro⟨i,hI⟩ K13 hK13
   refine .w [32,0,4,5,7,8,30,31] rfl (.memEq (M':=[(some b1,zC (List.map isU (xO ((val xs/W^(k/64))/2^(k%64)) i ((List.length (zA (val xs/W^(k/64))))))))]) rfl ?_)
   have wl:(xO ((val xs/W^(k/64))/2^(k%64)) i ((List.length (zA (val xs/W^(k/64)))))).length=(List.length (zA (val xs/W^(k/64)))):=bM (by omega)
   refine .sr fun k14=>st (.ltI (.t rfl) (.t rfl)) rfl (nkQ k14 (.sq fun k15=>.cd rfl (fun hc3=>?_) (fun hc3=>?_)))
   ·refine .skip (.nk k15 (.sq fun k16=>.block (.sr fun k17=>stM rfl (st (.ixP zh zp (.t rfl) (.t rfl) (by omega) (getD_some (d:=0) (by omega))) rfl (st (.eq (.loadP1 (.t rfl) zp) (zV (qH _ i))) rfl (stM rfl (stM rfl (nkQ k17 (.sr fun k18=>stM rfl (stM rfl (stM rfl (stM rfl (st (.shrUU (.t rfl) (.t rfl) (by exact xB _ _)) rfl (st (.eq (.ixWin zh zp (.t rfl) (.t rfl) (by omega)) (qG (by exact aS))) rfl (.storeM (.t rfl) (.t rfl) (i:=0) rfl zp (by omega) (M':=[(_,_)]) rfl (nkQ k18 (.sr fun k19=>stM rfl (st (.gtU (.t rfl) (.cU 0 rfl)) rfl (stM rfl (stT rfl rfl (fun hg=>.mv (.t rfl)) rfl ?_))))))))))))))))))))
    refine stT rfl rfl (fun hg=>have hg':=BP.t hg;OK1.addI (Has.g rfl hg) (.cI 1 rfl) (by omega) (by omega)) rfl ?_
    refine stT rfl rfl (fun hg=>.mv (.t rfl)) rfl (stT rfl rfl (fun hg=>.len zh (Has.g rfl hg)) rfl (stT rfl rfl (fun hg=>.ltI (Has.g rfl hg) (Has.g rfl hg)) rfl (st (.pickAnd (.t rfl) (fun h=>Has.g rfl h)) rfl (nkQ k19 (.cd rfl (fun hc4=>?_) (fun hc4=>?_))))))
    ·refine .dr (.m [] rfl (.m [] rfl (.so [52,53] rfl (.eq (.ixWin zh zp (.t rfl) (.t rfl) (by omega)) (qG (by exact aS))) (.so [54] rfl (.load1 (.t rfl) (i:=0) rfl zp (map_some (getD_some (d:=0) (by simp only[Int.toNat_natCast,List.length_set];omega)))) ?_))))
     refine .m [] rfl (.m [] rfl (.so [57] rfl (.addI (.t rfl) (.cI 1 rfl) (by omega) (by omega)) ?_))
     refine .so [56,58] rfl (.ixP zh zp (.t rfl) (.t rfl) (by omega) (getD_some (d:=0) (by omega))) (.so [59] rfl (.eq (.loadP1 (.t rfl) zp) ((show isU _=isU (dig (val xs/W^(k/64)) (i+1)) from zV (qH _ (i+1))))) (.m [] rfl (.so [61] rfl (.subU' (.cU 64 rfl) (.t rfl) (by omega) (by omega)) ?_)))
     refine .so [60,62] rfl (.shlUU (.t rfl) (.t rfl) (by exact True.intro)) (.fn (n:=12) zW (.w [0,4,5,7,8,30,31,32,33,34,35,36,9,10,37,38,39,40,41,42,43,44,45,46,47,48,49,50,51,52,53,54,55,56,57,58,59,60,61,62,63] rfl (st (.orU (.t rfl) (.t rfl)) rfl (st (.eq (.ixWin zh zp (.t rfl) (.t rfl) (by omega)) (qG (by exact aS))) rfl (.storeM (.t rfl) (.t rfl) (i:=0) rfl zp (by simp only[Int.toNat_natCast,List.length_set,List.length_replicate];omega) (M':=[(_,_)]) rfl ?_)))))
     refine nl (.bln (.nk k16 (.region (st (.addI (.t rfl) (.cI 1 rfl) (by omega) (by omega)) rfl (stM rfl (nl (.thn (hK13 (⟨i+1,by omega⟩) _ _ ?_ (Cv.mem (.c 32 rfl ?_ (.l [0,4,5,7,8,30,31] rfl)) ?_)))))))))
     ·show (List.length (zA (val xs/W^(k/64))))-(i+1)<(List.length (zA (val xs/W^(k/64))))-i;omega
     ·rfl
     ·exact qy (sk (by omega) (by omega))
    ·refine .skip (.bln (.nk k16 (.region (st (.addI (.t rfl) (.cI 1 rfl) (by omega) (by omega)) rfl (stM rfl (nl (.thn (hK13 (⟨i+1,by omega⟩) _ _ ?_ (Cv.mem (.c 32 rfl ?_ (.l [0,4,5,7,8,30,31] rfl)) ?_)))))))))
     ·show (List.length (zA (val xs/W^(k/64))))-(i+1)<(List.length (zA (val xs/W^(k/64))))-i;omega
     ·rfl
     ·exact qy (sn (by omega) (by omega) rfl (by omega))
   ·refine .exit (.the (.the (.blh (.nk k11 (.w [4,5,8] rfl (.sq fun k20=>.cv (Cv.freeze' (t:=8) (i:=0) (ys:=zT ((List.length (zA (val xs/W^(k/64))))) ((val xs/W^(k/64))/2^(k%64))) rfl rfl rfl (by simp;omega) (kK (by omega))) ?_))))))
    refine .memEq (M':=[]) rfl (.w [4,5,8] rfl (.region (stM rfl (st (.call (vc) (.cons (.t rfl) .nil)) rfl (stM rfl (st (.as (.cB true)) rfl (nkQ k20 (.ret (rtN (.inl rfl) Tryz.results131 rfl rfl (.tmp (Has.t' rfl ?_) (.tmp (Has.t' rfl ?_) .nil)))))))))))
    ·exact qJ (zCZ rfl)
    ·rfl
theorem pO {xs:List Nat} (hx:xs.length≤4294967296):CtrO Tryz.prog 109 [zD xs] isU 0 xs:=by
 refine CtrO.intro Tryz.func109 rfl (by kernel_rfl) Tryz.ntmps109 rfl fun w0 F0=>.w [0] rfl (.fact (Has.lenLt (Has.t (t:=0) rfl)) fun lt0=>.fact (Has.okW (Has.t (t:=0) rfl)) fun ok0=>.sr fun k1=>st (.as (.cW (f:=isU))) rfl (nkQ k1 (.sq fun k2=>.sr fun k3=>stM rfl (.eqNil zh (.t rfl) rfl fun bn1 hn1=>nkQ k3 (.cd rfl (fun hc2=>?_) (fun hc2=>?_))))))
 ·refine .sr fun k4=>st (.as (.cW (f:=isU))) rfl (nkQ k4 (.ret (.thr (zHP (.inl rfl) Tryz.results109 rfl ?_ (.tmp (Has.t' rfl ?_) .nil)))))
  ·exact hn1 hc2
  ·rfl
 ·refine .skip (.nk k2 (.sr fun k5=>.buildS0 zh zp rfl (stM rfl (.appendO (f:=isU) (u:=0) zh zp jL (fun _ _=>⟨⟨rfl,by decide⟩,trivial⟩) hH (.t rfl) (.t rfl) (by omega) rfl (fun hO3=>?_) (fun hO3 b1 cb1 jb1=>?_)))))
  ·refine stM rfl (nkQ k5 (.w [2] rfl (.ret (zHP (.inl rfl) Tryz.results109 rfl ?_ (.tmp (Has.t' rfl ?_) .nil)))))
   ·exact hO3
   ·rfl
  ·refine stM rfl (nkQ k5 (.w [2] rfl (.ret (rtO1 (.inl rfl) Tryz.results109 rfl ?_ (b:=b1) (c:=cb1) (k:=jb1) (i:=0) ?_ (.tmp (Has.t' rfl ?_) .nil)))))
   ·exact hO3
   ·rfl
   ·rfl
theorem tF {A k c:Nat} (hA:A≠0):CtrM Tryz.prog 84 (fun b0=>[qW b0 0 ((List.length (zA A))) c]) (zC (List.map isU (zA A++List.replicate k 0))) (zC (List.map isU (zA A++List.replicate k 0))) (fun b0=>qW b0 0 ((List.length (zA A))) c):=by
 refine CtrM.intro Tryz.func84 rfl (by kernel_rfl) Tryz.ntmps84 (fun _=>rfl) fun w0 F0 b0=>.w [0] rfl (.fact (Has.lenLt (Has.t (t:=0) rfl)) fun lt0=>.fact (Has.winLe (Has.t (t:=0) rfl)) fun lw0=>?_)
 have nA:=wY hA
 refine .sr fun k1=>st (.as (.cW (f:=isU))) rfl (nkQ k1 (.sr fun k2=>stM rfl (st (.len zh (.t rfl)) rfl (stM rfl (nkQ k2 (.sq fun k3=>.block (.loopF [0,2] (fun (_:Unit)=>[(3,isI ((List.length (zA A)):Int))]) (fun M=>fun (_:Unit)=>M) (fun (_:Unit)=>0) (()) (Cv.mem (.c 3 rfl ?_ (.l [0,2] rfl)) ?_) ?_)))))))
 ·rfl
 ·rfl
 rintro _ K4 hK4
 refine .w [3,0,2] rfl (.sq fun k5=>.sr fun k6=>stM rfl (st (.gtI (.t rfl) (.cI 0 rfl)) rfl (stM rfl (stT rfl rfl (fun hg=>.mv (.t rfl)) rfl (stT rfl rfl (fun hg=>.mv (.t rfl)) rfl ?_)))))
 refine stT rfl rfl (fun hg=>have hg':=BP.t hg;OK1.subI (Has.g rfl hg) (.cI 1 rfl) (by omega) (by omega)) rfl ?_
 refine stT rfl rfl (fun hg=>have hg':=BP.t hg;OK1.eq (.ixWin zh zp (Has.g rfl hg) (Has.g rfl hg) (by omega)) (qG (by exact aS))) rfl ?_
 refine stT rfl rfl (fun hg=>have hg':=BP.t hg;OK1.load1 (Has.g rfl hg) (i:=0) rfl zp (map_some (getD_some (d:=0) (by simp only[List.length_append];omega)))) rfl ?_
 refine stT rfl rfl (fun hg=>.eqU (Has.g rfl hg) (.cU 0 rfl)) rfl (st (.pickAnd (.t rfl) (fun h=>Has.g rfl h)) rfl (nkQ k6 (.cd rfl (fun hc1=>?_) (fun hc1=>?_))))
 ·exact absurd hc1.2 (topW hA)
 ·refine .exit (.the (.the (.blh (.nk k3 (.w [0,2,3] rfl (.sr fun k7=>stM rfl (stM rfl (st (.slHWin zh zp (.t rfl) (.t rfl) ⟨by omega,by omega,by omega⟩) rfl (stM rfl (nkQ k7 (.w [2] rfl (.ret (zDG (.inl rfl) Tryz.results84 rfl (i:=0) ?_ (.tmp (Has.t' rfl ?_) .nil))))))))))))))
  all_goals (rfl)
theorem mV {A k c:Nat} (hA:A≠0):CtrM Tryz.prog 103 (fun b0=>[qW b0 0 ((List.length (zA A))) c]) (zC (List.map isU (zA A++List.replicate k 0))) (zC (List.map isU (zA A++List.replicate k 0))) (fun b0=>qW b0 0 ((List.length (zA A))) c):=by
 refine CtrM.intro Tryz.func103 rfl (by kernel_rfl) Tryz.ntmps103 (fun _=>rfl) fun w0 F0 b0=>.w [0] rfl (.fact (Has.lenLt (Has.t (t:=0) rfl)) fun lt0=>.fact (Has.winLe (Has.t (t:=0) rfl)) fun lw0=>?_)
 have nA:=wY hA
 refine .sr fun k1=>st (.as (.cW (f:=isU))) rfl (nkQ k1 (.sr fun k2=>stM rfl (.callM (tF hA) (i:=0) rfl (.cons (.t rfl) .nil) rfl (M':=[(_,_)]) rfl (stM rfl (nkQ k2 (.sq fun k3=>.sr fun k4=>stM rfl (st (.len zh (.t rfl)) rfl (st (.eqI (.t rfl) (.cI 0 rfl)) rfl (nkQ k4 (.cd rfl (fun hc1=>?_) (fun hc1=>?_)))))))))))
 ·exfalso;first|omega|contradiction|(revert hc1;simp)
 ·refine .skip (.nk k3 (.w [0,2] rfl (.sr fun k5=>stM rfl (stM rfl (nkQ k5 (.ret (zDG (.inl rfl) Tryz.results103 rfl (i:=0) ?_ (.tmp (Has.t' rfl ?_) .nil))))))))
  all_goals (rfl)
theorem tG {xs:List Nat} (hx:(List.length (zA (val xs)))≤4294967296):CtrO Tryz.prog 83 [zD xs] isU 0 (zA (val xs)):=by
 refine CtrO.intro Tryz.func83 rfl (by kernel_rfl) Tryz.ntmps83 rfl fun w0 F0=>.w [0] rfl (.fact (Has.lenLt (Has.t (t:=0) rfl)) fun lt0=>.fact (Has.okW (Has.t (t:=0) rfl)) fun ok0=>.sr fun k1=>st (.as (.cW (f:=isU))) rfl (nkQ k1 (.sr fun k2=>stM rfl (st (.call (xR) (.cons (.t rfl) .nil)) rfl (.callO (pO hx) (.cons (.t rfl) .nil) rfl (fun hO1=>?_) (fun hO1 b1 cb1 jb1=>?_))))))
 ·refine st (.call (vc (xs:=[])) (.cons (.t rfl) .nil)) rfl (stM rfl (nkQ k2 (.w [2] rfl (.ret (zHP (.inl rfl) Tryz.results83 rfl ?_ (.tmp (Has.t' rfl ?_) .nil))))))
  ·exact hO1
  ·exact qJ zJ
 ·refine .callM (mV (uI hO1)) (i:=0) rfl (.cons (.t rfl) .nil) rfl (M':=[(_,_)]) rfl (stM rfl (nkQ k2 (.w [2] rfl (.ret (rtO1 (.inl rfl) Tryz.results83 rfl ?_ (b:=b1) (c:=cb1) (k:=jb1) (i:=0) ?_ (.tmp (Has.t' rfl ?_) .nil))))))
  ·exact hO1
  ·rfl
  ·rfl
end Go.Proofs.YtchbfpcaibfkdaaGreat
