/- Rules and contracts, part 5 of 6. -/
import Derived.Test.YtchbfpcaibfkdaaGreatQGramReduces4
set_option linter.unusedVariables false
namespace Go.En
open Go.RowKit
section
variable {E : Env} {P : Program} {Γ : Ctx} {M : Mem} {ty : TypeId} {pos : String} {after : Array Edge} {gd : Option (Nat × Bool)} {d : Option Tmp}
 {ops : Array Oper} {Q : Exit → Act → World → Prop} {rest : List Oper} {T T' : TypeId} {x y : Operand} {α : Type} {fk : α → List VP} {xs : List α} {k : Nat}
def SlE (k:Nat) (fk:α→List VP) (xs:List α):VP:=⟨fun w F v=>0<xs.length∧xs.length≤maxLen∧∃b vs,v=.slice (some ⟨b,0,none⟩) xs.length xs.length∧F b∧All2 (xs.flatMap fk) w F vs∧∀(j:Nat) u,vs[j]?=some u→w.cell? ⟨b,j,none⟩=some u,
 fun w w' F F' v h h1 h2=>by
  obtain⟨g0,gm,b,vs,e,g1,g2,g3⟩:=h
  refine⟨g0,gm,b,vs,e,h2 b g1,All2.mono h1 h2 _ _ g2,fun j u hj=>?_⟩
  have:=g3 j u hj
  unfold World.cell? at this⊢
  rw[h1 b g1];exact this⟩
instance : One (SlE k fk xs):=⟨fun w F v h=>by obtain⟨_,_,b,vs,rfl,_⟩:=h;rfl⟩
instance : Shape (SlE k fk xs) [SlE k fk xs]:=.of_one inferInstance
theorem SlE.sl (w:World) (F:Blk) (v:Value) (h:(SlE k fk xs).h w F v) (hk:∀y,(fk y).length=k):(SlK k fk xs).h w F v:=by
 obtain⟨g0,gm,b,vs,e,g1,g2,g3⟩:=h
 refine⟨some ⟨b,0,none⟩,xs.length,e,Nat.le_refl _,gm,xa hk xs,.inr ⟨b,0,rfl,g1,vs,g2,fun j u hj=>?_⟩⟩
 rw[Nat.zero_add];exact g3 j u hj
theorem OK1.buildSE {T e:TypeId} {n m:Nat} {g:Bool} {z:Value} {ps:List (Nat×Operand)} (Z:List VP) (xs:List α) (hT:slB P T=some e) (ht:tyB P e=some (m,g)) (hz:qe P e=some z) (hZ:∀w F,All2 Z w F ((List.replicate n z.cells.toList).flatten)) (hnm:Nat.ble (n*m) 1000=true) (hn0:Nat.beq (n*m) 0=false)
    (h:Parts E Γ M (fun i=>some (i*m,m)) Z ps (xs.flatMap fk)) (hl:Nat.beq (xs.flatMap fk).length (n*m)=true) (hx:n=xs.length):OK1 E P Γ M ⟨d,.buildSlice T n ps.toArray,ty,pos,after,gd⟩ (SlE m fk xs):=by
  intro a w F s K Q hK
  have hu:=qw hT
  have hnm':=Nat.le_of_ble_eq_true hnm
  have hn0':=Nat.ne_of_beq_eq_false hn0
  have hm:(n*z.cells.size)=n*m:=by
    have h1:=(hZ w F).len
    have h2:=Nat.eq_of_beq_eq_true hl
    have h3:(xs.flatMap fk).length=Z.length:=by
      clear h1 h2 hK hZ hl
      generalize xs.flatMap fk=Z' at h
      induction h with
      | nil=>rfl
      | @cons Z Z' i off k x S0 Ss r sh a1 a2 a3 a4 _ ih=>
        rw[ih,jr _ _ _ (by have:=Nat.le_of_ble_eq_true a4;have:=Nat.eq_of_beq_eq_true a3;omega)]
        have:=Nat.le_of_ble_eq_true a4;have:=Nat.eq_of_beq_eq_true a3
        simp;omega
    simp at h1
    omega
  have hz0:z.cells.size=m:=by
    rcases Nat.eq_zero_or_pos n with h0|h0
    · subst h0;simp at hn0'
    · exact Nat.eq_of_mul_eq_mul_left h0 hm
  have hfl:((Array.range (n*m)).map fun j=>z.cells[j%z.cells.size]!)=((List.replicate n z.cells.toList).flatten).toArray:=vv hz0
  obtain⟨cells,h1,h2⟩:=h.fill s ((List.replicate n z.cells.toList).flatten).toArray (by simpa using hZ w F)
  have hr:(execOp a.eval (⟨d,.buildSlice T n ps.toArray,ty,pos,after,gd⟩:Oper)).run P w=.ok (.value (.slice (some ⟨w.heap.size,0,none⟩) n n)) { w with heap:=w.heap.push (.cells cells e) }:=by
    have hmap:(ps.toArray.map fun (p:Nat×Operand)=>(p.1,a.eval p.2)).toList=ps.map fun p=>(p.1,a.eval p.2):=by simp
    have hbig:¬n*m>2^24:=by omega
    simp only[execOp,Instr.buildSlice,Sem.run_bind,qd hu,Result.andThen_ok,qV ht,if_neg hbig,if_neg hn0',wu hz,Sem.run_pure,hmap,hfl,h1,newRow,run_newObj]
  unfold Oper.wp
  rw[hr]
  have ad:=kV s (.cells cells e)
  have h2':=All2.mono (ad.same s.flt) ad.sub _ _ h2
  have hnp:0<n:=by
    rcases Nat.eq_zero_or_pos n with h0|h0
    · subst h0;simp at hn0'
    · exact h0
  have hmp:0<m:=by
    rcases Nat.eq_zero_or_pos m with h0|h0
    · subst h0;simp at hn0'
    · exact h0
  refine hK _ _ _ ad ⟨by omega,?_,w.heap.size,cells.toList,by rw[hx],.inr rfl,h2',fun j u hj=>?_⟩
  · have:=Nat.le_mul_of_pos_right n hmp
    rw[qS];omega
  · show World.cell? { w with heap:=w.heap.push (.cells cells e) } ⟨w.heap.size,j,none⟩=some u
    simp only[World.cell?,Array.getElem?_push_size]
    simpa using hj
theorem Ops.appendE {d:Nat} {e:TypeId} {g0:Bool} {z:Value} {u:α} {ys zs:List α} (hk:∀y,(fk y).length=k) (hk0:0<k) (hT:slB P T=some e) (ht:tyB P e=some (k,g0)) (hz:qe P e=some z) (hZ:∀w F,All2 (fk u) w F z.cells.toList) (hby:jQ P e 1024=true)
  (hx:Has E Γ M x (SlE k fk ys)) (hy:Has E Γ M y (SlK k fk zs)) (hn':ys.length+zs.length≤4294967296) (h0:0<zs.length) (hd:Nat.blt d E.n=true)
  (kk:∀g':Gr α,Ops E P ops Q rest ((d,ze g' (ys.length+zs.length))::Γ) (zj fk g' (ys++zs)::M)):
  Ops E P ops Q (⟨some d,.call ⟨.builtin .append,#[x,y],#[T,T]⟩,ty,pos,after,none⟩::rest) Γ M:=by
 intro a w F s
 refine wpList_plain rfl fun K hK=>?_
 have hd':d<E.n:=by simpa [Nat.blt_eq] using hd
 obtain⟨a1,cap,e2,g1,g2,g3,g4⟩:=hy a w F s
 have hu:=qw hT
 obtain⟨inf,hi,hb⟩:∃i,P.info? e=some i∧i.bytes≤1024:=by
  unfold jQ at hby
  cases hi:P.info? e with
  | none=>simp[hi] at hby
  | some i=>rw[hi] at hby;exact⟨i,rfl,Nat.le_of_ble_eq_true hby⟩
 have hsz:inf.size=k:=by
  have:=qV (P:=P) (w:=w) ht
  simp[sizeOf,typeInfo,go_sem,hi] at this;exact this
 have hzz:inf.zero=some z:=by unfold qe at hz;rw[hi] at hz;simpa using hz
 have hone:z.cells.size=k:=by have:=(hZ w F).len;rw[hk] at this;simpa using this.symm
 have hzs:∀k,(Builtin.zeroCells z.cells k).toList=(List.replicate k z.cells.toList).flatten:=fun k=>by
  unfold Builtin.zeroCells
  rw[vv rfl]
 have hall:∀c,All2 ((List.replicate c u).flatMap fk) w F ((List.replicate c z.cells.toList).flatten):=fun c=>by rw[ct];exact (hZ w F).rep c
 rcases g4 with g4|⟨b1,off,rfl,hF,vs,hv,hc⟩
 ·omega
 have hlen:=hv.ofFlat hk
 have hnews:∀j u,vs[j]?=some u→w.cell? ((⟨b1,off,none⟩:Addr).add j)=some u:=fun j u hj=>by rw[xN];exact hc j u hj
 have hnl:vs.length=zs.length*inf.size:=by rw[hsz];exact hlen
 obtain⟨hy0,hym,b,us,e1,hFb,hus,hcu⟩:=hx a w F s
 have husl:=hus.ofFlat hk
 have hml:ys.length+zs.length≤maxLen:=by rw[qS];omega
 have hg:ys.length<ys.length+zs.length:=by omega
 have hcell:∀j u,us[j]?=some u→w.cell? ((⟨b,0,none⟩:Addr).add j)=some u:=fun j u hj=>by
  rw[xN,Nat.zero_add];exact hcu j u hj
 have hfit:Builtin.nextslicecap (ys.length+zs.length) ys.length*inf.bytes≤281474976710656:=by
  have h1:=nextslicecap_le hg
  have h2:=Nat.mul_le_mul (Nat.le_trans h1 (show 2*(ys.length+zs.length)≤8589934592 by omega)) hb
  omega
 have hr:=run_append_grow (P:=P) w T ty e inf z hu hi hzz ⟨b,0,none⟩ ys.length ys.length us (by rw[husl,hsz]) hcell ⟨b1,off,none⟩ zs.length cap vs hnl hnews hg (by omega) hfit
 have hf:K (a.put (some d) (.slice (some ⟨w.heap.size,0,none⟩) (ys.length+zs.length) (grownCap w (ys.length+zs.length) ys.length e))) { w with heap:=w.heap.push (.cells (us++vs++(Builtin.zeroCells z.cells (grownCap w (ys.length+zs.length) ys.length e-(ys.length+zs.length))).toList).toArray e),drawn:=w.drawn+1 }:=by
  obtain⟨cp,hcp⟩:∃cp,cp=grownCap w (ys.length+zs.length) ys.length e:=⟨_,rfl⟩
  have h1:ys.length+zs.length≤cp:=by rw[hcp];exact grownCap_ge _ _ _ _
  have h2:cp≤maxLen:=by rw[hcp];exact grownCap_le_maxLen _ _ _ _ hml
  rw[←hcp]
  have hcs:All2 ((ys++zs++List.replicate (cp-(ys.length+zs.length)) u).flatMap fk) w F (us++vs++(Builtin.zeroCells z.cells (cp-(ys.length+zs.length))).toList):=by
   rw[List.flatMap_append,List.flatMap_append,hzs];exact All2.append (All2.append hus hv) (hall _)
  have s1:=(s.adv (Adv.drew w F)).alloc (T:=e) (All2.mono (w:=w) (w':={ w with drawn:=w.drawn+1 }) (fun _ _=>rfl) (fun _ h=>h) _ _ hcs)
  refine hK _ _ (kk ⟨some w.heap.size,cp,List.replicate (cp-(ys.length+zs.length)) u⟩ _ _ F (s1.put hd' (.inr ⟨_,rfl,rfl,?_,h2⟩)))
  simp;omega
 have hr2:(execOp a.eval (⟨some d,.call ⟨.builtin .append,#[x,y],#[T,T]⟩,ty,pos,after,none⟩:Oper)).run P w=.ok (.value (.slice (some ⟨w.heap.size,0,none⟩) (ys.length+zs.length) (grownCap w (ys.length+zs.length) ys.length e))) { w with heap:=w.heap.push (.cells (us++vs++(Builtin.zeroCells z.cells (grownCap w (ys.length+zs.length) ys.length e-(ys.length+zs.length))).toList).toArray e),drawn:=w.drawn+1 }:=by
  have earr:us.toArray++vs.toArray++Builtin.zeroCells z.cells (grownCap w (ys.length+zs.length) ys.length e-(ys.length+zs.length))=(us++vs++(Builtin.zeroCells z.cells (grownCap w (ys.length+zs.length) ys.length e-(ys.length+zs.length))).toList).toArray:=by apply Array.ext';simp
  simp only[execOp,resolve,invoke,builtin,Sem.run_bind]
  rw[←earr]
  simp[e1,e2,Sem.run_bind,hr]
  first|rfl|exact⟨rfl,rfl⟩|done
 unfold Oper.wp
 rw[hr2]
 exact hf
end
end Go.En
namespace Go.Proofs.YtchbfpcaibfkdaaGreat
open Go.En Go.RowKit
set_option maxRecDepth 10000
set_option maxHeartbeats 4000000
open Go.Nt
open Go.Pz
open Go.Mz
open Go.Dt
open Go.Ll
theorem ou {R K:Nat} {xs:List (Bool×List Nat)} (hx:Bd (zG xs) K) (hK:K≤100000000) (hR1:1≤R) (hR:R≤64) (hl:xs.length=R*R) {bw:Nat} {x:Int} (hx0:cf (zG xs) 0=x):Ctr Tryz.prog 113 [qX bw 0,isM (R:Int) (R:Int) xs,isI 0,isI 0] (isZ x):=by
 refine Ctr.i Tryz.func113 rfl Tryz.ntmps113 fun w0 F0=>.w [0,1,2,3] rfl (.fact (Has.rngI (Has.t (t:=2) rfl)) fun lt2=>.fact (Has.rngI (Has.t (t:=3) rfl)) fun lt3=>.sr fun k1=>.box (.t rfl) rfl fun b1=>.alloc [isB false,SlM isU []] zK (fun _ _=>⟨rfl,nilM _ _,trivial⟩) rfl fun b2=>nkQ k1 (.sr fun k2=>st (.load (.t rfl) (i:=1) rfl zL rfl (Ss':=[_,_,_]) rfl) rfl (stM rfl (stM rfl (st (.eq (.call (cY (R:=R) (C:=R) (i:=0) (k:=0) hx (by omega) hR hR hl (by omega) (by omega)) (.cons (.t rfl) (.cons (.t rfl) (.cons (.t rfl) .nil)))) ((show isZ _=isZ x from zO (by rw[←hx0,Nat.zero_mul])))) rfl (.alloc [isB false,SlM isU []] zK (fun _ _=>⟨rfl,nilM _ _,trivial⟩) rfl fun b3=>.store (.t rfl) (.t rfl) (i:=0) rfl zE rfl rfl (Ss':=[_,_]) rfl (M':=[(some _,zC [_,_]),_,_]) rfl (nkQ k2 (.w [0,2,3,8,9] rfl (.sq fun k3=>.sr fun k4=>stM rfl (st (.mv (.cI 0 rfl)) rfl (nkQ k4 (.block (.loopF [0,2,3,8,9,15] (fun (_:Unit)=>[(16,isI 0)]) (fun M=>fun (_:Unit)=>M) (fun (_:Unit)=>0) (()) (Cv.mem (.c 16 rfl ?_ (.l [0,2,3,8,9,15] rfl)) ?_) ?_)))))))))))))
 ·rfl
 ·rfl
 rintro _ K5 hK5
 refine .w [16,0,2,3,8,9,15] rfl (.sr fun k6=>st (.ltI (.t rfl) (.t rfl)) rfl (nkQ k6 (.sq fun k7=>.cd rfl (fun hc1=>?_) (fun hc1=>?_))))
 ·exfalso;omega
 ·refine .exit (.the (.the (.blh (.nk k3 (.w [8,9] rfl (.sr fun k8=>st (.load (.t rfl) (i:=0) rfl zE rfl (Ss':=[_,_]) rfl) rfl (.store (.t rfl) (.t rfl) (i:=1) rfl zE rfl rfl (Ss':=[_,_]) rfl (M':=[_,(some _,zC [_,_]),_]) rfl (nkQ k8 (.ret (rt1 (.inl rfl) Tryz.results113 rfl (.cell rfl (i:=1) rfl zE rfl ?_ .nil)))))))))))
  all_goals (rfl)
theorem tS {n0 R K Kd:Nat} {A:zI} {xs:List (Bool×List Nat)} (hx:Bd (zG xs) K) (hR1:1≤R) (hR:R≤64) (hl:xs.length=R*R) (hG:∀i k,i<R→k<R→cf (zG xs) (i*R+k)=ip n0 (A i) (A k)) (hgw:∀i k,(List.length (zA (qj n0 A i k).natAbs))≤K) (hpos:∀t,t≤R→0<gd n0 A t) (hKd:∀j,j≤R→(j+1)*(K+(j+1))+1≤Kd) (hK:K≤100000000) (hKK:Kd≤100000000):CtrX Tryz.prog 93 [isM (R:Int) (R:Int) xs] ([]) (fun S M=>∃bw gd gl gu ds ls us,S=zZ [qX bw 0,isI 0]∧M=lwM bw R gd gl gu ds ls us false false [] [] 0∧BG n0 R A R ds ls us):=by
 refine CtrX.i Tryz.func93 rfl Tryz.ntmps93 fun w0 F0=>.w [0] rfl ?_
 have hfo:xc (R:Int) (R:Int) xs.length=true:=qK hR hR hl
 have hsy:∀i k,i<R→k<R→cf (zG xs) (i*R+k)=cf (zG xs) (k*R+i):=fun i k hi hk=>by rw[hG i k hi hk,hG k i hk hi,zf]
 have h00:cf (zG xs) 0=gd n0 A 1:=by have:=hG 0 0 (by omega) (by omega);rw[Nat.zero_mul] at this;rw[this,←ce,ee]
 have hp1:=hpos 1 (by omega)
 have hx1:(List.length (zA (gd n0 A 1).natAbs))≤K:=by rw[←h00];exact hx 0
 refine .sr fun k1=>.box (.t rfl) rfl fun b1=>st (.as Has.cP) rfl (st (.as (.cI 0 rfl)) rfl (nkQ k1 (.sq fun k2=>.block (.sr fun k3=>st (.load (.t rfl) (i:=0) rfl zL rfl (Ss':=[_,_,_]) rfl) rfl (st (.eq (.call (qO) (.cons (.t rfl) .nil)) ((show isB _=isB true from zl (hfo)))) rfl (st (.not (.t rfl)) rfl (stM rfl (stF rfl rfl (fun hg=>.fieldAddr (.t rfl) zY ty3) rfl (stF rfl rfl (fun hg=>.load1 (Has.g rfl hg) (i:=0) rfl ty3 rfl) rfl (stF rfl rfl (fun hg=>.fieldAddr (.t rfl) zo ty3) rfl (stF rfl rfl (fun hg=>.load1 (Has.g rfl hg) (i:=0) rfl ty3 rfl) rfl (stF rfl rfl (fun hg=>.neI (Has.g rfl hg) (Has.g rfl hg)) rfl (st (.pickOr (.t rfl) (fun h=>Has.g rfl (ng h))) rfl (stM rfl (nkQ k3 (.w [1,2,3,8] rfl (.cd rfl (fun hc1=>?_) (fun hc1=>?_))))))))))))))))))
 ·exfalso;simp at hc1
 ·refine .sr fun k4=>st (.load (.t rfl) (i:=0) rfl zL rfl (Ss':=[_,_,_]) rfl) rfl (st (.call (re hx hK hR hl hsy) (.cons (.t rfl) .nil)) rfl (st (.not (.t rfl)) rfl (stM rfl (nkQ k4 (.cd rfl (fun hc2=>?_) (fun hc2=>?_))))))
  ·exfalso;simp at hc2
  ·refine .skip (.bln (.nk k2 (.w [1,2,3] rfl (.sq fun k5=>.dr (.so [] rfl (.fieldAddr (.t rfl) zY ty3) (.so [23] rfl (.load1 (.t rfl) (i:=0) rfl ty3 rfl) (.so [] rfl (.call (xC) (.cons (.cI 1 rfl) .nil)) (.so [25] rfl (.buildSE (fk:=zc) [isB false,SlM isU []] ([nz 1]) zz zE zK (fun _ _=>⟨rfl,nilM _ _,trivial⟩) rfl rfl (.cons (.t rfl) rfl rfl rfl .nil) rfl rfl) (.fn (n:=4) zW (.w [1,2,3,24,26] rfl (st (.build [isI 0,zi,zi,zi,isB false,SlM isU [],isB false,SlM isU [],isI 0] pl96 tw (fun _ _=>⟨⟨rfl,by decide,by decide⟩,rfl,rfl,rfl,rfl,nilM _ _,rfl,nilM _ _,⟨rfl,by decide,by decide⟩,trivial⟩) (.cons (.t rfl) rfl rfl rfl (.cons (.t rfl) rfl rfl rfl .nil)) (Z'':=[_,_,_,_,_,_,_,_,_]) rfl) rfl (.box (.t rfl) rfl fun b2=>stM rfl (nkQ k5 (.sq fun k6=>.sr fun k7=>st (.fieldAddr (.t rfl) zY ty3) rfl (st (.load1 (.t rfl) (i:=1) rfl ty3 rfl) rfl (st (.mv (.cI 0 rfl)) rfl (nkQ k7 (.w [1,2,3,4,30,31] rfl (.block (.loopF [1,4,30] (fun (z:Option { y:Nat×Gr (Bool×List Nat)×Gr Row×Gr Row×List Int×List Row×List Row//(1≤y.1∧y.1≤R)∧BG n0 R A y.1 y.2.2.2.2.1 y.2.2.2.2.2.1 y.2.2.2.2.2.2 })=>match z with|none=>[(31,isI 0)]|some ⟨(i,gd,gl,gu,ds,ls,us),_⟩=>[(31,isI (i:Int))]) (fun M=>fun (z:Option { y:Nat×Gr (Bool×List Nat)×Gr Row×Gr Row×List Int×List Row×List Row//(1≤y.1∧y.1≤R)∧BG n0 R A y.1 y.2.2.2.2.1 y.2.2.2.2.2.1 y.2.2.2.2.2.2 })=>match z with|none=>[(some b2,zC [isI (R:Int),SlE 2 zc [nz 1],zi,zi,isB false,SlM isU [],isB false,SlM isU [],isI 0]),(some b1,zC [isI (R:Int),isI (R:Int),SlK 2 zc xs])]|some ⟨(i,gd,gl,gu,ds,ls,us),_⟩=>(some b2,zC [isI (R:Int),ze gd (ds.map nz).length,ze gl ls.length,ze gu us.length,isB false,zD [],isB false,zD [],isI 0])::zj zc gd (ds.map nz)::grM qQ gl ls::grM qQ gu us::(some b1,zC [isI (R:Int),isI (R:Int),SlK 2 zc xs])::(ls++us).map qo) (fun (z:Option { y:Nat×Gr (Bool×List Nat)×Gr Row×Gr Row×List Int×List Row×List Row//(1≤y.1∧y.1≤R)∧BG n0 R A y.1 y.2.2.2.2.1 y.2.2.2.2.2.1 y.2.2.2.2.2.2 })=>match z with|none=>R|some ⟨(i,_,_,_,_,_,_),_⟩=>R-i) (none) (Cv.mem (.c 31 rfl ?_ (.l [1,4,30] rfl)) ?_) ?_))))))))))))))))))))
   ·rfl
   ·rfl
   intro z K8 hK8
   rcases z with _|⟨⟨i,gd,gl,gu,ds,ls,us⟩,⟨hi1,hiR⟩,hB⟩
   ·refine .w [31,1,4,30] rfl (.memEq (M':=[(some b2,zC [isI (R:Int),SlE 2 zc [nz 1],zi,zi,isB false,SlM isU [],isB false,SlM isU [],isI 0]),(some b1,zC [isI (R:Int),isI (R:Int),SlK 2 zc xs])]) rfl (.sr fun k9=>st (.ltI (.t rfl) (.t rfl)) rfl (nkQ k9 (.sq fun k10=>.cd rfl (fun hc3=>?_) (fun hc3=>?_)))))
    ·refine .skip (.nk k10 (.sq fun k11=>.block (.sr fun k12=>stM rfl (stM rfl (nkQ k12 (.sq fun k13=>.cv (Cv.growF (Row) (i:=0) (o:=2) rfl rfl rfl) (.memEq (M':=[grM qQ Gr.nil [],_,_]) rfl (.dry zW (.u 0 rfl (.mv (.t rfl)) (.u 1 rfl (.mv (.t rfl)) (.u 2 rfl (.nilc (.t rfl)) (.u 3 rfl (.fieldAddr (.t rfl) qa zu) (.u 5 rfl (.fieldAddr (.t rfl) zY ty3) (.tl 4 rfl rfl rfl rfl (OKL.load1 (.t rfl) (i:=1) rfl zu rfl) (.go [] (.fn [6,7,8,9,10,11,12] (.w [1,4,30,31,32,33,5,34,35,36,37,39,38] rfl (st (.load1 (.t rfl) (i:=2) rfl ty3 rfl) rfl (.makeK (fk:=zc) (u:=(false,[])) (n:=R) (c:=R) zz zE zK (fun _ _=>⟨rfl,nilM _ _,trivial⟩) zN cT (Has.t' rfl rfl) (Has.t' rfl rfl) (by omega) rfl fun b3=>.cv (Cv.trans (Cv.winRow (t:=41) (i:=0) (ys:=(List.replicate R (0:Int)).map nz) rfl rfl (kw R) (by rw[List.length_map,List.length_replicate])) (Cv.memEq (M':=[(zj zc (⟨some b3,R,[]⟩:Gr (Bool×List Nat)) ((List.replicate R (0:Int)).map nz)),_,_,_]) rfl)) (st (.buildS [zi] qn zP wU (fun _ _=>⟨rfl,trivial⟩) rfl rfl (.cons (.t rfl) rfl rfl rfl .nil) rfl (S:=SlM qQ [((⟨some b3,R,[]⟩:Gr (Bool×List Nat)),(List.replicate R (0:Int)))]) rfl) rfl (.appendG (f:=qQ) (u:=(Gr.nil,[])) qn zP wU (fun _ _=>⟨gr0,trivial⟩) (fun _=>inferInstance) zBU (.t rfl) (i:=1) rfl (.t rfl) (by simp only[List.length_cons,List.length_nil];omega) (by simp) rfl fun gr2=>?_)))))))))))))))))))))
     refine .memEq (M':=[_,grM _ _ _,_,_]) rfl (st (.nilc (.t rfl)) rfl (st (.fieldAddr (.t rfl) qa zu) rfl (.store (.t rfl) (.t rfl) (i:=2) rfl zu rfl rfl (Ss':=[_,_,_,_,_,_,_,_,_]) rfl (M':=[_,_,(some _,zC [_,_,_,_,_,_,_,_,_]),_]) rfl (nkQ k13 (.sq fun k14=>.cv (Cv.growF (Row) (i:=2) (o:=3) rfl rfl rfl) (.memEq (M':=[grM qQ Gr.nil [],_,_,_,_]) rfl (.dry zW (.u 0 rfl (.mv (.t rfl)) (.u 1 rfl (.mv (.t rfl)) (.u 2 rfl (.nilc (.t rfl)) (.u 3 rfl (.fieldAddr (.t rfl) xk zu) (.u 5 rfl (.fieldAddr (.t rfl) zY ty3) (.tl 4 rfl rfl rfl rfl (OKL.load1 (.t rfl) (i:=3) rfl zu rfl) (.go [] (.fn [6,7,8,9,10,11,12] (.w [1,4,30,31,32,33,5,34,35,36,37,39,38,40,41,42,43,44,45,46,47,48,49,51,50] rfl (st (.load1 (.t rfl) (i:=4) rfl ty3 rfl) rfl (.makeK (fk:=zc) (u:=(false,[])) (n:=R) (c:=R) zz zE zK (fun _ _=>⟨rfl,nilM _ _,trivial⟩) zN cT (Has.t' rfl rfl) (Has.t' rfl rfl) (by omega) rfl fun b4=>.cv (Cv.trans (Cv.winRow (t:=53) (i:=0) (ys:=(List.replicate R (0:Int)).map nz) rfl rfl (kw R) (by rw[List.length_map,List.length_replicate])) (Cv.memEq (M':=[(zj zc (⟨some b4,R,[]⟩:Gr (Bool×List Nat)) ((List.replicate R (0:Int)).map nz)),_,_,_,_,_]) rfl)) (st (.buildS [zi] qn zP wU (fun _ _=>⟨rfl,trivial⟩) rfl rfl (.cons (.t rfl) rfl rfl rfl .nil) rfl (S:=SlM qQ [((⟨some b4,R,[]⟩:Gr (Bool×List Nat)),(List.replicate R (0:Int)))]) rfl) rfl (.appendG (f:=qQ) (u:=(Gr.nil,[])) qn zP wU (fun _ _=>⟨gr0,trivial⟩) (fun _=>inferInstance) zBU (.t rfl) (i:=1) rfl (.t rfl) (by simp only[List.length_cons,List.length_nil];omega) (by simp) rfl fun gr3=>?_))))))))))))))))))))
     refine .memEq (M':=[_,grM _ _ _,_,_,_,_]) rfl (st (.nilc (.t rfl)) rfl (st (.fieldAddr (.t rfl) xk zu) rfl (.store (.t rfl) (.t rfl) (i:=4) rfl zu rfl rfl (Ss':=[_,_,_,_,_,_,_,_,_]) rfl (M':=[_,_,_,_,(some _,zC [_,_,_,_,_,_,_,_,_]),_]) rfl (nkQ k14 (.sq fun k15=>.dr (.m [] rfl (.so [58] rfl (.nilc (.t rfl)) (.so [59] rfl (.fieldAddr (.t rfl) xk zu) (.so [60] rfl (.load1 (.t rfl) (i:=4) rfl zu rfl) (.m [] rfl ?_))))))))))
     refine .so [61,62] rfl (.ixGr qn zP (.t rfl) (.t rfl) ⟨by decide,by show (0:Int)<1;decide⟩) ?_
     refine .so [63] rfl (.loadGM (.t rfl) (i:=1) rfl zP rfl) (.m [] rfl (.so [] rfl (.call (xC) (.cons (.cI 1 rfl) .nil)) (.fn (n:=9) zW (.w [1,4,30,31,32,33,5,34,35,36,37,39,38,40,41,42,43,44,45,46,47,48,49,51,50,52,53,54,55,56,57,58,59,60,61,62,63,64,65,66] rfl ?_))))
     refine st (.ixGr zz zE (.t rfl) (.t rfl) ⟨by decide,by rw[List.length_map,List.length_replicate];omega⟩) rfl ?_
     refine .storeGK (z:=nz 1) zN (.t rfl) (.t rfl) (i:=0) rfl zE (by rw[List.length_map,List.length_replicate];omega) (M':=[zj _ _ _,_,_,_,_,_]) rfl ?_
     refine nkQ k15 (.sq fun k16=>.sr fun k17=>stM rfl (st (.mv (.cI 0 rfl)) rfl (nkQ k17 (.block (.loopF [1,4,30,31,32,33,5,34,35,36,37,39,38,40,41,42,43,44,45,46,47,48,49,51,50,52,53,54,55,56,57,58,59,60,61,62,63,64,65,66,67,68] (fun (_:Unit)=>[(69,isI 0)]) (fun M=>fun (_:Unit)=>M) (fun (_:Unit)=>0) (()) (Cv.mem (.c 69 rfl ?_ (.l [1,4,30,31,32,33,5,34,35,36,37,39,38,40,41,42,43,44,45,46,47,48,49,51,50,52,53,54,55,56,57,58,59,60,61,62,63,64,65,66,67,68] rfl)) ?_) ?_)))))
     ·rfl
     ·rfl
     rintro _ K18 hK18
     refine .w [69,1,4,30,31,32,33,5,34,35,36,37,39,38,40,41,42,43,44,45,46,47,48,49,51,50,52,53,54,55,56,57,58,59,60,61,62,63,64,65,66,67,68] rfl (.sr fun k19=>st (.ltI (.t rfl) (.t rfl)) rfl (nkQ k19 (.sq fun k20=>.cd rfl (fun hc4=>?_) (fun hc4=>?_))))
     ·exfalso;omega
     ·refine .exit (.the (.the (.blh (.nk k16 (.sr fun k21=>stM rfl (st (.load (.t rfl) (i:=5) rfl zL rfl (Ss':=[_,_,_]) rfl) rfl (stM rfl (stM rfl (st (.call (ou hx hK hR1 hR hl h00) (.cons (.t rfl) (.cons (.t rfl) (.cons (.t rfl) (.cons (.t rfl) .nil))))) rfl (.alloc [isB false,SlM isU []] zK (fun _ _=>⟨rfl,nilM _ _,trivial⟩) rfl fun b5=>.store (.t rfl) (.t rfl) (i:=0) rfl zE rfl rfl (Ss':=[_,_]) rfl (M':=[(some _,zC [_,_]),_,_,_,_,_,_]) rfl (nkQ k21 (.sq fun k22=>.sr fun k23=>st (.load (.t rfl) (i:=0) rfl zE rfl (Ss':=[_,_]) rfl) rfl (st (.call (qC (by rw[zB];omega)) (.cons (.t rfl) .nil)) rfl ?_)))))))))))))
      refine st (.leI (.t rfl) (.cI 0 rfl)) rfl (nkQ k23 (.cd rfl (fun hc5=>?_) (fun hc5=>?_)))
      ·exfalso;rw[zH] at hc5;rcases qR (gd n0 A 1) with h|h|h <;> omega
      ·refine .skip (.nk k22 (.dry zW (.u 0 rfl (.mv (.t rfl)) (.u 1 rfl (.mv (.t rfl)) (.u 2 rfl (.nilc (.t rfl)) (.u 3 rfl (.fieldAddr (.t rfl) xG zP) (.tl 4 rfl rfl rfl rfl (OKL.load1 (.t rfl) (i:=5) rfl zP rfl) (.go [] (.fn [5,6,7,8,9,10] (.w [1,4,30,31,32,33,5,34,35,36,37,39,38,40,41,42,43,44,45,46,47,48,49,51,50,52,53,54,55,56,57,58,59,60,61,62,63,64,65,66,67,68,69,70,87,88,89,90,91,7,92,93,94,95,96,97,98,99] rfl (st (.load (.t rfl) (i:=0) rfl zE rfl (Ss':=[_,_]) rfl) rfl (st (.buildS [isB false,SlM isU []] zz zE zK (fun _ _=>⟨rfl,nilM _ _,trivial⟩) rfl rfl (.cons (.t rfl) rfl rfl rfl .nil) rfl (S:=SlK 2 zc [nz (gd n0 A 1)]) rfl) rfl (.appendE (fk:=zc) (u:=(false,[])) zN (by decide) zz zE zK (fun _ _=>⟨rfl,nilM _ _,trivial⟩) cT (.t rfl) (.t rfl) (by simp only[List.length_cons,List.length_nil];omega) (by simp) rfl fun gr4=>?_)))))))))))))
       refine st (.nilc (.t rfl)) rfl (st (.fieldAddr (.t rfl) xG zP) rfl (.store (.t rfl) (.t rfl) (i:=6) rfl zP rfl rfl (Ss':=[_,_,_,_,_,_,_,_,_]) rfl (M':=[_,_,_,_,_,_,(some _,zC [_,_,_,_,_,_,_,_,_]),_]) rfl (nl (.bln (.nk k11 (.region (st (.addI (.t rfl) (.cI 1 rfl) (by first|omega|assumption) (by first|omega|assumption)) rfl (stM rfl (nl (.thn (hK8 (some ⟨(1,gr4,gr2,gr3,[1]++[gd n0 A 1],[]++[((⟨some b3,R,[]⟩:Gr (Bool×List Nat)),xJ n0 R A 0 0)],[]++[((⟨some b4,R,[]⟩:Gr (Bool×List Nat)),xv R 0)]),⟨Nat.le_refl _,hR1⟩,(BG.first n0 R A).next _ _⟩) _ _ ?_ (Cv.trans (Cv.trans (Cv.drop (.cons_cons _ (.cons _ (List.Sublist.refl _)))) (Cv.perm tM)) (Cv.mem (.c 31 rfl ?_ (.l [1,4,30] rfl)) ?_)))))))))))))
       ·first|(show R-1<R;omega)|(show R-(i+1)<R-i;omega)
       ·rfl
       ·exact tO
    ·exfalso;omega
   ·refine .w [31,1,4,30] rfl (.memEq (M':=((some b2,zC [isI (R:Int),ze gd (ds.map nz).length,ze gl ls.length,ze gu us.length,isB false,zD [],isB false,zD [],isI 0])::zj zc gd (ds.map nz)::grM qQ gl ls::grM qQ gu us::(some b1,zC [isI (R:Int),isI (R:Int),SlK 2 zc xs])::(ls++us).map qo)) rfl ?_)
    simp only[] at hi1 hiR hB
    have hll:=hB.ll
    have hul:=hB.ul
    have hdl:=hB.dl
    have hdL:(ds.map nz).length=i+1:=by rw[List.length_map,hdl]
    have hdb:Bd ds Kd:=hB.dbK hiR hgw hKd
    have hlb:∀t,t<R→∀(k:Nat) {l:List Int},l=xJ n0 R A t k→Bd l Kd:=fun t ht k l e=>e▸zEE hgw hKd
    refine .sr fun k24=>st (.ltI (.t rfl) (.t rfl)) rfl (nkQ k24 (.sq fun k25=>.cd rfl (fun hc6=>?_) (fun hc6=>?_)))
    ·have hxiw:(List.length (zA (xe n0 A i i i).natAbs))≤Kd:=Nat.le_trans (fU hgw i i i) (hKd i (by omega))
     have hxip:0<(xe n0 A i i i):=hpos (i+1) (by omega)
     refine .skip (.nk k25 (.sq fun k26=>.block (.sr fun k27=>stM rfl (stM rfl (nkQ k27 (.sq fun k28=>.dry zW (.u 0 rfl (.mv (.t rfl)) (.u 1 rfl (.mv (.t rfl)) (.u 2 rfl (.nilc (.t rfl)) (.u 3 rfl (.fieldAddr (.t rfl) qa zu) (.u 5 rfl (.fieldAddr (.t rfl) zY ty3) (.tl 4 rfl rfl rfl rfl (OKL.load1 (.t rfl) (i:=0) rfl zu rfl) (.go [] (.fn [6,7,8,9,10,11,12] (.w [1,4,30,31,32,33,5,34,35,36,37,39,38] rfl (st (.load1 (.t rfl) (i:=4) rfl ty3 rfl) rfl (.makeK (fk:=zc) (u:=(false,[])) (n:=R) (c:=R) zz zE zK (fun _ _=>⟨rfl,nilM _ _,trivial⟩) zN cT (Has.t' rfl rfl) (Has.t' rfl rfl) (by omega) rfl fun b6=>.cv (Cv.trans (Cv.winRow (t:=41) (i:=0) (ys:=(List.replicate R (0:Int)).map nz) rfl rfl (kw R) (by rw[List.length_map,List.length_replicate])) (Cv.memEq (M':=((zj zc (⟨some b6,R,[]⟩:Gr (Bool×List Nat)) ((List.replicate R (0:Int)).map nz))::_::_::_::_::_::_)) rfl)) (st (.buildS [zi] qn zP wU (fun _ _=>⟨rfl,trivial⟩) rfl rfl (.cons (.t rfl) rfl rfl rfl .nil) rfl (S:=SlM qQ [((⟨some b6,R,[]⟩:Gr (Bool×List Nat)),(List.replicate R (0:Int)))]) rfl) rfl (.appendG (f:=qQ) (u:=(Gr.nil,[])) qn zP wU (fun _ _=>⟨gr0,trivial⟩) (fun _=>inferInstance) zBU (.t rfl) (i:=3) rfl (.t rfl) (by show ls.length+1≤_;omega) (by simp) rfl fun gr5=>?_)))))))))))))))))))
     refine .memEq (M':=(_::_::_::grM _ _ _::_::_::_)) rfl (st (.nilc (.t rfl)) rfl (st (.fieldAddr (.t rfl) qa zu) rfl (.store (.t rfl) (.t rfl) (i:=1) rfl zu rfl rfl (Ss':=[_,_,_,_,_,_,_,_,_]) rfl (M':=(_::(some _,zC [_,_,_,_,_,_,_,_,_])::_::_::_::_::_)) rfl (nkQ k28 (.sq fun k29=>.dry zW (.u 0 rfl (.mv (.t rfl)) (.u 1 rfl (.mv (.t rfl)) (.u 2 rfl (.nilc (.t rfl)) (.u 3 rfl (.fieldAddr (.t rfl) xk zu) (.u 5 rfl (.fieldAddr (.t rfl) zY ty3) (.tl 4 rfl rfl rfl rfl (OKL.load1 (.t rfl) (i:=1) rfl zu rfl) (.go [] (.fn [6,7,8,9,10,11,12] (.w [1,4,30,31,32,33,5,34,35,36,37,39,38,40,41,42,43,44,45,46,47,48,49,51,50] rfl (st (.load1 (.t rfl) (i:=5) rfl ty3 rfl) rfl (.makeK (fk:=zc) (u:=(false,[])) (n:=R) (c:=R) zz zE zK (fun _ _=>⟨rfl,nilM _ _,trivial⟩) zN cT (Has.t' rfl rfl) (Has.t' rfl rfl) (by omega) rfl fun b7=>.cv (Cv.trans (Cv.winRow (t:=53) (i:=0) (ys:=(List.replicate R (0:Int)).map nz) rfl rfl (kw R) (by rw[List.length_map,List.length_replicate])) (Cv.memEq (M':=((zj zc (⟨some b7,R,[]⟩:Gr (Bool×List Nat)) ((List.replicate R (0:Int)).map nz))::_::_::_::_::_::_::_)) rfl)) (st (.buildS [zi] qn zP wU (fun _ _=>⟨rfl,trivial⟩) rfl rfl (.cons (.t rfl) rfl rfl rfl .nil) rfl (S:=SlM qQ [((⟨some b7,R,[]⟩:Gr (Bool×List Nat)),(List.replicate R (0:Int)))]) rfl) rfl (.appendG (f:=qQ) (u:=(Gr.nil,[])) qn zP wU (fun _ _=>⟨gr0,trivial⟩) (fun _=>inferInstance) zBU (.t rfl) (i:=5) rfl (.t rfl) (by show us.length+1≤_;omega) (by simp) rfl fun gr6=>?_))))))))))))))))))
     refine .memEq (M':=(_::_::_::_::_::grM _ _ _::_::_)) rfl (st (.nilc (.t rfl)) rfl (st (.fieldAddr (.t rfl) xk zu) rfl (.store (.t rfl) (.t rfl) (i:=2) rfl zu rfl rfl (Ss':=[_,_,_,_,_,_,_,_,_]) rfl (M':=(_::_::(some _,zC [_,_,_,_,_,_,_,_,_])::_::_::_::_::_)) rfl (nkQ k29 (.sq fun k30=>.dr (.m [] rfl (.so [58] rfl (.nilc (.t rfl)) (.so [59] rfl (.fieldAddr (.t rfl) xk zu) (.so [60] rfl (.load1 (.t rfl) (i:=2) rfl zu rfl) (.m [] rfl ?_))))))))))
     refine .so [61,62] rfl (.ixGr qn zP (.t rfl) (.t rfl) ⟨by omega,by rw[hul];show (i:Int)<((i+1:Nat):Int);omega⟩) ?_
     refine .so [63] rfl (.loadGM (.t rfl) (i:=5) rfl zP (zAB hul)) (.m [] rfl (.so [] rfl (.call (xC) (.cons (.cI 1 rfl) .nil)) (.fn (n:=9) zW (.w [1,4,30,31,32,33,5,34,35,36,37,39,38,40,41,42,43,44,45,46,47,48,49,51,50,52,53,54,55,56,57,58,59,60,61,62,63,64,65,66] rfl ?_))))
     refine st (.ixGr zz zE (.t rfl) (.t rfl) ⟨by omega,by rw[List.length_map,List.length_replicate];omega⟩) rfl ?_
     refine .storeGK (z:=nz 1) zN (.t rfl) (.t rfl) (i:=0) rfl zE (by rw[List.length_map,List.length_replicate];omega) (M':=(zj _ _ _::_::_::_::_::_::_::_)) rfl ?_
     refine nkQ k30 (.sq fun k31=>.sr fun k32=>stM rfl (st (.mv (.cI 0 rfl)) rfl (nkQ k32 (.block (.loopF [1,4,30,31,32,33,5,34,35,36,37,39,38,40,41,42,43,44,45,46,47,48,49,51,50,52,53,54,55,56,57,58,59,60,61,62,63,64,65,66,67,68] (fun (z:{ k:Nat//k≤i })=>match z with|⟨k,hk⟩=>[(69,isI (k:Int))]) (fun M=>fun (z:{ k:Nat//k≤i })=>match z with|⟨k,hk⟩=>(zj zc (⟨some b7,R,[]⟩:Gr (Bool×List Nat)) ((xv R i).map nz)::zj zc (⟨some b6,R,[]⟩:Gr (Bool×List Nat)) ((xJ n0 R A i k).map nz)::(some b2,zC [isI (R:Int),ze gd (ds.map nz).length,ze gr5 (ls++[((⟨some b6,R,[]⟩:Gr (Bool×List Nat)),xJ n0 R A i k)]).length,ze gr6 (us++[((⟨some b7,R,[]⟩:Gr (Bool×List Nat)),xv R i)]).length,isB false,zD [],isB false,zD [],isI 0])::zj zc gd (ds.map nz)::grM qQ gr5 (ls++[((⟨some b6,R,[]⟩:Gr (Bool×List Nat)),xJ n0 R A i k)])::grM qQ gr6 (us++[((⟨some b7,R,[]⟩:Gr (Bool×List Nat)),xv R i)])::(some b1,zC [isI (R:Int),isI (R:Int),SlK 2 zc xs])::(ls++us).map qo)) (fun (z:{ k:Nat//k≤i })=>match z with|⟨k,hk⟩=>i-k) (⟨0,Nat.zero_le _⟩) (Cv.mem (.c 69 rfl ?_ (.l [1,4,30,31,32,33,5,34,35,36,37,39,38,40,41,42,43,44,45,46,47,48,49,51,50,52,53,54,55,56,57,58,59,60,61,62,63,64,65,66,67,68] rfl)) ?_) ?_)))))
     ·rfl
     ·exact tK
     rintro⟨k,hk⟩ K33 hK33
     refine .w [69,1,4,30,31,32,33,5,34,35,36,37,39,38,40,41,42,43,44,45,46,47,48,49,51,50,52,53,54,55,56,57,58,59,60,61,62,63,64,65,66,67,68] rfl (.memEq (M':=(zj zc (⟨some b7,R,[]⟩:Gr (Bool×List Nat)) ((xv R i).map nz)::zj zc (⟨some b6,R,[]⟩:Gr (Bool×List Nat)) ((xJ n0 R A i k).map nz)::(some b2,zC [isI (R:Int),ze gd (ds.map nz).length,ze gr5 (ls++[((⟨some b6,R,[]⟩:Gr (Bool×List Nat)),xJ n0 R A i k)]).length,ze gr6 (us++[((⟨some b7,R,[]⟩:Gr (Bool×List Nat)),xv R i)]).length,isB false,zD [],isB false,zD [],isI 0])::zj zc gd (ds.map nz)::grM qQ gr5 (ls++[((⟨some b6,R,[]⟩:Gr (Bool×List Nat)),xJ n0 R A i k)])::grM qQ gr6 (us++[((⟨some b7,R,[]⟩:Gr (Bool×List Nat)),xv R i)])::(some b1,zC [isI (R:Int),isI (R:Int),SlK 2 zc xs])::(ls++us).map qo)) rfl (.sr fun k34=>st (.ltI (.t rfl) (.t rfl)) rfl (nkQ k34 (.sq fun k35=>.cd rfl (fun hc7=>?_) (fun hc7=>?_)))))
     ·obtain⟨rk,hrk⟩:∃r,ls[k]?=some r:=⟨_,List.getElem?_eq_getElem (by omega)⟩
      have hrk2:=hB.lr hrk
      refine .skip (.nk k35 (.sq fun k36=>.block (.sr fun k37=>stM rfl (stM rfl (nkQ k37 (.dr (.m [] rfl (.so [72] rfl (.nilc (.t rfl)) (.so [73] rfl (.fieldAddr (.t rfl) qa zu) (.so [74] rfl (.load1 (.t rfl) (i:=2) rfl zu rfl) (.m [] rfl ?_)))))))))))
      refine .so [75,76] rfl (.ixGr qn zP (.t rfl) (.t rfl) ⟨by omega,by rw[List.length_append,hll];show (i:Int)<((i+1:Nat):Int);omega⟩) ?_
      refine .so [77] rfl (.loadGM (.t rfl) (i:=4) rfl zP (zAB hll)) (.m [] rfl (.m [] rfl (.so [] rfl (.load (.t rfl) (i:=6) rfl zL rfl (Ss':=[_,_,_]) rfl) (.m [] rfl (.m [] rfl (.sx (i:=12) [80,81,82,83] rfl rfl rfl (by kernel_rfl) (OKX.call (kC (bw:=b2) (cu:=(us++[((⟨some b7,R,[]⟩:Gr (Bool×List Nat)),xv R i)]).length) (gd:=gd) (gl:=gr5) (gu:=gr6) (ds:=ds) (ls:=ls++[((⟨some b6,R,[]⟩:Gr (Bool×List Nat)),xJ n0 R A i k)]) (m:=false) (n:=false) (ps:=[]) (qs:=[]) (sw:=0) (i:=i) (k:=k) (r:=((⟨some b6,R,[]⟩:Gr (Bool×List Nat)),xJ n0 R A i k)) (rk:=rk) (X:=fun j=>xe n0 A i k j) (K:=Kd) (L:=K) hx (by omega) hR hl (by omega) (by omega) (zAB hll) ((List.getElem?_append_left (by omega)).trans hrk) (by rw[vC];omega) (by rw[hrk2,vC];omega) (by rw[hdl];omega) hdb (hlb i (by omega) k rfl) (hlb k (by omega) k hrk2) (by omega) (by rw[ee];exact (hG i k (by omega) (by omega)).symm) (hB.stepE (by omega) hpos (by omega) (by omega) hrk2) (fun j hj=>Nat.le_trans (fU hgw i k j) (hKd j (by omega)))) (gB (f:=qo) (a:=((⟨some b6,R,[]⟩:Gr (Bool×List Nat)),xJ n0 R A i k))) (.cons (.t rfl) (.cons (.t rfl) (.cons (.t rfl) (.cons (.t rfl) .nil)))) (by rintro _ _ ⟨rfl,rfl⟩;exact⟨rfl,rfl⟩)) ?_))))))
      refine .fn (n:=13) zW (.w [1,4,30,31,32,33,5,34,35,36,37,39,38,40,41,42,43,44,45,46,47,48,49,51,50,52,53,54,55,56,57,58,59,60,61,62,63,64,65,66,67,68,69,70,71,6,72,73,74,75,76,77,78,79,80,81,82,83,84] rfl ?_)
      refine st (.ixGr zz zE (.t rfl) (.t rfl) ⟨by omega,by rw[List.length_map,vC];omega⟩) rfl ?_
      refine .storeGK (z:=nz (xe n0 A i k k)) zN (.t rfl) (.t rfl) (i:=1) rfl zE (by rw[List.length_map,vC];omega) (M':=(_::zj _ _ _::_::_::_::_::_::_)) rfl ?_
      refine nl (.bln (.nk k36 (.region (st (.addI (.t rfl) (.cI 1 rfl) (by first|omega|assumption) (by first|omega|assumption)) rfl (stM rfl (nl (.thn (hK33 (⟨k+1,by omega⟩) _ _ ?_ (Cv.mem (.c 69 rfl ?_ (.l [1,4,30,31,32,33,5,34,35,36,37,39,38,40,41,42,43,44,45,46,47,48,49,51,50,52,53,54,55,56,57,58,59,60,61,62,63,64,65,66,67,68] rfl)) ?_)))))))))
      ·show i-(k+1)<i-k;omega
      ·exact zF (by omega)
      ·exact yh (by omega)
     ·obtain rfl:i=k:=by omega
      refine .exit (.the (.the (.blh (.nk k31 (.sr fun k38=>stM rfl (st (.load (.t rfl) (i:=6) rfl zL rfl (Ss':=[_,_,_]) rfl) rfl (stM rfl (stM rfl (.callX (kC (bw:=b2) (cu:=(us++[((⟨some b7,R,[]⟩:Gr (Bool×List Nat)),xv R i)]).length) (gd:=gd) (gl:=gr5) (gu:=gr6) (ds:=ds) (ls:=ls++[((⟨some b6,R,[]⟩:Gr (Bool×List Nat)),xJ n0 R A i i)]) (m:=false) (n:=false) (ps:=[]) (qs:=[]) (sw:=0) (i:=i) (k:=i) (r:=((⟨some b6,R,[]⟩:Gr (Bool×List Nat)),xJ n0 R A i i)) (rk:=((⟨some b6,R,[]⟩:Gr (Bool×List Nat)),xJ n0 R A i i)) (X:=fun j=>xe n0 A i i j) (K:=Kd) (L:=K) hx (by omega) hR hl (by omega) (by omega) (zAB hll) (zAB hll) (by rw[vC];omega) (by rw[vC];omega) (by rw[hdl];omega) hdb (hlb i (by omega) i rfl) (hlb i (by omega) i rfl) (by omega) (by rw[ee];exact (hG i i (by omega) (by omega)).symm) (hB.stepE (by omega) hpos (by omega) (by omega) rfl) (fun j hj=>Nat.le_trans (fU hgw i i j) (hKd j (by omega)))) (gB (f:=qo) (a:=((⟨some b6,R,[]⟩:Gr (Bool×List Nat)),xJ n0 R A i i))) (.cons (.t rfl) (.cons (.t rfl) (.cons (.t rfl) (.cons (.t rfl) .nil)))) rfl ?_)))))))))
      rintro _ _ ⟨rfl,rfl⟩
      refine .cv (Cv.perm (gB (f:=qo) (a:=((⟨some b6,R,[]⟩:Gr (Bool×List Nat)),xJ n0 R A i i))).symm) (.alloc [isB false,SlM isU []] zK (fun _ _=>⟨rfl,nilM _ _,trivial⟩) rfl fun b8=>.store (.t rfl) (.t rfl) (i:=0) rfl zE rfl rfl (Ss':=[_,_]) rfl (M':=((some _,zC [_,_])::_::_::_::_::_::_::_::_)) rfl (nkQ k38 (.sq fun k39=>.sr fun k40=>st (.load (.t rfl) (i:=0) rfl zE rfl (Ss':=[_,_]) rfl) rfl (st (.call (qC (by rw[zB];omega)) (.cons (.t rfl) .nil)) rfl ?_))))
      refine st (.leI (.t rfl) (.cI 0 rfl)) rfl (nkQ k40 (.cd rfl (fun hc8=>?_) (fun hc8=>?_)))
      ·exfalso;rw[zH] at hc8;rcases qR (xe n0 A i i i) with h|h|h <;> omega
      ·refine .skip (.nk k39 (.dry zW (.u 0 rfl (.mv (.t rfl)) (.u 1 rfl (.mv (.t rfl)) (.u 2 rfl (.nilc (.t rfl)) (.u 3 rfl (.fieldAddr (.t rfl) xG zP) (.tl 4 rfl rfl rfl rfl (OKL.load1 (.t rfl) (i:=3) rfl zP rfl) (.go [] (.fn [5,6,7,8,9,10] (.w [1,4,30,31,32,33,5,34,35,36,37,39,38,40,41,42,43,44,45,46,47,48,49,51,50,52,53,54,55,56,57,58,59,60,61,62,63,64,65,66,67,68,69,70,87,88,89,90,91,7,92,93,94,95,96,97,98,99] rfl (st (.load (.t rfl) (i:=0) rfl zE rfl (Ss':=[_,_]) rfl) rfl (st (.buildS [isB false,SlM isU []] zz zE zK (fun _ _=>⟨rfl,nilM _ _,trivial⟩) rfl rfl (.cons (.t rfl) rfl rfl rfl .nil) rfl (S:=SlK 2 zc [nz (xe n0 A i i i)]) rfl) rfl (.appendGK (fk:=zc) (u:=(false,[])) zN (by decide) (fun _=>inferInstance) zz zE zK (fun _ _=>⟨rfl,nilM _ _,trivial⟩) cT (.t rfl) (i:=4) rfl (.t rfl) (by show (ds.map nz).length+1≤_;omega) (by simp) rfl fun gr7=>?_)))))))))))))
       refine .memEq (M':=(_::_::_::_::zj _ _ _::_::_::_::_)) rfl (st (.nilc (.t rfl)) rfl (st (.fieldAddr (.t rfl) xG zP) rfl (.store (.t rfl) (.t rfl) (i:=3) rfl zP rfl rfl (Ss':=[_,_,_,_,_,_,_,_,_]) rfl (M':=(_::_::_::(some _,zC [_,_,_,_,_,_,_,_,_])::_::_::_::_::_)) rfl (nl (.bln (.nk k26 (.region (st (.addI (.t rfl) (.cI 1 rfl) (by first|omega|assumption) (by first|omega|assumption)) rfl (stM rfl (nl (.thn ?_)))))))))))
       refine hK8 (some ⟨(i+1,gr7,gr5,gr6,ds++[Go.Dt.gd n0 A (i+1)],ls++[((⟨some b6,R,[]⟩:Gr (Bool×List Nat)),xJ n0 R A i i)],us++[((⟨some b7,R,[]⟩:Gr (Bool×List Nat)),xv R i)]),⟨by show 1≤i+1;omega,by show i+1≤R;omega⟩,hB.next _ _⟩) _ _ ?_ (Cv.trans (Cv.trans (Cv.drop (.cons _ (List.Sublist.refl _))) (Cv.perm (tL (f:=qo) (a:=((⟨some b6,R,[]⟩:Gr (Bool×List Nat)),xJ n0 R A i i)) (b:=((⟨some b7,R,[]⟩:Gr (Bool×List Nat)),xv R i))))) (Cv.mem (.c 31 rfl ?_ (.l [1,4,30] rfl)) ?_))
       ·first|(show R-1<R;omega)|(show R-(i+1)<R-i;omega)
       ·exact zF (by omega)
       ·exact tN
    ·obtain rfl:R=i:=by omega
     refine .exit (.the (.the (.blh (.nk k6 (.sr fun k41=>stM rfl (stM rfl (st (.as (.cI 0 rfl)) rfl (nkQ k41 (.w [2,3] rfl (.ret (fp (.cons_cons _ (.cons_cons _ (.cons_cons _ (.cons_cons _ (.cons _ (List.Sublist.refl _)))))) (.inl rfl) Tryz.results93 rfl rfl (.tmp (.t rfl) (.tmp (.t rfl) .nil)) (⟨b2,gd,gl,gu,ds,ls,us,rfl,rfl,hB⟩))))))))))))
end Go.Proofs.YtchbfpcaibfkdaaGreat
namespace Go.Proofs.YtchbfpcaibfkdaaGreat
open Go.En Go.RowKit
set_option maxRecDepth 10000
set_option maxHeartbeats 4000000
open Go.Nt
open Go.Pz
open Go.Mz
open Go.Dt
theorem lN {m n:Bool} {ps qs:List Nat} (hpw:(List.length (zA (val ps)))≤100000000) (hqw:(List.length (zA (val qs)))≤100000000):Ctr Tryz.prog 92 [zk [isB m,zD ps],zk [isB n,zD qs]] (isB (decide (0<sgn (zv n qs))&&decide (0<ql (zv m ps*4) (zv n qs))&&decide (ql (zv m ps) (zv n qs)<0))):=by
 refine Ctr.i Tryz.func92 rfl Tryz.ntmps92 fun w0 F0=>.w [0,1] rfl (.fact (Has.okZ (Has.t (t:=0) rfl)) fun okz0=>.fact (Has.okZ (Has.t (t:=1) rfl)) fun okz1=>?_)
 have hp4:=qA (zv m ps) 4
 rw[xt] at hp4
 have h4:(List.length (zA (4:Int).natAbs))≤1:=qL (by decide)
 refine .sr fun k1=>.box (.t rfl) rfl fun b1=>.box (.t rfl) rfl fun b2=>st (.as (.cB false)) rfl (nkQ k1 (.sq fun k2=>.dr (.so [] rfl (.load (.t rfl) (i:=0) rfl zE rfl (Ss':=[_,_]) rfl) (.so [5] rfl (.call (qC (by omega)) (.cons (.t rfl) .nil)) (.so [6] rfl (.gtI (.t rfl) (.cI 0 rfl)) (.m [7] rfl (.s [8] rfl rfl rfl (.T rfl rfl rfl (fun hg=>.load (.t rfl) (i:=1) rfl zE rfl (Ss':=[_,_]) rfl)) (.s [8] rfl rfl rfl (.T rfl rfl rfl (fun hg=>.call (xC) (.cons (.cI 4 rfl) .nil))) ?_))))))))
 refine .s [8,9,10] rfl rfl rfl (.T rfl rfl rfl (fun hg=>have hg':=BP.t hg;OK1.eq (.call (qE (by omega) (by rw[zB];omega)) (.cons (Has.g rfl hg) (.cons (Has.g rfl hg) .nil))) ((show isZ _=isZ (zv m ps*4) from zO (by simp only[zH]))))) ?_
 refine .s [8] rfl rfl rfl (.T rfl rfl rfl (fun hg=>.load (.t rfl) (i:=0) rfl zE rfl (Ss':=[_,_]) rfl)) ?_
 refine .s [8,11,12] rfl rfl rfl (.T rfl rfl rfl (fun hg=>have hg':=BP.t hg;OK1.eq (.call (jm (by rw[zB];omega) (by omega)) (.cons (Has.g rfl hg) (.cons (Has.g rfl hg) .nil))) ((show isI _=isI (ql (zv m ps*4) (zv n qs)) from zF (by rw[zH]))))) ?_
 refine .s [8,13] rfl rfl rfl (.T rfl rfl rfl (fun hg=>.gtI (Has.g rfl hg) (.cI 0 rfl))) (.so [8,14] rfl (.pickAnd (.t rfl) (fun h=>Has.g rfl h)) (.m [15] rfl (.s [16] rfl rfl rfl (.T rfl rfl rfl (fun hg=>.load (.t rfl) (i:=1) rfl zE rfl (Ss':=[_,_]) rfl)) (.s [16] rfl rfl rfl (.T rfl rfl rfl (fun hg=>.load (.t rfl) (i:=0) rfl zE rfl (Ss':=[_,_]) rfl)) (.fn (n:=14) zW (.w [4,16,17,18] rfl ?_))))))
 refine stT rfl rfl (fun hg=>have hg':=BP.t hg;OK1.call (jm (by omega) (by omega)) (.cons (Has.g rfl hg) (.cons (Has.g rfl hg) .nil))) rfl ?_
 refine stT rfl rfl (fun hg=>.ltI (Has.g rfl hg) (.cI 0 rfl)) rfl (st (.pickAnd (.t rfl) (fun h=>Has.g rfl h)) rfl (stM rfl (nkQ k2 (.w [4] rfl (.ret (rt1 (.inl rfl) Tryz.results92 rfl (.tmp (Has.t' rfl ?_) .nil)))))))
 all_goals (rfl)
end Go.Proofs.YtchbfpcaibfkdaaGreat
namespace Go.Proofs.YtchbfpcaibfkdaaGreat
open Go.En Go.RowKit
set_option maxRecDepth 10000
set_option maxHeartbeats 4000000
open Go.Nt
open Go.Pz
open Go.Mz
open Go.Dt
open Go.Ll
theorem yj {n0 R K Kd:Nat} {A:zI} {xs:List (Bool×List Nat)} (hx:Bd (zG xs) K) (hR1:1≤R) (hR:R≤64) (hl:xs.length=R*R) (hG:∀i k,i<R→k<R→cf (zG xs) (i*R+k)=ip n0 (A i) (A k)) (hgw:∀i k,(List.length (zA (qj n0 A i k).natAbs))≤K) (hpos:∀t,t≤R→0<gd n0 A t) (hKd:∀j,j≤R→(j+1)*(K+(j+1))+1≤Kd) (hK:K≤100000000) (hKK:Kd≤100000000) {m n:Bool} {ps qs:List Nat} (hpw:(List.length (zA (val ps)))≤1000) (hqw:(List.length (zA (val qs)))≤1000) (hmy:(decide (0<sgn (zv n qs))&&decide (0<ql (zv m ps*4) (zv n qs))&&decide (ql (zv m ps) (zv n qs)<0))=true):CtrX Tryz.prog 65 [isM (R:Int) (R:Int) xs,zk [isB m,zD ps],zk [isB n,zD qs]] ([]) (fun S M=>∃bw gd gl gu ds ls us,S=zZ [qX bw 0,isI 0]∧M=lwM bw R gd gl gu ds ls us m n ps qs 0∧BG n0 R A R ds ls us):=by
 refine CtrX.i Tryz.func65 rfl Tryz.ntmps65 fun w0 F0=>.w [0,1,2] rfl (.fact (Has.okZ (Has.t (t:=1) rfl)) fun okz1=>.fact (Has.okZ (Has.t (t:=2) rfl)) fun okz2=>?_)
 have hfo:xc (R:Int) (R:Int) xs.length=true:=qK hR hR hl
 refine .sr fun k1=>.box (.t rfl) rfl fun b1=>.box (.t rfl) rfl fun b2=>.box (.t rfl) rfl fun b3=>st (.as Has.cP) rfl (st (.as (.cI 0 rfl)) rfl (nkQ k1 (.sq fun k2=>.block (.sr fun k3=>st (.load (.t rfl) (i:=2) rfl zL rfl (Ss':=[_,_,_]) rfl) rfl (st (.eq (.call (qO) (.cons (.t rfl) .nil)) ((show isB _=isB true from zl (hfo)))) rfl (st (.not (.t rfl)) rfl (stM rfl (stF rfl rfl (fun hg=>.fieldAddr (.t rfl) zY ty3) rfl (stF rfl rfl (fun hg=>.load1 (Has.g rfl hg) (i:=2) rfl ty3 rfl) rfl (stF rfl rfl (fun hg=>.fieldAddr (.t rfl) zo ty3) rfl (stF rfl rfl (fun hg=>.load1 (Has.g rfl hg) (i:=2) rfl ty3 rfl) rfl (stF rfl rfl (fun hg=>.neI (Has.g rfl hg) (Has.g rfl hg)) rfl (st (.pickOr (.t rfl) (fun h=>Has.g rfl (ng h))) rfl (stM rfl (nkQ k3 (.w [3,4,5,6,7,10] rfl (.cd rfl (fun hc1=>?_) (fun hc1=>?_))))))))))))))))))
 ·exfalso;simp at hc1
 ·refine .sr fun k4=>st (.load (.t rfl) (i:=1) rfl zE rfl (Ss':=[_,_]) rfl) rfl (st (.load (.t rfl) (i:=0) rfl zE rfl (Ss':=[_,_]) rfl) rfl (st (.eq (.call (lN (by omega) (by omega)) (.cons (.t rfl) (.cons (.t rfl) .nil))) ((show isB _=isB true from zl (hmy)))) rfl (st (.not (.t rfl)) rfl (stM rfl (nkQ k4 (.w [3,4,5,6,7,21] rfl (.cd rfl (fun hc2=>?_) (fun hc2=>?_))))))))
  ·exfalso;simp at hc2
  ·refine .skip (.bln (.nk k2 (.sr fun k5=>st (.load (.t rfl) (i:=2) rfl zL rfl (Ss':=[_,_,_]) rfl) rfl (.callX (tS hx hR1 hR hl hG hgw hpos hKd hK hKK) (List.Perm.refl _) (.cons (.t rfl) .nil) rfl ?_))))
   rintro _ _ ⟨bw,gd,gl,gu,ds,ls,us,rfl,rfl,hB⟩
   refine .cv (Cv.perm tC) (stM rfl (st (.ext (.t rfl) rfl) rfl (st (.ext (.t rfl) rfl) rfl (stM rfl (stM rfl (nkQ k5 (.w [4,5,6,7,8,9] rfl (.sq fun k6=>.sr fun k7=>stM rfl (st (.eqI (.t rfl) (.cI 0 rfl)) rfl (nkQ k7 (.cd rfl (fun hc3=>?_) (fun hc3=>?_))))))))))))
   ·refine .drhS (.cons _ (.cons_cons _ (.cons_cons _ (.cons_cons _ (.cons_cons _ (.cons_cons _ (.cons_cons _ (List.Sublist.refl _)))))))) (.m [] rfl (.m [] rfl (.so [] rfl (.load (.t rfl) (i:=4) rfl zE rfl (Ss':=[_,_]) rfl) (.so [] rfl (.load (.t rfl) (i:=3) rfl zE rfl (Ss':=[_,_]) rfl) (.so [33] rfl (.nilc (.t rfl)) (.so [37] rfl (.fieldAddr (.t rfl) lV zE) (.mid2 (.cons _ (.cons_cons _ (.cons_cons _ (.cons_cons _ (.cons_cons _ (.cons_cons _ (.cons_cons _ (List.Sublist.refl _)))))))) (.st0 [35,38] rfl rfl (by kernel_rfl) (by kernel_rfl) (StS.store (.t rfl) (.t rfl) (i:=0) rfl zE rfl rfl (Ss':=[_,_,_,_,_,_,_,_,_]) rfl (M':=((some _,zC [_,_,_,_,_,_,_,_,_])::_::_::_::_::_::_::_)) rfl) (.cons _ (.cons_cons _ (.cons_cons _ (.cons_cons _ (.cons_cons _ (.cons_cons _ (.cons_cons _ (List.Sublist.refl _)))))))) (.fin0 (n:=7) zW rfl (by kernel_rfl) (by kernel_rfl) (by kernel_rfl) (.w [6,7,8,9,34,36] rfl (st (.nilc (.t rfl)) rfl (st (.fieldAddr (.t rfl) lU zE) rfl (.store (.t rfl) (.t rfl) (i:=0) rfl zE rfl rfl (Ss':=[_,_,_,_,_,_,_,_,_]) rfl (M':=((some _,zC [_,_,_,_,_,_,_,_,_])::_::_::_::_::_::_::_)) rfl (nkQ k6 (.sr fun k8=>stM rfl (stM rfl (stM rfl (stM rfl (nkQ k8 (.w [6,7] rfl (.ret (fp (.cons_cons _ (.cons_cons _ (.cons_cons _ (.cons_cons _ (.cons _ (.cons _ (.cons _ (List.Sublist.refl _)))))))) (.inl rfl) Tryz.results65 rfl rfl (.tmp (.t rfl) (.tmp (.t rfl) .nil)) (⟨bw,gd,gl,gu,ds,ls,us,rfl,rfl,hB⟩)))))))))))))))))))))))
   ·exact absurd rfl hc3
end Go.Proofs.YtchbfpcaibfkdaaGreat
namespace Go.Proofs.YtchbfpcaibfkdaaGreat
open Go.En Go.RowKit
set_option maxRecDepth 10000
set_option maxHeartbeats 4000000
open Go.Nt
open Go.Pz
open Go.Mz
theorem ym {bw N K:Nat} {gd:Gr (Bool×List Nat)} {gl gu:Gr Row} {ds:List Int} {ls us:List Row} {m n:Bool} {ps qs:List Nat} {sw:Int} (hdl:ds.length=N+1) (hdb:Bd ds K) (hll:ls.length=N) (hul:us.length=N) (hlr:∀r∈ls,r.2.length=N) (hur:∀r∈us,r.2.length=N) (hlb:∀r∈ls,Bd r.2 K) (hub:∀r∈us,Bd r.2 K) (hN:N≤64) (hK:K≤100000000) {s:Nat} {r0 r1 q0 q1:Row} {e:Int} {X Y:Nat→Int} (h0:ls[s]?=some r0) (h1:ls[s+1]?=some r1) (g0:us[s]?=some q0) (g1:us[s+1]?=some q1) (hp1:0<cf ds (s+1)) (hp2:0<cf ds (s+2)) (he:cf ds (s+1)*e=cf ds s*cf ds (s+2)+cf r1.2 s*cf r1.2 s) (hXY:∀i r,s+1<i→ls[i]?=some r→cf ds (s+1)*X i=cf ds (s+2)*cf r.2 s-cf r1.2 s*cf r.2 (s+1)∧cf ds (s+2)*Y i=e*cf r.2 (s+1)+cf r1.2 s*X i) (hXw:∀i,(List.length (zA (X i).natAbs))≤5*K+10) (hew:(List.length (zA e.natAbs))≤5*K+10):CtrX Tryz.prog 96 [qX bw 0,isI ((s+1:Nat):Int)] (lwM bw N gd gl gu ds ls us m n ps qs sw) (fun S M=>∃ls':List Row,S=zZ []∧M=lwM bw N gd gl gu (ds.set (s+1) e) ls' ((us.set (s+1) q0).set s q1) m n ps qs (IntKind.i64.wrap (sw+1))∧ls'++((us.set (s+1) q0).set s q1)=swX s N X Y (swT N s s ls ((us.set (s+1) q0).set s q1) r0 r1)):=by
 refine CtrX.i Tryz.func96 rfl Tryz.ntmps96 fun w0 F0=>.w [0,1] rfl (.fact (Has.rngI (Has.t (t:=1) rfl)) fun lt1=>?_)
 have hk1:=qt h1
 have hk2:=qt g1
 have c0:=hlr r0 (List.mem_of_getElem? h0)
 have c1:=hlr r1 (List.mem_of_getElem? h1)
 have B0:=hlb r0 (List.mem_of_getElem? h0)
 have B1:=hlb r1 (List.mem_of_getElem? h1)
 have hd0:=hdb s
 have hd1:=hdb (s+1)
 have hd2:=hdb (s+2)
 have m1:=qA (cf ds s) (cf ds (s+2))
 have m2:=qA (cf r1.2 s) (cf r1.2 s)
 have m3:=xh (cf ds s*cf ds (s+2)) (cf r1.2 s*cf r1.2 s)
 have hB1s:=B1 s
 have L0:(r0.2.map nz).length=N:=by rw[List.length_map,c0]
 have L1:(r1.2.map nz).length=N:=by rw[List.length_map,c1]
 have hdL:(ds.map nz).length=N+1:=by rw[List.length_map,hdl]
 refine .sr fun k1=>stM rfl (st (.nilc (.t rfl)) rfl (st (.fieldAddr (.t rfl) fL ty3) rfl (st (.load1 (.t rfl) (i:=0) rfl ty3 rfl) rfl (st (.addW (.t rfl) (.cI 1 rfl)) rfl (st (.nilc (.t rfl)) rfl (st (.fieldAddr (.t rfl) fL ty3) rfl (.store (.t rfl) (.t rfl) (i:=0) rfl ty3 rfl rfl (Ss':=[_,_,_,_,_,_,_,_,_]) rfl (M':=((some _,zC [_,_,_,_,_,_,_,_,_])::_::_::_::_)) rfl (nkQ k1 (.w [0,1] rfl (.sq fun k2=>.dry zW (.u 0 rfl (.mv (.t rfl)) (.u 1 rfl (.nilc (.t rfl)) (.u 2 rfl (.fieldAddr (.t rfl) xk zu) (.u 4 rfl (.mv (.t rfl)) (.u 5 rfl (.mv (.t rfl)) (.u 6 rfl (.nilc (.t rfl)) (.u 7 rfl (.fieldAddr (.t rfl) xk zu) (.u 9 rfl (.mv (.t rfl)) (.u 10 rfl (.eq (.subI (.t rfl) (.cI 1 rfl) (by first|omega|assumption) (by first|omega|assumption)) ((show isI _=isI ((s:Nat):Int) from zF (by omega)))) (.u 11 rfl (.mv (.t rfl)) (.u 12 rfl (.nilc (.t rfl)) (.u 13 rfl (.fieldAddr (.t rfl) xk zu) (.u 15 rfl (.mv (.t rfl)) (.u 16 rfl (.eq (.subI (.t rfl) (.cI 1 rfl) (by first|omega|assumption) (by first|omega|assumption)) ((show isI _=isI ((s:Nat):Int) from zF (by omega)))) ?_))))))))))))))))))))))))
 refine .u 19 rfl (.mv (.t rfl)) (.u 20 rfl (.nilc (.t rfl)) (.u 21 rfl (.fieldAddr (.t rfl) xk zu) (.u 23 rfl (.mv (.t rfl)) (.go [] (.so 3 [] rfl (.load1 (.t rfl) (i:=0) rfl zu rfl) (.so 8 [] rfl (.load1 (.t rfl) (i:=0) rfl zu rfl) (.so 14 [] rfl (.load1 (.t rfl) (i:=0) rfl zu rfl) (.so 17 [30] rfl (.ixGr qn zP (.t rfl) (.t rfl) (by omega)) ?_))))))))
 refine .so 18 [33] rfl (.loadGM (.t rfl) (i:=3) rfl zP g0) (.so 22 [] rfl (.load1 (.t rfl) (i:=0) rfl zu rfl) (.so 24 [38] rfl (.ixGr qn zP (.t rfl) (.t rfl) (by omega)) ?_))
 refine .so 25 [40] rfl (.loadGM (.t rfl) (i:=3) rfl zP g1) (.fn [26,27,28,29] (.w [0,1,20,26,19,24,34,41] rfl (st (.ixGr qn zP (.t rfl) (.t rfl) (by omega)) rfl (.storeGM (z:=q0) (.t rfl) (.t rfl) (i:=3) rfl zP (by omega) (M':=(_::_::_::grM _ _ _::_)) rfl (st (.ixGr qn zP (.t rfl) (.t rfl) (by omega)) rfl (.storeGM (z:=q1) (.t rfl) (.t rfl) (i:=3) rfl zP (by rw[List.length_set];omega) (M':=(_::_::_::grM _ _ _::_)) rfl ?_))))))
 refine nkQ k2 (.w [0,1] rfl (.sq fun k3=>.sq fun k4=>.cv (Cv.perm (tB (pre:=[_,_,_,_]) (List.Perm.append_left ls (swap_perm g1 g0 (by omega))))) (.region (stM rfl (st (.eq (.subI (.t rfl) (.cI 1 rfl) (by first|omega|assumption) (by first|omega|assumption)) ((show isI _=isI ((s:Nat):Int) from zF (by omega)))) rfl (st (.mv (.cI 0 rfl)) rfl (nkQ k4 (.block (.loopF [0,1,45] (fun (z:{ j:Nat//j≤s })=>match z with|⟨j,hj⟩=>[(46,isI (j:Int))]) (fun M=>fun (z:{ j:Nat//j≤s })=>match z with|⟨j,hj⟩=>((some bw,zC [isI (N:Int),ze gd (ds.map nz).length,ze gl ls.length,ze gu us.length,isB m,zD ps,isB n,zD qs,isI (IntKind.i64.wrap (sw+1))])::zj zc gd (ds.map nz)::grM qQ gl ls::grM qQ gu ((us.set (s+1) q0).set s q1)::(swT N s j ls ((us.set (s+1) q0).set s q1) r0 r1).map qo)) (fun (z:{ j:Nat//j≤s })=>match z with|⟨j,hj⟩=>s-j) (⟨0,Nat.zero_le _⟩) (Cv.mem (.c 46 rfl ?_ (.l [0,1,45] rfl)) ?_) ?_)))))))))
 ·rfl
 ·exact zGB (swT_0 h0 h1 c0 c1)
 rintro⟨j,hj⟩ K5 hK5
 refine .w [46,0,1,45] rfl (.memEq (M':=((some bw,zC [isI (N:Int),ze gd (ds.map nz).length,ze gl ls.length,ze gu us.length,isB m,zD ps,isB n,zD qs,isI (IntKind.i64.wrap (sw+1))])::zj zc gd (ds.map nz)::grM qQ gl ls::grM qQ gu ((us.set (s+1) q0).set s q1)::(swT N s j ls ((us.set (s+1) q0).set s q1) r0 r1).map qo)) rfl ?_)
 have hs0:((swT N s j ls ((us.set (s+1) q0).set s q1) r0 r1).set (s+1) (r1.1,(stL N (cf r1.2) (cf r0.2) j).set j (cf r0.2 j)))[s]?=some (r0.1,stL N (cf r0.2) (cf r1.2) j):=(List.getElem?_set_ne (by omega)).trans (fX h1)
 refine .sr fun k6=>st (.ltI (.t rfl) (.t rfl)) rfl (nkQ k6 (.sq fun k7=>.cd rfl (fun hc1=>?_) (fun hc1=>?_)))
 ·refine .skip (.nk k7 (.sq fun k8=>.block (.sr fun k9=>stM rfl (stM rfl (nkQ k9 (.dry zW (.u 0 rfl (.mv (.t rfl)) (.u 1 rfl (.nilc (.t rfl)) (.u 2 rfl (.fieldAddr (.t rfl) qa zu) (.u 4 rfl (.mv (.t rfl)) (.u 7 rfl (.mv (.t rfl)) (.u 8 rfl (.mv (.t rfl)) (.u 9 rfl (.nilc (.t rfl)) (.u 10 rfl (.fieldAddr (.t rfl) qa zu) (.u 12 rfl (.mv (.t rfl)) (.u 13 rfl (.eq (.subI (.t rfl) (.cI 1 rfl) (by first|omega|assumption) (by first|omega|assumption)) ((show isI _=isI ((s:Nat):Int) from zF (by omega)))) (.u 16 rfl (.mv (.t rfl)) (.u 17 rfl (.mv (.t rfl)) (.u 18 rfl (.nilc (.t rfl)) (.u 19 rfl (.fieldAddr (.t rfl) qa zu) (.u 21 rfl (.mv (.t rfl)) (.u 22 rfl (.eq (.subI (.t rfl) (.cI 1 rfl) (by first|omega|assumption) (by first|omega|assumption)) ((show isI _=isI ((s:Nat):Int) from zF (by omega)))) (.u 25 rfl (.mv (.t rfl)) ?_)))))))))))))))))))))))
  refine .u 28 rfl (.mv (.t rfl)) (.u 29 rfl (.nilc (.t rfl)) (.u 30 rfl (.fieldAddr (.t rfl) qa zu) (.u 32 rfl (.mv (.t rfl)) (.u 35 rfl (.mv (.t rfl)) (.go [] (.so 3 [] rfl (.load1 (.t rfl) (i:=0) rfl zu rfl) (.so 5 [52] rfl (.ixGr qn zP (.t rfl) (.t rfl) (by omega)) ?_)))))))
  refine .so 6 [54] rfl (.loadGM (.t rfl) (i:=2) rfl zP h1) (.so 11 [] rfl (.load1 (.t rfl) (i:=0) rfl zu rfl) (.so 14 [60] rfl (.ixGr qn zP (.t rfl) (.t rfl) (by omega)) ?_))
  refine .so 15 [63] rfl (.loadGM (.t rfl) (i:=2) rfl zP h0) (.so 20 [] rfl (.load1 (.t rfl) (i:=0) rfl zu rfl) (.so 23 [69] rfl (.ixGr qn zP (.t rfl) (.t rfl) (by omega)) ?_))
  refine .so 24 [72] rfl (.loadGM (.t rfl) (i:=2) rfl zP h0) (.so 26 [73] rfl (.ixGr zz zE (.t rfl) (.t rfl) (by omega)) ?_)
  refine .so 27 [75] rfl (.loadGK zN (.t rfl) (i:=4+s) (jU (pre:=[_,_,_,_]) (r:=(r0.1,stL N (cf r0.2) (cf r1.2) j)) (fX h1)) zE (fb (by omega))) (.so 31 [] rfl (.load1 (.t rfl) (i:=0) rfl zu rfl) (.so 33 [80] rfl (.ixGr qn zP (.t rfl) (.t rfl) (by omega)) ?_))
  refine .so 34 [82] rfl (.loadGM (.t rfl) (i:=2) rfl zP h1) (.so 36 [83] rfl (.ixGr zz zE (.t rfl) (.t rfl) (by omega)) ?_)
  refine .so 37 [85] rfl (.loadGK zN (.t rfl) (i:=4+(s+1)) (jU (pre:=[_,_,_,_]) (r:=(r1.1,stL N (cf r1.2) (cf r0.2) j)) (cj h1)) zE (fb (by omega))) (.fn [38,39,40,41] (.w [0,1,45,46,47,48,4,49,50,51,53,56,57,58,59,61,62,65,66,67,68,70,71,74,77,78,79,81,84,52,54,55,60,63,64,69,72,73,75,76,80,82,83,85,86] rfl (st (.ixGr zz zE (.t rfl) (.t rfl) (by omega)) rfl (.storeGK (z:=nz (cf r0.2 j)) zN (.t rfl) (.t rfl) (i:=4+(s+1)) (jU (pre:=[_,_,_,_]) (r:=(r1.1,stL N (cf r1.2) (cf r0.2) j)) (cj h1)) zE (by rw[List.length_map,xD];omega) (M':=(_::_::_::_::((swT N s j ls ((us.set (s+1) q0).set s q1) r0 r1).set (s+1) (r1.1,(stL N (cf r1.2) (cf r0.2) j).set j (cf r0.2 j))).map qo)) (sY (pre:=[_,_,_,_]) (r:=(r1.1,stL N (cf r1.2) (cf r0.2) j)) (cj h1)) ?_))))
  refine st (.ixGr zz zE (.t rfl) (.t rfl) (by omega)) rfl (.storeGK (z:=nz (cf r1.2 j)) zN (.t rfl) (.t rfl) (i:=4+s) (jU (pre:=[_,_,_,_]) (r:=(r0.1,stL N (cf r0.2) (cf r1.2) j)) hs0) zE (by rw[List.length_map,xD];omega) (M':=(_::_::_::_::(((swT N s j ls ((us.set (s+1) q0).set s q1) r0 r1).set (s+1) (r1.1,(stL N (cf r1.2) (cf r0.2) j).set j (cf r0.2 j))).set s (r0.1,(stL N (cf r0.2) (cf r1.2) j).set j (cf r1.2 j))).map qo)) (sY (pre:=[_,_,_,_]) (r:=(r0.1,stL N (cf r0.2) (cf r1.2) j)) hs0) ?_)
  refine nl (.bln (.nk k8 (.region (st (.addI (.t rfl) (.cI 1 rfl) (by first|omega|assumption) (by first|omega|assumption)) rfl (stM rfl (nl (.thn (hK5 (⟨j+1,by omega⟩) _ _ ?_ (Cv.mem (.c 46 rfl ?_ (.l [0,1,45] rfl)) ?_)))))))))
  ·show s-(j+1)<s-j;omega
  ·exact zF (by omega)
  ·exact zGB (uX (by omega) h1)
 ·have hjs:s=j:=by omega
  subst hjs
  refine .exit (.the (.the (.blh (.nk k3 (.sr fun k10=>stM rfl (st (.nilc (.t rfl)) rfl (st (.fieldAddr (.t rfl) qa zu) rfl (st (.load1 (.t rfl) (i:=0) rfl zu rfl) rfl (stM rfl (st (.ixGr qn zP (.t rfl) (.t rfl) (by omega)) rfl (st (.loadGM (.t rfl) (i:=2) rfl zP h1) rfl (stM rfl (st (.eq (.subI (.t rfl) (.cI 1 rfl) (by first|omega|assumption) (by first|omega|assumption)) ((show isI _=isI ((s:Nat):Int) from zF (by omega)))) rfl (st (.ixGr zz zE (.t rfl) (.t rfl) (by omega)) rfl (st (.loadGK zN (.t rfl) (i:=4+(s+1)) (jU (pre:=[_,_,_,_]) (r:=(r1.1,stL N (cf r1.2) (cf r0.2) s)) (cj h1)) zE (fb (by omega))) rfl (.alloc [isB false,SlM isU []] zK (fun _ _=>⟨rfl,nilM _ _,trivial⟩) rfl fun b1=>.store (.t rfl) (.t rfl) (i:=0) rfl zE rfl rfl (Ss':=[_,_]) rfl (M':=((some _,zC [_,_])::_::_::_::_::_)) rfl (nkQ k10 (.w [0,1,5] rfl (.sq fun k11=>.drhS (.cons_cons _ (.cons_cons _ (.cons_cons _ (.cons_cons _ (.cons_cons _ (List.Sublist.refl _)))))) (.m [] rfl (.so [101] rfl (.nilc (.t rfl)) (.so [102] rfl (.fieldAddr (.t rfl) xG zP) (.so [103] rfl (.load1 (.t rfl) (i:=1) rfl zP rfl) (.m [] rfl (.so [105] rfl (.eq (.subI (.t rfl) (.cI 1 rfl) (by first|omega|assumption) (by first|omega|assumption)) ((show isI _=isI ((s:Nat):Int) from zF (by omega)))) ?_)))))))))))))))))))))))))
  refine .so [104,106] rfl (.ixGr zz zE (.t rfl) (.t rfl) (by omega)) ?_
  refine .so [107] rfl (.loadGK zN (.t rfl) (i:=2) rfl zE (xn (i:=s) (by omega))) (.m [] rfl (.so [109] rfl (.nilc (.t rfl)) (.so [110] rfl (.fieldAddr (.t rfl) xG zP) (.so [111] rfl (.load1 (.t rfl) (i:=1) rfl zP rfl) (.m [] rfl (.so [113] rfl (.eq (.addI (.t rfl) (.cI 1 rfl) (by first|omega|assumption) (by first|omega|assumption)) ((show isI _=isI ((s+2:Nat):Int) from zF (by omega)))) (.so [112,114] rfl (.ixGr zz zE (.t rfl) (.t rfl) (by omega)) ?_)))))))
  refine .so [115] rfl (.loadGK zN (.t rfl) (i:=2) rfl zE (xn (i:=s+2) (by omega))) (.so [108,116] rfl (.eq (.call (qE (by first|omega|(rw[zB];omega)) (by first|omega|(rw[zB];omega))) (.cons (.t rfl) (.cons (.t rfl) .nil))) ((show isZ _=isZ (cf ds s*cf ds (s+2)) from zO (by (try simp only[qN]);(try simp only[zH]))))) ?_)
  refine .so [] rfl (.load (.t rfl) (i:=0) rfl zE rfl (Ss':=[_,_]) rfl) (.so [] rfl (.load (.t rfl) (i:=0) rfl zE rfl (Ss':=[_,_]) rfl) (.so [118,119] rfl (.eq (.call (qE (by first|omega|(rw[zB];omega)) (by first|omega|(rw[zB];omega))) (.cons (.t rfl) (.cons (.t rfl) .nil))) ((show isZ _=isZ (cf r1.2 s*cf r1.2 s) from zO (by (try simp only[qN]);(try simp only[zH]))))) ?_))
  refine .so [117,120] rfl (.eq (.call (qz (by first|omega|(rw[zB];omega)) (by first|omega|(rw[zB];omega))) (.cons (.t rfl) (.cons (.t rfl) .nil))) ((show isZ _=isZ (cf ds s*cf ds (s+2)+cf r1.2 s*cf r1.2 s) from zO (by (try simp only[qN]);(try simp only[zH]))))) ?_
  refine .m [] rfl (.so [122] rfl (.nilc (.t rfl)) (.so [123] rfl (.fieldAddr (.t rfl) xG zP) (.so [124] rfl (.load1 (.t rfl) (i:=1) rfl zP rfl) (.m [] rfl (.so [125,126] rfl (.ixGr zz zE (.t rfl) (.t rfl) (by omega)) ?_)))))
  refine .so [127] rfl (.loadGK zN (.t rfl) (i:=2) rfl zE (xn (i:=s+1) (by omega))) (.so [121,128] rfl (.eq (.call (bg (by first|omega|(rw[zB];omega)) (by first|omega|(rw[zB];omega)) (by first|(rw[qN];omega)|(rw[zH];omega)) (by simp only[qN,zH];exact⟨e,he.symm⟩)) (.cons (.t rfl) (.cons (.t rfl) .nil))) ((show isZ _=isZ (e) from zO (by simp only[qN,zH];rw[←he];exact Int.mul_tdiv_cancel_left _ (by omega))))) ?_)
  refine .als2 (n1:=30) (ds:=[6]) (zs:=[[isB false,SlM isU []]]) rfl (.cons rfl rfl zK (fun _ _=>⟨rfl,nilM _ _,trivial⟩) .nil) (.cons_cons _ (.cons_cons _ (.cons_cons _ (.cons_cons _ (.cons_cons _ (List.Sublist.refl _)))))) (Cs:=[_]) rfl (.fn (n:=30) zW rfl (fun bs hbs=>?_))
  obtain⟨b2,rfl⟩:=dw hbs
  refine .memEq (M':=(_::_::_::_::_::_::_)) rfl (.cv (Cv.wk (.k 0 rfl (.k 1 rfl (.k 5 rfl (.k 129 rfl (.cons (t:=6) (Has.op rfl) .nil)))))) (.store (.t rfl) (.t rfl) (i:=0) rfl zE rfl rfl (Ss':=[_,_]) rfl (M':=((some _,zC [_,_])::_::_::_::_::_::_)) rfl (nkQ k11 (.sq fun k12=>.sr fun k13=>stM rfl (st (.eq (.addI (.t rfl) (.cI 1 rfl) (by first|omega|assumption) (by first|omega|assumption)) ((show isI _=isI ((s+2:Nat):Int) from zF (by omega)))) rfl (stM rfl (nkQ k13 (.block (.loopF [0,1,5,6] (fun (z:{ i:Nat//s+2≤i∧i≤N })=>match z with|⟨i,hi⟩=>[(7,isI (i:Int))]) (fun M=>fun (z:{ i:Nat//s+2≤i∧i≤N })=>match z with|⟨i,hi⟩=>(zM b2 e::zM b1 (cf r1.2 s)::(some bw,zC [isI (N:Int),ze gd (ds.map nz).length,ze gl ls.length,ze gu us.length,isB m,zD ps,isB n,zD qs,isI (IntKind.i64.wrap (sw+1))])::zj zc gd (ds.map nz)::grM qQ gl ls::grM qQ gu ((us.set (s+1) q0).set s q1)::(swX s i X Y (swT N s s ls ((us.set (s+1) q0).set s q1) r0 r1)).map qo)) (fun (z:{ i:Nat//s+2≤i∧i≤N })=>match z with|⟨i,hi⟩=>N-i) (⟨s+2,Nat.le_refl _,by omega⟩) (Cv.mem (.c 7 rfl ?_ (.l [0,1,5,6] rfl)) ?_) ?_)))))))))
  ·rfl
  ·exact zFZ (swX_0 (i:=s+2) (Nat.le_refl _)).symm
  rintro⟨i,hi1,hi2⟩ K14 hK14
  refine .w [7,0,1,5,6] rfl (.memEq (M':=(zM b2 e::zM b1 (cf r1.2 s)::(some bw,zC [isI (N:Int),ze gd (ds.map nz).length,ze gl ls.length,ze gu us.length,isB m,zD ps,isB n,zD qs,isI (IntKind.i64.wrap (sw+1))])::zj zc gd (ds.map nz)::grM qQ gl ls::grM qQ gu ((us.set (s+1) q0).set s q1)::(swX s i X Y (swT N s s ls ((us.set (s+1) q0).set s q1) r0 r1)).map qo)) rfl (.sq fun k15=>.sr fun k16=>stM rfl (stM rfl (st (.nilc (.t rfl)) rfl (st (.fieldAddr (.t rfl) wO ty3) rfl (st (.load1 (.t rfl) (i:=2) rfl ty3 rfl) rfl (st (.ltI (.t rfl) (.t rfl)) rfl (nkQ k16 (.cd rfl (fun hc2=>?_) (fun hc2=>?_))))))))))
  ·obtain⟨r,hr⟩:∃r,ls[i]?=some r:=⟨_,List.getElem?_eq_getElem (by omega)⟩
   have hrC:=hlr r (List.mem_of_getElem? hr)
   have hrB:=hlb r (List.mem_of_getElem? hr)
   have hrB0:=hrB s
   have hrB1:=hrB (s+1)
   have hrL:(r.2.map nz).length=N:=by rw[List.length_map,hrC]
   have hrT:(swT N s s ls ((us.set (s+1) q0).set s q1) r0 r1)[i]?=some r:=(jp (by omega) (by omega)).trans (lwL hr)
   have hrX:(swX s i X Y (swT N s s ls ((us.set (s+1) q0).set s q1) r0 r1))[i]?=some r:=aq hrT (.inl (Nat.le_refl _))
   obtain⟨hx1,hx2⟩:=hXY i r (by omega) hr
   have hXi:=hXw i
   have n1:=qA (cf ds (s+2)) (cf r.2 s)
   have n2:=qA (cf r1.2 s) (cf r.2 (s+1))
   have n3:=gD (cf ds (s+2)*cf r.2 s) (cf r1.2 s*cf r.2 (s+1))
   have n4:=qA e (cf r.2 (s+1))
   have n5:=qA (cf r1.2 s) (X i)
   have n6:=xh (e*cf r.2 (s+1)) (cf r1.2 s*X i)
   have hrS:((swX s i X Y (swT N s s ls ((us.set (s+1) q0).set s q1) r0 r1)).set i (r.1,r.2.set (s+1) (X i)))[i]?=some (r.1,r.2.set (s+1) (X i)):=List.getElem?_set_self (qt hrX)
   have hcX:cf (r.2.set (s+1) (X i)) (s+1)=X i:=by unfold cf;rw[List.getD_eq_getElem?_getD,List.getElem?_set_self (by omega)];rfl
   refine .skip (.nk k15 (.sq fun k17=>.block (.sr fun k18=>stM rfl (st (.nilc (.t rfl)) rfl (st (.fieldAddr (.t rfl) qa zu) rfl (st (.load1 (.t rfl) (i:=2) rfl zu rfl) rfl (stM rfl (st (.ixGr qn zP (.t rfl) (.t rfl) (by omega)) rfl (st (.loadGM (.t rfl) (i:=4) rfl zP hr) rfl (stM rfl (st (.ixGr zz zE (.t rfl) (.t rfl) (by omega)) rfl (st (.loadGK zN (.t rfl) (i:=6+i) (jU (pre:=[_,_,_,_,_,_]) (r:=r) hrX) zE (xn (i:=s+1) (by omega))) rfl (.alloc [isB false,SlM isU []] zK (fun _ _=>⟨rfl,nilM _ _,trivial⟩) rfl fun b3=>.store (.t rfl) (.t rfl) (i:=0) rfl zE rfl rfl (Ss':=[_,_]) rfl (M':=((some _,zC [_,_])::_::_::_::_::_::_::_)) rfl (nkQ k18 (.sq fun k19=>.dry zW (.u 0 rfl (.mv (.t rfl)) (.u 1 rfl (.nilc (.t rfl)) (.u 2 rfl (.fieldAddr (.t rfl) qa zu) (.u 4 rfl (.mv (.t rfl)) (.u 7 rfl (.mv (.t rfl)) (.u 8 rfl (.mv (.t rfl)) (.u 9 rfl (.nilc (.t rfl)) (.u 10 rfl (.fieldAddr (.t rfl) xG zP) (.u 12 rfl (.mv (.t rfl)) ?_))))))))))))))))))))))))
   refine .u 13 rfl (.eq (.addI (.t rfl) (.cI 1 rfl) (by first|omega|assumption) (by first|omega|assumption)) ((show isI _=isI ((s+2:Nat):Int) from zF (by omega)))) (.u 16 rfl (.mv (.t rfl)) (.u 17 rfl (.nilc (.t rfl)) (.u 18 rfl (.fieldAddr (.t rfl) qa zu) (.u 20 rfl (.mv (.t rfl)) (.u 23 rfl (.mv (.t rfl)) (.u 24 rfl (.eq (.subI (.t rfl) (.cI 1 rfl) (by first|omega|assumption) (by first|omega|assumption)) ((show isI _=isI ((s:Nat):Int) from zF (by omega)))) (.u 32 rfl (.mv (.t rfl)) (.u 33 rfl (.nilc (.t rfl)) (.u 34 rfl (.fieldAddr (.t rfl) xG zP) (.u 36 rfl (.mv (.t rfl)) (.go [] (.so 3 [] rfl (.load1 (.t rfl) (i:=3) rfl zu rfl) (.so 5 [153] rfl (.ixGr qn zP (.t rfl) (.t rfl) (by omega)) ?_)))))))))))))
   refine .so 6 [155] rfl (.loadGM (.t rfl) (i:=5) rfl zP hr) (.so 11 [] rfl (.load1 (.t rfl) (i:=3) rfl zP rfl) (.so 14 [161] rfl (.ixGr zz zE (.t rfl) (.t rfl) (by omega)) ?_))
   refine .so 15 [164] rfl (.loadGK zN (.t rfl) (i:=4) rfl zE (xn (i:=s+2) (by omega))) (.so 19 [] rfl (.load1 (.t rfl) (i:=3) rfl zu rfl) (.so 21 [169] rfl (.ixGr qn zP (.t rfl) (.t rfl) (by omega)) ?_))
   refine .so 22 [171] rfl (.loadGM (.t rfl) (i:=5) rfl zP hr) (.so 25 [172] rfl (.ixGr zz zE (.t rfl) (.t rfl) (by omega)) ?_)
   refine .so 26 [175] rfl (.loadGK zN (.t rfl) (i:=7+i) (jU (pre:=[_,_,_,_,_,_,_]) (r:=r) hrX) zE (xn (i:=s) (by omega))) (.so 27 [165,176] rfl (.eq (.call (qE (by first|omega|(rw[zB];omega)) (by first|omega|(rw[zB];omega))) (.cons (.t rfl) (.cons (.t rfl) .nil))) ((show isZ _=isZ (cf ds (s+2)*cf r.2 s) from zO (by (try simp only[qN]);(try simp only[zH]))))) ?_)
   refine .so 28 [] rfl (.load (.t rfl) (i:=2) rfl zE rfl (Ss':=[_,_]) rfl) (.so 29 [] rfl (.load (.t rfl) (i:=0) rfl zE rfl (Ss':=[_,_]) rfl) (.so 30 [178,179] rfl (.eq (.call (qE (by first|omega|(rw[zB];omega)) (by first|omega|(rw[zB];omega))) (.cons (.t rfl) (.cons (.t rfl) .nil))) ((show isZ _=isZ (cf r1.2 s*cf r.2 (s+1)) from zO (by (try simp only[qN]);(try simp only[zH]))))) ?_))
   refine .so 31 [177,180] rfl (.eq (.call (vN (by first|omega|(rw[zB];omega)) (by first|omega|(rw[zB];omega))) (.cons (.t rfl) (.cons (.t rfl) .nil))) ((show isZ _=isZ (cf ds (s+2)*cf r.2 s-cf r1.2 s*cf r.2 (s+1)) from zO (by (try simp only[qN]);(try simp only[zH]))))) ?_
   refine .so 35 [] rfl (.load1 (.t rfl) (i:=3) rfl zP rfl) (.so 37 [185] rfl (.ixGr zz zE (.t rfl) (.t rfl) (by omega)) ?_)
   refine .so 38 [187] rfl (.loadGK zN (.t rfl) (i:=4) rfl zE (xn (i:=s+1) (by omega))) (.so 39 [181,188] rfl (.eq (.call (bg (by first|omega|(rw[zB];omega)) (by first|omega|(rw[zB];omega)) (by first|(rw[qN];omega)|(rw[zH];omega)) (by simp only[qN,zH];exact⟨X i,hx1.symm⟩)) (.cons (.t rfl) (.cons (.t rfl) .nil))) ((show isZ _=zk (zc (nz (X i))) from zO (by simp only[qN,zH];rw[←hx1];exact Int.mul_tdiv_cancel_left _ (by omega))))) ?_)
   refine .fn [40,41] (.w [0,1,5,6,7,132,133,134,135,136,137,140,141,142,143,144,145,146,147,148,149,8,150,151,152,154,157,158,159,160,162,163,166,167,168,170,173,174,182,183,184,186,153,155,156,161,164,165,169,171,172,175,176,177,178,179,180,181,185,187,188,189] rfl (st (.ixGr zz zE (.t rfl) (.t rfl) (by omega)) rfl (.storeGK (z:=nz (X i)) zN (.t rfl) (.t rfl) (i:=7+i) (jU (pre:=[_,_,_,_,_,_,_]) (r:=r) hrX) zE (by omega) (M':=(_::_::_::_::_::_::_::((swX s i X Y (swT N s s ls ((us.set (s+1) q0).set s q1) r0 r1)).set i (r.1,r.2.set (s+1) (X i))).map qo)) (sY (pre:=[_,_,_,_,_,_,_]) (r:=r) hrX) (nkQ k19 (.dry zW (.u 0 rfl (.mv (.t rfl)) (.u 1 rfl (.nilc (.t rfl)) (.u 2 rfl (.fieldAddr (.t rfl) qa zu) (.u 4 rfl (.mv (.t rfl)) (.u 7 rfl (.mv (.t rfl)) (.u 8 rfl (.eq (.subI (.t rfl) (.cI 1 rfl) (by first|omega|assumption) (by first|omega|assumption)) ((show isI _=isI ((s:Nat):Int) from zF (by omega)))) (.u 13 rfl (.mv (.t rfl)) (.u 14 rfl (.nilc (.t rfl)) (.u 15 rfl (.fieldAddr (.t rfl) qa zu) (.u 17 rfl (.mv (.t rfl)) (.u 20 rfl (.mv (.t rfl)) (.u 25 rfl (.mv (.t rfl)) (.u 26 rfl (.nilc (.t rfl)) (.u 27 rfl (.fieldAddr (.t rfl) xG zP) (.u 29 rfl (.mv (.t rfl)) (.u 30 rfl (.eq (.addI (.t rfl) (.cI 1 rfl) (by first|omega|assumption) (by first|omega|assumption)) ((show isI _=isI ((s+2:Nat):Int) from zF (by omega)))) (.go [] (.so 3 [] rfl (.load1 (.t rfl) (i:=3) rfl zu rfl) (.so 5 [194] rfl (.ixGr qn zP (.t rfl) (.t rfl) (by omega)) ?_))))))))))))))))))))))))
   refine .so 6 [196] rfl (.loadGM (.t rfl) (i:=5) rfl zP hr) (.so 9 [] rfl (.load (.t rfl) (i:=1) rfl zE rfl (Ss':=[_,_]) rfl) (.so 10 [] rfl (.load (.t rfl) (i:=0) rfl zE rfl (Ss':=[_,_]) rfl) (.so 11 [200,201] rfl (.eq (.call (qE (by first|omega|(rw[zB];omega)) (by first|omega|(rw[zB];omega))) (.cons (.t rfl) (.cons (.t rfl) .nil))) ((show isZ _=isZ (e*cf r.2 (s+1)) from zO (by (try simp only[qN]);(try simp only[zH]))))) ?_)))
   refine .so 12 [] rfl (.load (.t rfl) (i:=2) rfl zE rfl (Ss':=[_,_]) rfl) (.so 16 [] rfl (.load1 (.t rfl) (i:=3) rfl zu rfl) (.so 18 [207] rfl (.ixGr qn zP (.t rfl) (.t rfl) (by omega)) ?_))
   refine .so 19 [209] rfl (.loadGM (.t rfl) (i:=5) rfl zP hr) (.so 21 [210] rfl (.ixGr zz zE (.t rfl) (.t rfl) (by omega)) ?_)
   refine .so 22 [212] rfl (.loadGK zN (.t rfl) (i:=7+i) (jU (pre:=[_,_,_,_,_,_,_]) (r:=(r.1,r.2.set (s+1) (X i))) hrS) zE (xn (i:=s+1) (by rw[List.length_set];omega))) ?_
   refine .so 23 [203,213] rfl (.eq (.call (qE (by first|omega|(rw[zB];omega)) (by rw[zB,hcX];omega)) (.cons (.t rfl) (.cons (.t rfl) .nil))) ((show isZ _=isZ (cf r1.2 s*X i) from zO (by (try simp only[qN]);(try simp only[zH]);rw[hcX])))) ?_
   refine .so 24 [202,214] rfl (.eq (.call (qz (by first|omega|(rw[zB];omega)) (by first|omega|(rw[zB];omega))) (.cons (.t rfl) (.cons (.t rfl) .nil))) ((show isZ _=isZ (e*cf r.2 (s+1)+cf r1.2 s*X i) from zO (by (try simp only[qN]);(try simp only[zH]))))) ?_
   refine .so 28 [] rfl (.load1 (.t rfl) (i:=3) rfl zP rfl) (.so 31 [219] rfl (.ixGr zz zE (.t rfl) (.t rfl) (by omega)) ?_)
   refine .so 32 [222] rfl (.loadGK zN (.t rfl) (i:=4) rfl zE (xn (i:=s+2) (by omega))) (.so 33 [215,223] rfl (.eq (.call (bg (by first|omega|(rw[zB];omega)) (by first|omega|(rw[zB];omega)) (by first|(rw[qN];omega)|(rw[zH];omega)) (by simp only[qN,zH];exact⟨Y i,hx2.symm⟩)) (.cons (.t rfl) (.cons (.t rfl) .nil))) ((show isZ _=zk (zc (nz (Y i))) from zO (by simp only[qN,zH];rw[←hx2];exact Int.mul_tdiv_cancel_left _ (by omega))))) ?_)
   refine .fn [34,35] (.w [0,1,5,6,7,132,133,134,135,136,137,140,141,142,143,144,145,146,147,148,149,8,150,151,152,154,157,158,159,160,162,163,166,167,168,170,173,174,182,183,184,186,153,155,156,161,164,165,169,171,172,175,176,177,178,179,180,181,185,187,188,189,190,191,192,193,195,198,199,204,205,206,208,211,216,217,218,220,221,194,196,197,200,201,202,203,207,209,210,212,213,214,215,219,222,223,224] rfl (st (.ixGr zz zE (.t rfl) (.t rfl) (by omega)) rfl (.storeGK (z:=nz (Y i)) zN (.t rfl) (.t rfl) (i:=7+i) (jU (pre:=[_,_,_,_,_,_,_]) (r:=(r.1,r.2.set (s+1) (X i))) hrS) zE (by rw[List.length_map,List.length_set];omega) (M':=(_::_::_::_::_::_::_::(((swX s i X Y (swT N s s ls ((us.set (s+1) q0).set s q1) r0 r1)).set i (r.1,r.2.set (s+1) (X i))).set i (r.1,(r.2.set (s+1) (X i)).set s (Y i))).map qo)) (sY (pre:=[_,_,_,_,_,_,_]) (r:=(r.1,r.2.set (s+1) (X i))) hrS) ?_)))
   refine nl (.bln (.nk k17 (.region (stM rfl (st (.addI (.t rfl) (.cI 1 rfl) (by first|omega|assumption) (by first|omega|assumption)) rfl (stM rfl (nl (.thn (hK14 (⟨i+1,by omega,by omega⟩) _ _ ?_ (Cv.trans (Cv.drop ((.cons _ (.cons_cons _ (.cons_cons _ (.cons_cons _ (.cons_cons _ (.cons_cons _ (.cons_cons _ (List.Sublist.refl _)))))))))) (Cv.mem (.c 7 rfl ?_ (.l [0,1,5,6] rfl)) ?_)))))))))))
   ·show N-(i+1)<N-i;omega
   ·exact zF (by omega)
   ·exact zFZ (by rw[List.set_set,uV hrT (by omega)])
  ·have hiN:N=i:=by omega
   refine .exit (.the (.the (.blh (.nk k12 (.w [0,1,6] rfl (.dr (.m [] rfl (.so [226] rfl (.nilc (.t rfl)) (.so [227] rfl (.fieldAddr (.t rfl) xG zP) (.so [228] rfl (.load1 (.t rfl) (i:=2) rfl zP rfl) (.m [] rfl (.so [] rfl (.load (.t rfl) (i:=0) rfl zE rfl (Ss':=[_,_]) rfl) (.fn (n:=6) zW (.w [229,230,231] rfl (st (.ixGr zz zE (.t rfl) (.t rfl) (by omega)) rfl (.storeGK (z:=nz e) zN (.t rfl) (.t rfl) (i:=3) rfl zE (by omega) (M':=(_::_::_::zj _ _ _::_::_::_)) rfl (nl (fq (.cons _ (.cons _ (.cons_cons _ (.cons_cons _ (.cons_cons _ (.cons_cons _ (List.Sublist.refl _))))))) (.inr rfl) Tryz.results96 rfl ?_))))))))))))))))))
   subst hiN
   obtain⟨ls',e1,e2,e3⟩:=zCT (us:=((us.set (s+1) q0).set s q1)) (j:=s) (X:=X) (Y:=Y) hll h0 h1 c0 c1
   exact⟨ls',rfl,zEC (by rw[List.length_set,List.length_set]) e2 e3 e1,e1⟩
theorem gL {bw N K:Nat} {gd:Gr (Bool×List Nat)} {gl gu:Gr Row} {ds:List Int} {ls us:List Row} {m n:Bool} {ps qs:List Nat} {sw:Int} (hdl:ds.length=N+1) (hdb:Bd ds K) (hll:ls.length=N) (hul:us.length=N) (hlr:∀r∈ls,r.2.length=N) (hur:∀r∈us,r.2.length=N) (hlb:∀r∈ls,Bd r.2 K) (hub:∀r∈us,Bd r.2 K) (hN:N≤64) (hK:K≤100000000) {i k:Nat} {r rk q qk:Row} (hi:ls[i]?=some r) (hrk:ls[k]?=some rk) (ui:us[i]?=some q) (uk:us[k]?=some qk) (hki:k<i) (hp:0<cf ds (k+1)):CtrX Tryz.prog 94 [qX bw 0,isI (i:Int),isI (k:Int)] (lwM bw N gd gl gu ds ls us m n ps qs sw) (fun S M=>∃ls' us',S=zZ []∧M=lwM bw N gd gl gu ds ls' us' m n ps qs sw∧zGP N i k ds ls us r rk q qk ls' us'):=by
 refine CtrX.i Tryz.func94 rfl Tryz.ntmps94 fun w0 F0=>.w [0,1,2] rfl (.fact (Has.rngI (Has.t (t:=1) rfl)) fun lt1=>.fact (Has.rngI (Has.t (t:=2) rfl)) fun lt2=>?_)
 have hiL:i<ls.length:=by
  rcases Nat.lt_or_ge i ls.length with g|g
  ·exact g
  ·rw[List.getElem?_eq_none g] at hi;cases hi
 have hrC:=hlr r (List.mem_of_getElem? hi)
 have hrB:=hlb r (List.mem_of_getElem? hi)
 have hrL:(r.2.map nz).length=N:=by rw[List.length_map,hrC]
 have hsC:=hlr rk (List.mem_of_getElem? hrk)
 have hsB:=hlb rk (List.mem_of_getElem? hrk)
 have hsL:(rk.2.map nz).length=N:=by rw[List.length_map,hsC]
 have hqC:=hur q (List.mem_of_getElem? ui)
 have hqB:=hub q (List.mem_of_getElem? ui)
 have hqL:(q.2.map nz).length=N:=by rw[List.length_map,hqC]
 have htC:=hur qk (List.mem_of_getElem? uk)
 have htB:=hub qk (List.mem_of_getElem? uk)
 have htL:(qk.2.map nz).length=N:=by rw[List.length_map,htC]
 have hdB:=hdb (k+1)
 have hdL:(ds.map nz).length=N+1:=by rw[List.length_map,hdl]
 obtain⟨c,hc⟩:∃c,c=vR (cf r.2 k) (cf ds (k+1)):=⟨_,rfl⟩
 have hcw:(List.length (zA c.natAbs))≤K+2:=by
  rw[hc]
  have h1:=qF (Int.natAbs_ediv_le_natAbs (cf r.2 k+cf r.2 k+cf ds (k+1)) (cf ds (k+1)+cf ds (k+1)))
  have h2:=xh (cf r.2 k) (cf r.2 k)
  have h3:=xh (cf r.2 k+cf r.2 k) (cf ds (k+1))
  have h4:=hrB k
  unfold vR;omega
 obtain⟨x,hx⟩:∃x,x=cf r.2 k-c*cf ds (k+1):=⟨_,rfl⟩
 have hrk1:=hrB k
 have hcd:=qA c (cf ds (k+1))
 refine .sq fun k1=>.sr fun k2=>stM rfl (stM rfl (stM rfl (.callX (tR hdl hdb hll hul hlr hur hlb hub hN hK hi (by omega)) (mQ _) (.cons (.t rfl) (.cons (.t rfl) (.cons (.t rfl) .nil))) rfl ?_)))
 rintro _ _ ⟨rfl,rfl⟩
 refine .memEq (M':=lwM bw N gd gl gu ds ls us m n ps qs sw) (List.append_nil _) (nkQ k2 (.cd rfl (fun hc1=>?_) (fun hc1=>?_)))
 ·have HS:=hc1
  refine .ret (.thr (fq (.cons_cons _ (.cons_cons _ (.cons_cons _ (.cons_cons _ (List.Sublist.refl _))))) (.inl rfl) Tryz.results94 rfl (⟨ls,us,rfl,rfl,.inl ⟨HS,rfl,rfl⟩⟩)))
 ·have HS:=hc1
  refine .skip (.nk k1 (.sq fun k3=>.drhS (.cons_cons _ (.cons_cons _ (.cons_cons _ (.cons_cons _ (List.Sublist.refl _))))) (.m [] rfl (.so [15] rfl (.nilc (.t rfl)) (.so [16] rfl (.fieldAddr (.t rfl) qa zu) (.so [17] rfl (.load1 (.t rfl) (i:=0) rfl zu rfl) (.m [] rfl (.so [18,19] rfl (.ixGr qn zP (.t rfl) (.t rfl) (by omega)) ?_))))))))
  refine .so [20] rfl (.loadGM (.t rfl) (i:=2) rfl zP hi) (.m [] rfl (.so [21,22] rfl (.ixGr zz zE (.t rfl) (.t rfl) (by omega)) ?_))
  refine .so [23] rfl (.loadGK zN (.t rfl) (i:=4+i) (jU (pre:=[_,_,_,_]) (lwL hi)) zE (xn (i:=k) (by omega))) (.m [] rfl (.so [25] rfl (.nilc (.t rfl)) (.so [26] rfl (.fieldAddr (.t rfl) xG zP) (.so [27] rfl (.load1 (.t rfl) (i:=0) rfl zP rfl) (.m [] rfl (.so [29] rfl (.eq (.addI (.t rfl) (.cI 1 rfl) (by first|omega|assumption) (by first|omega|assumption)) ((show isI _=isI ((k+1:Nat):Int) from zF (by omega)))) (.so [28,30] rfl (.ixGr zz zE (.t rfl) (.t rfl) (by omega)) ?_)))))))
  refine .so [31] rfl (.loadGK zN (.t rfl) (i:=1) rfl zE (xn (i:=k+1) (by omega))) ?_
  refine .so [24,32] rfl (.eq (.call (oA (by first|omega|(rw[zB];omega)) (by first|omega|(rw[zB];omega)) (by rw[qN];exact hp)) (.cons (.t rfl) (.cons (.t rfl) .nil))) ((show zZ [isZ _,isB _]=zZ [isZ c,isB true] from by simp only[zH];rw[hc];rfl))) ?_
  refine .m [33] rfl (.so [14] rfl (.ext (.t rfl) rfl) (.so [14] rfl (.ext (.t rfl) rfl) (.als2 (n1:=23) (ds:=[6]) (zs:=[[isB false,SlM isU []]]) rfl (.cons rfl rfl zK (fun _ _=>⟨rfl,nilM _ _,trivial⟩) .nil) (.cons_cons _ (.cons_cons _ (.cons_cons _ (.cons_cons _ (List.Sublist.refl _))))) (Cs:=[_]) rfl (.new [34] 0 (Ss':=[_,_]) (Cs':=[zC [_,_]]) rfl (by kernel_rfl) (by kernel_rfl) rfl rfl rfl (by kernel_rfl) rfl (.t rfl) zE rfl rfl rfl rfl (.fn (n:=24) zW rfl (fun bs hbs=>?_))))))
  obtain⟨b1,rfl⟩:=dw hbs
  refine .memEq (M':=(_::_::_::_::_::_)) rfl (.cv (Cv.wk (.k 0 rfl (.k 1 rfl (.k 2 rfl (.k 35 rfl (.cons (t:=6) (Has.op rfl) .nil)))))) (stM rfl (nkQ k3 (.sq fun k4=>.sr fun k5=>stM rfl (st (.nilc (.t rfl)) rfl (st (.fieldAddr (.t rfl) wO ty3) rfl (st (.load1 (.t rfl) (i:=1) rfl ty3 rfl) rfl (st (.mv (.cI 0 rfl)) rfl (nkQ k5 (.w [0,1,2,6,39,40] rfl (.block (.loopF [0,1,2,6,39] (fun (z:{ j:Nat//j≤N })=>match z with|⟨j,hj⟩=>[(40,isI (j:Int))]) (fun M=>fun (z:{ j:Nat//j≤N })=>match z with|⟨j,hj⟩=>(zM b1 c::lw0 bw N gd gl gu (ds.map nz).length ls.length us.length m n ps qs sw::zj zc gd (ds.map nz)::grM qQ gl ls::grM qQ gu us::((ls++us).set (ls.length+i) (q.1,stL N (cf q.2) (fun j=>cf q.2 j-c*cf qk.2 j) j)).map qo)) (fun (z:{ j:Nat//j≤N })=>match z with|⟨j,hj⟩=>N-j) (⟨0,Nat.zero_le _⟩) (Cv.mem (.c 40 rfl ?_ (.l [0,1,2,6,39] rfl)) ?_) ?_))))))))))))
  ·rfl
  ·exact zGA (oN (b:=(q.1,stL N (cf q.2) (fun j=>cf q.2 j-c*cf qk.2 j) 0)) (lwU ui) (by rw[ck _ hqC]))
  rintro⟨j,hj⟩ K6 hK6
  refine .w [40,0,1,2,6,39] rfl (.memEq (M':=(zM b1 c::lw0 bw N gd gl gu (ds.map nz).length ls.length us.length m n ps qs sw::zj zc gd (ds.map nz)::grM qQ gl ls::grM qQ gu us::((ls++us).set (ls.length+i) (q.1,stL N (cf q.2) (fun j=>cf q.2 j-c*cf qk.2 j) j)).map qo)) rfl ?_)
  have hqj:=hqB j
  have htj:=htB j
  have hm1:=qA c (cf qk.2 j)
  have hset:((ls++us).set (ls.length+i) (q.1,stL N (cf q.2) (fun j=>cf q.2 j-c*cf qk.2 j) j))[ls.length+i]?=some (q.1,stL N (cf q.2) (fun j=>cf q.2 j-c*cf qk.2 j) j):=List.getElem?_set_self (by rw[List.length_append];omega)
  have hsetk:((ls++us).set (ls.length+i) (q.1,stL N (cf q.2) (fun j=>cf q.2 j-c*cf qk.2 j) j))[ls.length+k]?=some qk:=(List.getElem?_set_ne (by omega)).trans (lwU uk)
  refine .sr fun k7=>st (.ltI (.t rfl) (.t rfl)) rfl (nkQ k7 (.sq fun k8=>.cd rfl (fun hc2=>?_) (fun hc2=>?_)))
  ·refine .skip (.nk k8 (.sq fun k9=>.block (.sr fun k10=>stM rfl (stM rfl (nkQ k10 (.dry zW (.u 0 rfl (.mv (.t rfl)) (.u 1 rfl (.nilc (.t rfl)) (.u 2 rfl (.fieldAddr (.t rfl) xk zu) (.u 4 rfl (.mv (.t rfl)) (.u 7 rfl (.mv (.t rfl)) (.u 8 rfl (.mv (.t rfl)) (.u 9 rfl (.nilc (.t rfl)) (.u 10 rfl (.fieldAddr (.t rfl) xk zu) (.u 12 rfl (.mv (.t rfl)) (.u 15 rfl (.mv (.t rfl)) (.u 19 rfl (.mv (.t rfl)) (.u 20 rfl (.nilc (.t rfl)) (.u 21 rfl (.fieldAddr (.t rfl) xk zu) (.u 23 rfl (.mv (.t rfl)) (.u 26 rfl (.mv (.t rfl)) (.go [] (.so 3 [] rfl (.load1 (.t rfl) (i:=1) rfl zu rfl) ?_)))))))))))))))))))))))
   refine .so 5 [46] rfl (.ixGr qn zP (.t rfl) (.t rfl) (by omega)) ?_
   refine .so 6 [48] rfl (.loadGM (.t rfl) (i:=4) rfl zP ui) (.so 11 [] rfl (.load1 (.t rfl) (i:=1) rfl zu rfl) (.so 13 [54] rfl (.ixGr qn zP (.t rfl) (.t rfl) (by omega)) ?_))
   refine .so 14 [56] rfl (.loadGM (.t rfl) (i:=4) rfl zP ui) (.so 16 [57] rfl (.ixGr zz zE (.t rfl) (.t rfl) (by omega)) ?_)
   refine .so 17 [59] rfl (.loadGK zN (.t rfl) (i:=5+(ls.length+i)) (jU (pre:=[_,_,_,_,_]) (r:=(q.1,stL N (cf q.2) (fun j=>cf q.2 j-c*cf qk.2 j) j)) hset) zE (fb (by omega))) (.so 18 [] rfl (.load (.t rfl) (i:=0) rfl zE rfl (Ss':=[_,_]) rfl) (.so 22 [] rfl (.load1 (.t rfl) (i:=1) rfl zu rfl) (.so 24 [65] rfl (.ixGr qn zP (.t rfl) (.t rfl) (by omega)) ?_)))
   refine .so 25 [67] rfl (.loadGM (.t rfl) (i:=4) rfl zP uk) (.so 27 [68] rfl (.ixGr zz zE (.t rfl) (.t rfl) (by omega)) ?_)
   refine .so 28 [70] rfl (.loadGK zN (.t rfl) (i:=5+(ls.length+k)) (jU (pre:=[_,_,_,_,_]) hsetk) zE (xn (i:=j) (by omega))) (.so 29 [61,71] rfl (.eq (.call (qE (by first|omega|(rw[zB];omega)) (by first|omega|(rw[zB];omega))) (.cons (.t rfl) (.cons (.t rfl) .nil))) ((show isZ _=isZ (c*cf qk.2 j) from zO (by (try simp only[qN]);(try simp only[zH]))))) ?_)
   refine .so 30 [60,72] rfl (.eq (.call (vN (by first|omega|(rw[zB];omega)) (by first|omega|(rw[zB];omega))) (.cons (.t rfl) (.cons (.t rfl) .nil))) ((show isZ _=zk (zc (nz (cf q.2 j-c*cf qk.2 j))) from zO (by (try simp only[qN]);(try simp only[zH]))))) ?_
   refine .fn [31,32] (.w [0,1,2,6,39,40,41,42,8,43,44,45,47,50,51,52,53,55,58,62,63,64,66,69,46,48,49,54,56,57,59,60,61,65,67,68,70,71,72,73] rfl (st (.ixGr zz zE (.t rfl) (.t rfl) (by omega)) rfl (.storeGK (z:=nz (cf q.2 j-c*cf qk.2 j)) zN (.t rfl) (.t rfl) (i:=5+(ls.length+i)) (jU (pre:=[_,_,_,_,_]) (r:=(q.1,stL N (cf q.2) (fun j=>cf q.2 j-c*cf qk.2 j) j)) hset) zE (by rw[List.length_map,xD];omega) (M':=(_::_::_::_::_::((ls++us).set (ls.length+i) (q.1,stL N (cf q.2) (fun j=>cf q.2 j-c*cf qk.2 j) (j+1))).map qo)) (pg (pre:=[_,_,_,_,_]) (X:=(q.1,stL N (cf q.2) (fun j=>cf q.2 j-c*cf qk.2 j) j)) hset (cl (by omega))) ?_)))
   refine nl (.bln (.nk k9 (.region (st (.addI (.t rfl) (.cI 1 rfl) (by first|omega|assumption) (by first|omega|assumption)) rfl (stM rfl (nl (.thn (hK6 (⟨j+1,by omega⟩) _ _ ?_ (Cv.mem (.c 40 rfl ?_ (.l [0,1,2,6,39] rfl)) ?_)))))))))
   ·show N-(j+1)<N-j;omega
   ·exact zF (by omega)
   ·rfl
  ·have hjN:N=j:=by omega
   subst hjN
   have hseti:((ls++us).set (ls.length+i) (q.1,stL N (cf q.2) (fun j=>cf q.2 j-c*cf qk.2 j) N))[i]?=some r:=(List.getElem?_set_ne (by omega)).trans (lwL hi)
   refine .exit (.the (.the (.blh (.nk k4 (.sq fun k11=>.dry zW (.u 0 rfl (.mv (.t rfl)) (.u 1 rfl (.nilc (.t rfl)) (.u 2 rfl (.fieldAddr (.t rfl) qa zu) (.u 4 rfl (.mv (.t rfl)) (.u 7 rfl (.mv (.t rfl)) (.u 8 rfl (.mv (.t rfl)) (.u 9 rfl (.nilc (.t rfl)) (.u 10 rfl (.fieldAddr (.t rfl) qa zu) (.u 12 rfl (.mv (.t rfl)) (.u 15 rfl (.mv (.t rfl)) (.u 19 rfl (.mv (.t rfl)) (.u 20 rfl (.nilc (.t rfl)) (.u 21 rfl (.fieldAddr (.t rfl) xG zP) (.u 23 rfl (.mv (.t rfl)) (.go [] (.so 3 [] rfl (.load1 (.t rfl) (i:=1) rfl zu rfl) (.so 5 [79] rfl (.ixGr qn zP (.t rfl) (.t rfl) (by omega)) ?_))))))))))))))))))))))
   refine .so 6 [81] rfl (.loadGM (.t rfl) (i:=3) rfl zP hi) (.so 11 [] rfl (.load1 (.t rfl) (i:=1) rfl zu rfl) (.so 13 [87] rfl (.ixGr qn zP (.t rfl) (.t rfl) (by omega)) ?_))
   refine .so 14 [89] rfl (.loadGM (.t rfl) (i:=3) rfl zP hi) (.so 16 [90] rfl (.ixGr zz zE (.t rfl) (.t rfl) (by omega)) ?_)
   refine .so 17 [92] rfl (.loadGK zN (.t rfl) (i:=5+i) (jU (pre:=[_,_,_,_,_]) hseti) zE (xn (i:=k) (by omega))) (.so 18 [] rfl (.load (.t rfl) (i:=0) rfl zE rfl (Ss':=[_,_]) rfl) (.so 22 [] rfl (.load1 (.t rfl) (i:=1) rfl zP rfl) (.so 24 [] rfl (.eq (.addI (.t rfl) (.cI 1 rfl) (by first|omega|assumption) (by first|omega|assumption)) ((show isI _=isI ((k+1:Nat):Int) from zF (by omega)))) (.so 25 [98,100] rfl (.ixGr zz zE (.t rfl) (.t rfl) (by omega)) ?_))))
   refine .so 26 [101] rfl (.loadGK zN (.t rfl) (i:=2) rfl zE (xn (i:=k+1) (by omega))) (.so 27 [94,102] rfl (.eq (.call (qE (by first|omega|(rw[zB];omega)) (by first|omega|(rw[zB];omega))) (.cons (.t rfl) (.cons (.t rfl) .nil))) ((show isZ _=isZ (c*cf ds (k+1)) from zO (by (try simp only[qN]);(try simp only[zH]))))) ?_)
   refine .so 28 [93,103] rfl (.eq (.call (vN (by first|omega|(rw[zB];omega)) (by first|omega|(rw[zB];omega))) (.cons (.t rfl) (.cons (.t rfl) .nil))) ((show isZ _=zk (zc (nz x)) from zO (by rw[hx];(try simp only[qN]);(try simp only[zH]))))) ?_
   refine .fn [29,30] (.w [0,1,2,6,83,82,104] rfl (st (.ixGr zz zE (.t rfl) (.t rfl) (by omega)) rfl (.storeGK (z:=nz x) zN (.t rfl) (.t rfl) (i:=5+i) (jU (pre:=[_,_,_,_,_]) (r:=r) hseti) zE (by omega) (M':=(_::_::_::_::_::(((ls++us).set (ls.length+i) (q.1,stL N (cf q.2) (fun j=>cf q.2 j-c*cf qk.2 j) N)).set i (r.1,r.2.set k x)).map qo)) (sY (pre:=[_,_,_,_,_]) hseti) (nkQ k11 (.sr fun k12=>stM rfl (st (.mv (.cI 0 rfl)) rfl (nkQ k12 (.block (.loopF [0,1,2,6,106] (fun (z:{ j:Nat//j≤k })=>match z with|⟨j,hj⟩=>[(107,isI (j:Int))]) (fun M=>fun (z:{ j:Nat//j≤k })=>match z with|⟨j,hj⟩=>(zM b1 c::lw0 bw N gd gl gu (ds.map nz).length ls.length us.length m n ps qs sw::zj zc gd (ds.map nz)::grM qQ gl ls::grM qQ gu us::(((ls++us).set (ls.length+i) (q.1,stL N (cf q.2) (fun j=>cf q.2 j-c*cf qk.2 j) N)).set i (r.1,stL N (cf (r.2.set k x)) (fun j=>cf (r.2.set k x) j-c*cf rk.2 j) j)).map qo)) (fun (z:{ j:Nat//j≤k })=>match z with|⟨j,hj⟩=>k-j) (⟨0,Nat.zero_le _⟩) (Cv.mem (.c 107 rfl ?_ (.l [0,1,2,6,106] rfl)) ?_) ?_)))))))))
   ·rfl
   ·exact zGA (by rw[ck _ (by rw[List.length_set];exact hrC)])
   rintro⟨j,hj⟩ K13 hK13
   refine .w [107,0,1,2,6,106] rfl (.memEq (M':=(zM b1 c::lw0 bw N gd gl gu (ds.map nz).length ls.length us.length m n ps qs sw::zj zc gd (ds.map nz)::grM qQ gl ls::grM qQ gu us::(((ls++us).set (ls.length+i) (q.1,stL N (cf q.2) (fun j=>cf q.2 j-c*cf qk.2 j) N)).set i (r.1,stL N (cf (r.2.set k x)) (fun j=>cf (r.2.set k x) j-c*cf rk.2 j) j)).map qo)) rfl ?_)
   have hrj:=hrB j
   have hsj:=hsB j
   have hm1:=qA c (cf rk.2 j)
   have hset2:(((ls++us).set (ls.length+i) (q.1,stL N (cf q.2) (fun j=>cf q.2 j-c*cf qk.2 j) N)).set i (r.1,stL N (cf (r.2.set k x)) (fun j=>cf (r.2.set k x) j-c*cf rk.2 j) j))[i]?=some (r.1,stL N (cf (r.2.set k x)) (fun j=>cf (r.2.set k x) j-c*cf rk.2 j) j):=List.getElem?_set_self (by rw[List.length_set,List.length_append];omega)
   have hset2k:(((ls++us).set (ls.length+i) (q.1,stL N (cf q.2) (fun j=>cf q.2 j-c*cf qk.2 j) N)).set i (r.1,stL N (cf (r.2.set k x)) (fun j=>cf (r.2.set k x) j-c*cf rk.2 j) j))[k]?=some rk:=(List.getElem?_set_ne (by omega)).trans ((List.getElem?_set_ne (by omega)).trans (lwL hrk))
   refine .sr fun k14=>st (.ltI (.t rfl) (.t rfl)) rfl (nkQ k14 (.sq fun k15=>.cd rfl (fun hc3=>?_) (fun hc3=>?_)))
   ·have hxj:(List.length (zA (cf (r.2.set k x) j).natAbs))≤K:=by rw[xq (by omega)];exact hrB j
    refine .skip (.nk k15 (.sq fun k16=>.block (.sr fun k17=>stM rfl (stM rfl (nkQ k17 (.dry zW (.u 0 rfl (.mv (.t rfl)) (.u 1 rfl (.nilc (.t rfl)) (.u 2 rfl (.fieldAddr (.t rfl) qa zu) (.u 4 rfl (.mv (.t rfl)) (.u 7 rfl (.mv (.t rfl)) (.u 8 rfl (.mv (.t rfl)) (.u 9 rfl (.nilc (.t rfl)) (.u 10 rfl (.fieldAddr (.t rfl) qa zu) (.u 12 rfl (.mv (.t rfl)) (.u 15 rfl (.mv (.t rfl)) (.u 19 rfl (.mv (.t rfl)) (.u 20 rfl (.nilc (.t rfl)) (.u 21 rfl (.fieldAddr (.t rfl) qa zu) (.u 23 rfl (.mv (.t rfl)) (.u 26 rfl (.mv (.t rfl)) (.go [] (.so 3 [] rfl (.load1 (.t rfl) (i:=1) rfl zu rfl) ?_)))))))))))))))))))))))
    refine .so 5 [113] rfl (.ixGr qn zP (.t rfl) (.t rfl) (by omega)) ?_
    refine .so 6 [115] rfl (.loadGM (.t rfl) (i:=3) rfl zP hi) (.so 11 [] rfl (.load1 (.t rfl) (i:=1) rfl zu rfl) (.so 13 [121] rfl (.ixGr qn zP (.t rfl) (.t rfl) (by omega)) ?_))
    refine .so 14 [123] rfl (.loadGM (.t rfl) (i:=3) rfl zP hi) (.so 16 [124] rfl (.ixGr zz zE (.t rfl) (.t rfl) (by omega)) ?_)
    refine .so 17 [126] rfl (.loadGK zN (.t rfl) (i:=5+i) (jU (pre:=[_,_,_,_,_]) (r:=(r.1,stL N (cf (r.2.set k x)) (fun j=>cf (r.2.set k x) j-c*cf rk.2 j) j)) hset2) zE (fb (by omega))) (.so 18 [] rfl (.load (.t rfl) (i:=0) rfl zE rfl (Ss':=[_,_]) rfl) (.so 22 [] rfl (.load1 (.t rfl) (i:=1) rfl zu rfl) (.so 24 [132] rfl (.ixGr qn zP (.t rfl) (.t rfl) (by omega)) ?_)))
    refine .so 25 [134] rfl (.loadGM (.t rfl) (i:=3) rfl zP hrk) (.so 27 [135] rfl (.ixGr zz zE (.t rfl) (.t rfl) (by omega)) ?_)
    refine .so 28 [137] rfl (.loadGK zN (.t rfl) (i:=5+k) (jU (pre:=[_,_,_,_,_]) hset2k) zE (xn (i:=j) (by omega))) (.so 29 [128,138] rfl (.eq (.call (qE (by first|omega|(rw[zB];omega)) (by first|omega|(rw[zB];omega))) (.cons (.t rfl) (.cons (.t rfl) .nil))) ((show isZ _=isZ (c*cf rk.2 j) from zO (by (try simp only[qN]);(try simp only[zH]))))) ?_)
    refine .so 30 [127,139] rfl (.eq (.call (vN (by first|omega|(rw[zB];omega)) (by first|omega|(rw[zB];omega))) (.cons (.t rfl) (.cons (.t rfl) .nil))) ((show isZ _=zk (zc (nz (cf (r.2.set k x) j-c*cf rk.2 j))) from zO (by (try simp only[qN]);(try simp only[zH]))))) ?_
    refine .fn [31,32] (.w [0,1,2,6,106,107,108,109,9,110,111,112,114,117,118,119,120,122,125,129,130,131,133,136,113,115,116,121,123,124,126,127,128,132,134,135,137,138,139,140] rfl (st (.ixGr zz zE (.t rfl) (.t rfl) (by omega)) rfl (.storeGK (z:=nz (cf (r.2.set k x) j-c*cf rk.2 j)) zN (.t rfl) (.t rfl) (i:=5+i) (jU (pre:=[_,_,_,_,_]) (r:=(r.1,stL N (cf (r.2.set k x)) (fun j=>cf (r.2.set k x) j-c*cf rk.2 j) j)) hset2) zE (by rw[List.length_map,xD];omega) (M':=(_::_::_::_::_::(((ls++us).set (ls.length+i) (q.1,stL N (cf q.2) (fun j=>cf q.2 j-c*cf qk.2 j) N)).set i (r.1,stL N (cf (r.2.set k x)) (fun j=>cf (r.2.set k x) j-c*cf rk.2 j) (j+1))).map qo)) (pg (pre:=[_,_,_,_,_]) (X:=(r.1,stL N (cf (r.2.set k x)) (fun j=>cf (r.2.set k x) j-c*cf rk.2 j) j)) hset2 (cl (by omega))) ?_)))
    refine nl (.bln (.nk k16 (.region (st (.addI (.t rfl) (.cI 1 rfl) (by first|omega|assumption) (by first|omega|assumption)) rfl (stM rfl (nl (.thn (hK13 (⟨j+1,by omega⟩) _ _ ?_ (Cv.mem (.c 107 rfl ?_ (.l [0,1,2,6,106] rfl)) ?_)))))))))
    ·show k-(j+1)<k-j;omega
    ·exact zF (by omega)
    ·rfl
   ·refine .exit (.the (.the (.blh (fq (.cons _ (.cons_cons _ (.cons_cons _ (.cons_cons _ (.cons_cons _ (List.Sublist.refl _)))))) (.inr rfl) Tryz.results94 rfl ?_))))
    exact⟨_,_,rfl,lw_fin hi ui (by rw[xD,hrC]) (by rw[xD,hqC]),.inr ⟨HS,by rw[←hc,←hx,show j=k by omega];rfl,by rw[←hc];rfl⟩⟩
end Go.Proofs.YtchbfpcaibfkdaaGreat
namespace Go.Proofs.YtchbfpcaibfkdaaGreat
open Go.En Go.RowKit
set_option maxRecDepth 10000
set_option maxHeartbeats 4000000
open Go.Nt
open Go.Pz
open Go.Mz
open Go.Dt
open Go.Ll
theorem zEF {bw n0 R K:Nat} {gd:Gr (Bool×List Nat)} {gl gu:Gr Row} {ds:List Int} {ls us:List Row} {m n:Bool} {ps qs:List Nat} {B:zI} {D N Q:Int} {d0:Nat→Int} {w0:zI} (hz:SZ n0 R K B D N Q d0 w0) (h:RS n0 R B D N (zv m ps) (zv n qs) ds (ls.map Prod.snd) (us.map Prod.snd) 0 ds ls us 1 1) (hR:R≤64) (hK:K≤100000000) (hpw:(List.length (zA (val ps)))≤1000) (hqw:(List.length (zA (val qs)))≤1000) (hq:0<zv n qs) (hpq:zv m ps<zv n qs):CtrX Tryz.prog 66 [qX bw 0] (lwM bw R gd gl gu ds ls us m n ps qs 0) (fun S M=>∃(c:Nat) (ds':List Int) (ls' us':List Row) (k:Nat),S=zZ []∧M=lwM bw R gd gl gu ds' ls' us' m n ps qs (IntKind.i64.wrap (c:Int))∧R≤k∧RS n0 R B D N (zv m ps) (zv n qs) ds (ls.map Prod.snd) (us.map Prod.snd) c ds' ls' us' k k):=by
 refine CtrX.i Tryz.func66 rfl Tryz.ntmps66 fun w0 F0=>.w [0] rfl (.sr fun k1=>st (.as (.cI 1 rfl)) rfl (nkQ k1 (.block (.loopF [0] (fun (z:{ z:Nat×List Int×List Row×List Row×Nat//(1≤z.2.2.2.2∧z.2.2.2.2≤max 1 R)∧RS n0 R B D N (zv m ps) (zv n qs) ds (ls.map Prod.snd) (us.map Prod.snd) z.1 z.2.1 z.2.2.1 z.2.2.2.1 z.2.2.2.2 z.2.2.2.2 })=>match z with|⟨(c,ds1,ls1,us1,k),hI⟩=>[(2,isI (k:Int))]) (fun M=>fun (z:{ z:Nat×List Int×List Row×List Row×Nat//(1≤z.2.2.2.2∧z.2.2.2.2≤max 1 R)∧RS n0 R B D N (zv m ps) (zv n qs) ds (ls.map Prod.snd) (us.map Prod.snd) z.1 z.2.1 z.2.2.1 z.2.2.2.1 z.2.2.2.2 z.2.2.2.2 })=>match z with|⟨(c,ds1,ls1,us1,k),hI⟩=>(lwM bw R gd gl gu ds1 ls1 us1 m n ps qs (IntKind.i64.wrap (c:Int)))) (fun (z:{ z:Nat×List Int×List Row×List Row×Nat//(1≤z.2.2.2.2∧z.2.2.2.2≤max 1 R)∧RS n0 R B D N (zv m ps) (zv n qs) ds (ls.map Prod.snd) (us.map Prod.snd) z.1 z.2.1 z.2.2.1 z.2.2.2.1 z.2.2.2.2 z.2.2.2.2 })=>match z with|⟨(c,ds1,ls1,us1,k),hI⟩=>muR R ds1 k) (⟨(0,ds,ls,us,1),⟨Nat.le_refl _,Nat.le_max_left _ _⟩,h⟩) (Cv.mem (.c 2 rfl ?_ (.l [0] rfl)) ?_) ?_))))
 ·rfl
 ·rfl
 rintro⟨⟨c,ds1,ls1,us1,k⟩,hI⟩ K2 hK2
 refine .w [2,0] rfl (.memEq (M':=(lwM bw R gd gl gu ds1 ls1 us1 m n ps qs (IntKind.i64.wrap (c:Int)))) rfl ?_)
 simp only[] at hI
 obtain⟨⟨hk1,hkR⟩,hI⟩:=hI
 obtain⟨s,rfl⟩:∃s,k=s+1:=⟨k-1,by omega⟩
 have hll1:=hI.ll
 have hul1:=hI.ul
 refine .sq fun k3=>.sr fun k4=>stM rfl (stM rfl (st (.nilc (.t rfl)) rfl (st (.fieldAddr (.t rfl) wO ty3) rfl (st (.load1 (.t rfl) (i:=0) rfl ty3 rfl) rfl (st (.ltI (.t rfl) (.t rfl)) rfl (nkQ k4 (.cd rfl (fun hc1=>?_) (fun hc1=>?_))))))))
 ·have hsR:s+1<R:=by omega
  obtain⟨r,hr⟩:∃r,ls1[s+1]?=some r:=⟨_,List.getElem?_eq_getElem (by omega)⟩
  obtain⟨r',hr'⟩:∃r,ls1[s]?=some r:=⟨_,List.getElem?_eq_getElem (by omega)⟩
  obtain⟨q,hq_⟩:∃r,us1[s+1]?=some r:=⟨_,List.getElem?_eq_getElem (by omega)⟩
  obtain⟨q',hq'⟩:∃r,us1[s]?=some r:=⟨_,List.getElem?_eq_getElem (by omega)⟩
  refine .skip (.nk k3 (.block (.sr fun k5=>stM rfl (stM rfl (stM rfl (st (.eq (.subI (.t rfl) (.cI 1 rfl) (by first|omega|assumption) (by first|omega|assumption)) ((show isI _=isI ((s:Nat):Int) from zF (by omega)))) rfl (.callX (gL (k:=s) hI.dl (hI.db hz) hI.ll hI.ul hI.hlr hI.hur (hI.lb hz) (hI.ub hz) hR hK hr hr' hq_ hq' (by omega) (hI.dp (by omega))) (mQ _) (.cons (.t rfl) (.cons (.t rfl) (.cons (.t rfl) .nil))) rfl ?_)))))))
  rintro _ _ ⟨ls2,us2,rfl,rfl,hL⟩
  obtain⟨h2,hk2⟩:=hI.less (by omega) hsR hr hr' hq_ hq' hL
  have hll2:=h2.ll
  have hul2:=h2.ul
  obtain⟨r2,hr2⟩:∃r,ls2[s+1]?=some r:=⟨_,List.getElem?_eq_getElem (by omega)⟩
  obtain⟨r2',hr2'⟩:∃r,ls2[s]?=some r:=⟨_,List.getElem?_eq_getElem (by omega)⟩
  obtain⟨q2,hq2⟩:∃r,us2[s+1]?=some r:=⟨_,List.getElem?_eq_getElem (by omega)⟩
  obtain⟨q2',hq2'⟩:∃r,us2[s]?=some r:=⟨_,List.getElem?_eq_getElem (by omega)⟩
  refine .memEq (M':=lwM bw R gd gl gu ds1 ls2 us2 m n ps qs (IntKind.i64.wrap (c:Int))) (List.append_nil _) (nkQ k5 (.sq fun k6=>.sr fun k7=>stM rfl (stM rfl (.callX (ot h2.dl (h2.db hz) h2.ll h2.ul h2.hlr h2.hur (h2.lb hz) (h2.ub hz) hR hK hr2 hpw hqw) (mQ _) (.cons (.t rfl) (.cons (.t rfl) .nil)) rfl ?_))))
  rintro _ _ ⟨rfl,rfl⟩
  refine .memEq (M':=lwM bw R gd gl gu ds1 ls2 us2 m n ps qs (IntKind.i64.wrap (c:Int))) (List.append_nil _) (st (.not (.t rfl)) rfl (nkQ k7 (.cd rfl (fun hc2=>?_) (fun hc2=>?_))))
  ·have hst:¬StB (zv m ps) (zv n qs) ds1 (ls2.map Prod.snd) s:=by
    unfold StB
    rw[qg hr2]
    simpa using hc2
   obtain⟨e,X,Y,hde,hXY,hXw,hew,hel,hfin⟩:=h2.swap hz hsR hr2' hr2 hq2' hq2 hq hpq hst
   refine .sr fun k8=>stM rfl (stM rfl (.callX (ym h2.dl (h2.db hz) h2.ll h2.ul h2.hlr h2.hur (h2.lb hz) (h2.ub hz) hR hK hr2' hr2 hq2' hq2 (h2.dp (by omega)) (h2.dp (by omega)) hde hXY hXw hew) (mQ _) (.cons (.t rfl) (.cons (.t rfl) .nil)) rfl ?_))
   rintro _ _ ⟨ls3,rfl,rfl,hsx⟩
   have h3:=hfin ls3 hsx
   refine .memEq (M':=lwM bw R gd gl gu (ds1.set (s+1) e) ls3 ((us2.set (s+1) q2').set s q2) m n ps qs (IntKind.i64.wrap (IntKind.i64.wrap (c:Int)+1))) (List.append_nil _) (nkQ k8 (.sr fun k9=>stM rfl (st (.subI (.t rfl) (.cI 1 rfl) (by first|omega|assumption) (by first|omega|assumption)) rfl (st (.eq (.maxI (.cI 1 rfl) (.t rfl)) ((show isI _=isI ((max 1 s:Nat):Int) from zF (by omega)))) rfl (stM rfl (nkQ k9 (.exit (.the (.blh (.thn ?_))))))))))
   refine hK2 (⟨(c+1,ds1.set (s+1) e,ls3,(us2.set (s+1) q2').set s q2,max 1 s),⟨Nat.le_max_left _ _,by show max 1 s≤max 1 R;omega⟩,h3⟩) _ _ ?_ (Cv.mem (.c 2 rfl ?_ (.l [0] rfl)) ?_)
   ·first|exact mb h2 hsR hel|exact mc hsR
   ·exact zF (by omega)
   ·first|rfl|(rw[iX])
  ·have hst:StB (zv m ps) (zv n qs) ds1 (ls2.map Prod.snd) s:=by
    unfold StB
    rw[qg hr2]
    simpa using hc2
   refine .skip (.nk k6 (.sq fun k10=>.sr fun k11=>stM rfl (st (.subI (.t rfl) (.cI 2 rfl) (by first|omega|assumption) (by first|omega|assumption)) rfl (stM rfl (nkQ k11 (.block (.loopF [0,2,4,5,6,7,8,9,10,11,12,13,15,16,17,18,25,26] (fun (z:{ z:Nat×List Row×List Row//z.1≤s∧RS n0 R B D N (zv m ps) (zv n qs) ds (ls.map Prod.snd) (us.map Prod.snd) c ds1 z.2.1 z.2.2 (s+1) z.1∧StB (zv m ps) (zv n qs) ds1 (z.2.1.map Prod.snd) s })=>match z with|⟨(jj,ls4,us4),hJ⟩=>[(3,isI ((jj:Int)-1))]) (fun M=>fun (z:{ z:Nat×List Row×List Row//z.1≤s∧RS n0 R B D N (zv m ps) (zv n qs) ds (ls.map Prod.snd) (us.map Prod.snd) c ds1 z.2.1 z.2.2 (s+1) z.1∧StB (zv m ps) (zv n qs) ds1 (z.2.1.map Prod.snd) s })=>match z with|⟨(jj,ls4,us4),hJ⟩=>(lwM bw R gd gl gu ds1 ls4 us4 m n ps qs (IntKind.i64.wrap (c:Int)))) (fun (z:{ z:Nat×List Row×List Row//z.1≤s∧RS n0 R B D N (zv m ps) (zv n qs) ds (ls.map Prod.snd) (us.map Prod.snd) c ds1 z.2.1 z.2.2 (s+1) z.1∧StB (zv m ps) (zv n qs) ds1 (z.2.1.map Prod.snd) s })=>match z with|⟨(jj,ls4,us4),hJ⟩=>jj) (⟨(s,ls2,us2),Nat.le_refl _,h2,hst⟩) (Cv.mem (.c 3 rfl ?_ (.l [0,2,4,5,6,7,8,9,10,11,12,13,15,16,17,18,25,26] rfl)) ?_) ?_)))))))
   ·exact zF (by omega)
   ·rfl
   rintro⟨⟨jj,ls4,us4⟩,hJ⟩ K12 hK12
   refine .w [3,0,2,4,5,6,7,8,9,10,11,12,13,15,16,17,18,25,26] rfl (.memEq (M':=(lwM bw R gd gl gu ds1 ls4 us4 m n ps qs (IntKind.i64.wrap (c:Int)))) rfl ?_)
   simp only[] at hJ
   obtain⟨hjs,hJ,hst4⟩:=hJ
   have hll4:=hJ.ll
   have hul4:=hJ.ul
   refine .sq fun k13=>.sr fun k14=>stM rfl (st (.geI (.t rfl) (.cI 0 rfl)) rfl (nkQ k14 (.cd rfl (fun hc3=>?_) (fun hc3=>?_))))
   ·obtain⟨i,rfl⟩:∃i,jj=i+1:=⟨jj-1,by omega⟩
    obtain⟨r,hr⟩:∃r,ls4[s+1]?=some r:=⟨_,List.getElem?_eq_getElem (by omega)⟩
    obtain⟨r',hr'⟩:∃r,ls4[i]?=some r:=⟨_,List.getElem?_eq_getElem (by omega)⟩
    obtain⟨q,hq_⟩:∃r,us4[s+1]?=some r:=⟨_,List.getElem?_eq_getElem (by omega)⟩
    obtain⟨q',hq'⟩:∃r,us4[i]?=some r:=⟨_,List.getElem?_eq_getElem (by omega)⟩
    refine .skip (.nk k13 (.sq fun k15=>.block (.region (stM rfl (stM rfl (st (.eq (.mv (.t rfl)) ((show isI _=isI ((i:Nat):Int) from zF (by omega)))) rfl (.callX (gL (k:=i) hJ.dl (hJ.db hz) hJ.ll hJ.ul hJ.hlr hJ.hur (hJ.lb hz) (hJ.ub hz) hR hK hr hr' hq_ hq' (by omega) (hJ.dp (by omega))) (mQ _) (.cons (.t rfl) (.cons (.t rfl) (.cons (.t rfl) .nil))) rfl ?_)))))))
    rintro _ _ ⟨ls5,us5,rfl,rfl,hL⟩
    obtain⟨h5,hk5⟩:=hJ.less (by omega) hsR hr hr' hq_ hq' hL
    refine .memEq (M':=lwM bw R gd gl gu ds1 ls5 us5 m n ps qs (IntKind.i64.wrap (c:Int))) (List.append_nil _) (nl (.bln (.nk k15 (.region (stM rfl (st (.subI (.t rfl) (.cI 1 rfl) (by first|omega|assumption) (by first|omega|assumption)) rfl (stM rfl (nl (.thn ?_)))))))))
    refine hK12 (⟨(i,ls5,us5),by show i≤s;omega,h5,hst4.of (hk5 s (by omega))⟩) _ _ ?_ (Cv.mem (.c 3 rfl ?_ (.l [0,2,4,5,6,7,8,9,10,11,12,13,15,16,17,18,25,26] rfl)) ?_)
    ·show i<i+1;omega
    ·exact zF (by omega)
    ·rfl
   ·obtain rfl:jj=0:=by omega
    have hfin4:=hJ.next hsR (fun s' hs'=>by obtain rfl:s=s':=(by omega);exact hst4)
    refine .exit (.the (.the (.blh (.nk k10 (.region (stM rfl (st (.addI (.t rfl) (.cI 1 rfl) (by first|omega|assumption) (by first|omega|assumption)) rfl (stM rfl (nl (.bln (.thn ?_)))))))))))
    refine hK2 (⟨(c,ds1,ls4,us4,s+2),⟨by show 1≤s+2;omega,by show s+2≤max 1 R;omega⟩,hfin4⟩) _ _ ?_ (Cv.mem (.c 2 rfl ?_ (.l [0] rfl)) ?_)
    ·first|exact mb h2 hsR hel|exact mc hsR
    ·exact zF (by omega)
    ·first|rfl|(rw[iX])
 ·refine .exit (.the (.the (.blh (fq (.cons_cons _ (.cons_cons _ (.cons_cons _ (.cons_cons _ (List.Sublist.refl _))))) (.inr rfl) Tryz.results66 rfl (⟨c,ds1,ls1,us1,s+1,rfl,rfl,by omega,hI⟩)))))
theorem zFA {R i:Nat} {us:List Row} {r:Row} {g:Gr (Bool×List Nat)} {b5:Nat} {a b d:Option Nat×MP} {t:Mem} (hr:us[i]?=some r):(zj zc g ((flU us i).map nz++r.2.map nz)::(some b5,zC [isI (R:Int),isI (R:Int),ze g (((flU us i).map nz).length+(r.2.map nz).length)])::a::b::d::t:Mem)=zj zc g ((flU us (i+1)).map nz)::(some b5,zC [isI (R:Int),isI (R:Int),ze g ((flU us (i+1)).map nz).length])::a::b::d::t:=by
 rw[←nS hr,List.length_append]
theorem ow {n0 R K Kd:Nat} {A:zI} {xs:List (Bool×List Nat)} (hx:Bd (zG xs) K) (hR1:1≤R) (hR:R≤64) (hl:xs.length=R*R) (hG:∀i k,i<R→k<R→cf (zG xs) (i*R+k)=ip n0 (A i) (A k)) (hgw:∀i k,(List.length (zA (qj n0 A i k).natAbs))≤K) (hpos:∀t,t≤R→0<gd n0 A t) (hKd:∀j,j≤R→(j+1)*(K+(j+1))+1≤Kd) (hK:K≤100000000) (hKK:Kd≤100000000) {m n:Bool} {ps qs:List Nat} (hpw:(List.length (zA (val ps)))≤1000) (hqw:(List.length (zA (val qs)))≤1000) (hmy:(decide (0<sgn (zv n qs))&&decide (0<ql (zv m ps*4) (zv n qs))&&decide (ql (zv m ps) (zv n qs)<0))=true) (hq:0<zv n qs) (hpq:zv m ps<zv n qs) {D N Q:Int} {Ku:Nat} (hz:SZ n0 R Ku A D N Q (Dt.gd n0 A) (gw n0 A)) (hKu:Ku≤100000000) (hN:((R:Nat):Int)*D≤N) (hN1:1≤N):CtrX Tryz.prog 29 [isM (R:Int) (R:Int) xs,zk [isB m,zD ps],zk [isB n,zD qs]] ([]) (fun S M=>∃(c:Nat) (ds':List Int) (ls' us':List Row) (k:Nat),S=zZ [xW R R (us'.flatMap Prod.snd),isI (IntKind.i64.wrap (c:Int)),isI 0]∧M=[]∧R≤k∧RS n0 R A D N (zv m ps) (zv n qs) ((List.range (R+1)).map (Dt.gd n0 A)) ((List.range R).map fun t=>xJ n0 R A t t) ((List.range R).map (xv R)) c ds' ls' us' k k):=by
 refine CtrX.i Tryz.func29 rfl Tryz.ntmps29 fun w0 F0=>.w [0,1,2] rfl (.fact (Has.okZ (Has.t (t:=1) rfl)) fun okz1=>.fact (Has.okZ (Has.t (t:=2) rfl)) fun okz2=>.sr fun k1=>.box (.t rfl) rfl fun b1=>.box (.t rfl) rfl fun b2=>.box (.t rfl) rfl fun b3=>.alloc [isI 0,isI 0,zi] zX (fun _ _=>⟨⟨rfl,by decide,by decide⟩,⟨rfl,by decide,by decide⟩,rfl,trivial⟩) rfl fun b4=>st (.as (.cI 0 rfl)) rfl (st (.as (.cI 0 rfl)) rfl (nkQ k1 (.sr fun k2=>st (.load (.t rfl) (i:=3) rfl zL rfl (Ss':=[_,_,_]) rfl) rfl (st (.load (.t rfl) (i:=2) rfl zE rfl (Ss':=[_,_]) rfl) rfl (st (.load (.t rfl) (i:=1) rfl zE rfl (Ss':=[_,_]) rfl) rfl (.callX (yj hx hR1 hR hl hG hgw hpos hKd hK hKK hpw hqw hmy) (List.Perm.refl _) (.cons (.t rfl) (.cons (.t rfl) (.cons (.t rfl) .nil))) rfl ?_)))))))
 rintro _ _ ⟨bw,gd,gl,gu,ds,ls,us,rfl,rfl,hB⟩
 refine .cv (Cv.perm perm_box4) ?_
 have hS0:=hB.rs (p:=zv m ps) (q:=zv n qs) hpos hz.hd0 hN hN1 hz.hB
 refine stM rfl (st (.ext (.t rfl) rfl) rfl (st (.ext (.t rfl) rfl) rfl (stM rfl (stM rfl (nkQ k2 (.w [6,7,8,9,10] rfl (.sq fun k3=>.sr fun k4=>stM rfl (st (.neI (.t rfl) (.cI 0 rfl)) rfl (nkQ k4 (.cd rfl (fun hc1=>?_) (fun hc1=>?_)))))))))))
 ·exact absurd rfl hc1
 ·refine .skip (.nk k3 (.sr fun k5=>stM rfl (.callX (zEF hz hS0 hR hKu hpw hqw hq hpq) perm_box4.symm (.cons (.t rfl) .nil) rfl ?_)))
  rintro _ _ ⟨c,ds',ls',us',k,rfl,rfl,hRk,hS⟩
  refine .cv (Cv.trans (Cv.drop zCV) (Cv.perm yO)) ?_
  have hul:=hS.ul
  rw[hB.hd,hB.hl,hB.hu] at hS
  refine nkQ k5 (.w [6,7,8,9] rfl (.sq fun k6=>.drhS (.cons_cons _ (.cons_cons _ (.cons_cons _ (List.Sublist.refl _)))) (.m [] rfl (.so [27] rfl (.nilc (.t rfl)) (.so [28] rfl (.fieldAddr (.t rfl) wO ty3) (.so [29] rfl (.load1 (.t rfl) (i:=0) rfl ty3 rfl) (.m [] rfl (.so [31] rfl (.nilc (.t rfl)) (.so [32] rfl (.fieldAddr (.t rfl) wO ty3) (.so [33] rfl (.load1 (.t rfl) (i:=0) rfl ty3 rfl) (.so [30,34] rfl (.build [isI 0,isI 0,zi] bx zX (fun _ _=>⟨⟨rfl,by decide,by decide⟩,⟨rfl,by decide,by decide⟩,rfl,trivial⟩) (.cons (.t rfl) rfl rfl rfl (.cons (.t rfl) rfl rfl rfl .nil)) (Z'':=[_,_,_]) rfl) (.als2 (n1:=10) (ds:=[11]) (zs:=[[isI 0,isI 0,zi]]) rfl (.cons rfl rfl zX (fun _ _=>⟨⟨rfl,by decide,by decide⟩,⟨rfl,by decide,by decide⟩,rfl,trivial⟩) .nil) (.cons_cons _ (.cons_cons _ (.cons_cons _ (List.Sublist.refl _)))) (Cs:=[_]) rfl (.fn (n:=10) zW rfl (fun bs hbs=>?_))))))))))))))
  obtain⟨b5,rfl⟩:=dw hbs
  refine .memEq (M':=(_::_::_::_::_)) rfl (.cv (Cv.wk (.k 6 rfl (.k 7 rfl (.k 8 rfl (.k 9 rfl (.k 35 rfl (.cons (t:=11) (Has.op rfl) .nil))))))) (.store (.t rfl) (.t rfl) (i:=0) rfl zL rfl rfl (Ss':=[_,_,_]) rfl (M':=((some _,zC [_,_,_])::_::_::_::_)) rfl (nkQ k6 (.sq fun k7=>.sq fun k8=>.cv (Cv.growF (Bool×List Nat) (i:=0) (o:=2) rfl rfl rfl) (.memEq (M':=(zj zc Gr.nil []::_::_::_::_::_)) rfl (.region (stM rfl (st (.nilc (.t rfl)) rfl (st (.fieldAddr (.t rfl) xk zu) rfl (st (.load1 (.t rfl) (i:=2) rfl zu rfl) rfl (st (.len qn (.t rfl)) rfl (st (.mv (.cI 0 rfl)) rfl (nkQ k8 (.block (.loopF [6,7,8,9,11,39,40] (fun (z:{ z:Nat×Gr (Bool×List Nat)//z.1≤us'.length })=>match z with|⟨(i,g),hi⟩=>[(41,isI (i:Int))]) (fun M=>fun (z:{ z:Nat×Gr (Bool×List Nat)//z.1≤us'.length })=>match z with|⟨(i,g),hi⟩=>(zj zc g ((flU us' i).map nz)::(some b5,zC [isI (R:Int),isI (R:Int),ze g ((flU us' i).map nz).length])::(some bw,zC [isI (R:Int),ze gd (ds'.map nz).length,ze gl ls'.length,ze gu us'.length,isB m,zD ps,isB n,zD qs,isI (IntKind.i64.wrap (c:Int))])::grM qQ gu us'::(some b4,zC [isI 0,isI 0,zi])::(us'.drop i).map qo)) (fun (z:{ z:Nat×Gr (Bool×List Nat)//z.1≤us'.length })=>match z with|⟨(i,g),hi⟩=>us'.length-i) (⟨(0,Gr.nil),Nat.zero_le _⟩) (Cv.mem (.c 41 rfl ?_ (.l [6,7,8,9,11,39,40] rfl)) ?_) ?_)))))))))))))))
  ·rfl
  ·rfl
  rintro⟨⟨i,g⟩,hi⟩ K9 hK9
  refine .w [41,6,7,8,9,11,39,40] rfl (.memEq (M':=(zj zc g ((flU us' i).map nz)::(some b5,zC [isI (R:Int),isI (R:Int),ze g ((flU us' i).map nz).length])::(some bw,zC [isI (R:Int),ze gd (ds'.map nz).length,ze gl ls'.length,ze gu us'.length,isB m,zD ps,isB n,zD qs,isI (IntKind.i64.wrap (c:Int))])::grM qQ gu us'::(some b4,zC [isI 0,isI 0,zi])::(us'.drop i).map qo)) rfl ?_)
  simp only[] at hi
  have hfll:=lX hS.hur i hi
  have hiR2:=Nat.mul_le_mul hi (Nat.le_refl R)
  have hRR:=qT hR hR
  rw[hul] at hiR2
  refine .sr fun k10=>st (.ltI (.t rfl) (.t rfl)) rfl (nkQ k10 (.sq fun k11=>.cd rfl (fun hc2=>?_) (fun hc2=>?_)))
  ·obtain⟨r,hr⟩:∃r,us'[i]?=some r:=⟨_,List.getElem?_eq_getElem (by omega)⟩
   have hrR:=hS.hur r (List.mem_of_getElem? hr)
   refine .skip (.nk k11 (.sq fun k12=>.block (.sr fun k13=>st (.ixGr qn zP (.t rfl) (.t rfl) (by omega)) rfl (st (.loadGM (.t rfl) (i:=3) rfl zP hr) rfl (stM rfl (nkQ k13 (.region (st (.fieldAddr (.t rfl) qU zP) rfl (st (.load1 (.t rfl) (i:=1) rfl zP rfl) rfl (stM rfl (.cv (Cv.trans (Cv.memEq (M':=_::_::_::_::_::qo r::(us'.drop (i+1)).map qo) (by rw[td hr])) (Cv.trans (Cv.freezeGK (t:=47) (i:=5) (ys:=r.2.map nz) zN rfl rfl rfl) (Cv.memEq (M':=_::_::_::_::_::(us'.drop (i+1)).map qo) rfl))) (.appendGK (fk:=zc) (u:=(false,[])) zN (by decide) (fun _=>inferInstance) zz zE zK (fun _ _=>⟨rfl,nilM _ _,trivial⟩) cT (.t rfl) (i:=0) rfl (.t rfl) (by rw[List.length_map,List.length_map,hfll,hrR];omega) (by rw[List.length_map,hrR];omega) rfl fun gr1=>?_))))))))))))
   refine .memEq (M':=(zj _ _ _::_::_::_::_::_)) rfl (st (.fieldAddr (.t rfl) qU zP) rfl (.store (.t rfl) (.t rfl) (i:=1) rfl zP rfl rfl (Ss':=[_,_,_]) rfl (M':=(_::(some _,zC [_,_,_])::_::_::_::_)) rfl (nl (.bln (.nk k12 (.region (st (.addI (.t rfl) (.cI 1 rfl) (by first|omega|assumption) (by first|omega|assumption)) rfl (stM rfl (nl (.thn ?_))))))))))
   refine hK9 (⟨(i+1,gr1),by show i+1≤us'.length;omega⟩) _ _ ?_ (Cv.mem (.c 41 rfl ?_ (.l [6,7,8,9,11,39,40] rfl)) ?_)
   ·show us'.length-(i+1)<us'.length-i;omega
   ·exact zF (by omega)
   ·exact zFA hr
  ·have hiR:i=us'.length:=by omega
   have hfl:=ry (us:=us') (i:=i) (by omega)
   refine .exit (.the (.the (.blh (.nk k7 (.sq fun k14=>.cv (Cv.freezeF (k:=2) (i:=0) (j:=0) (o:=2) rfl rfl rfl rfl (aT zN) (wB zN) (Ss':=[_,_,SlK 2 zc ((flU us' i).map nz)]) rfl) (.memEq (M':=((some _,zC [_,_,SlK 2 zc ((flU us' i).map nz)])::_::_::_::_)) rfl (.w [6,7,8,9,11,39,40,41,42] rfl (.cv (Cv.memEq (M':=[_,_,_,_]) (by rw[List.drop_eq_nil_of_le (by omega)];rfl)) ?_))))))))
   refine .drh [true,true,true,false] (Ms:=[_,_,_]) rfl (.so [] rfl (.load (.t rfl) (i:=0) rfl zL rfl (Ss':=[_,_,_]) rfl) (.m [] rfl (.so [52] rfl (.nilc (.t rfl)) (.so [53] rfl (.fieldAddr (.t rfl) fL ty3) (.so [54] rfl (.load1 (.t rfl) (i:=1) rfl ty3 rfl) (.mid2 (.cons_cons _ (.cons_cons _ (.cons_cons _ (.cons _ .slnil)))) (.st0 [51] rfl rfl (by kernel_rfl) (by kernel_rfl) (StS.store (.t rfl) (.t rfl) (i:=3) rfl zL rfl rfl (Ss':=[_,_,_]) rfl (M':=[_,_,_,(some _,zC [_,_,_])]) rfl) (.cons_cons _ (.cons_cons _ (.cons_cons _ (.cons _ .slnil)))) (.fin0 (n:=6) zW rfl (by kernel_rfl) (by kernel_rfl) (by kernel_rfl) (.w [6,7,8,55] rfl (stM rfl (st (.as (.cI 0 rfl)) rfl (nkQ k14 (.ret (fp (.cons _ (.cons _ (.cons _ (.cons _ .slnil)))) (.inl rfl) Tryz.results29 rfl rfl (.cell rfl (i:=3) rfl zL rfl rfl (.tmp (.t rfl) (.tmp (.t rfl) .nil))) (⟨c,ds',ls',us',k,by rw[←hfl],rfl,hRk,hS⟩)))))))))))))))
theorem ov {xs:List (Bool×List Nat)} (hl:xs.length=0):CtrX Tryz.prog 93 [isM 0 0 xs] ([]) (fun S M=>∃bw,S=zZ [qX bw 0,isI 0]∧M=[(some bw,zC [isI 0,SlE 2 zc [nz 1],zi,zi,isB false,SlM isU [],isB false,SlM isU [],isI 0])]):=by
 refine CtrX.i Tryz.func93 rfl Tryz.ntmps93 fun w0 F0=>.w [0] rfl ?_
 have hfo:xc (0:Int) (0:Int) xs.length=true:=qK (R:=0) (C:=0) (by decide) (by decide) hl
 have hb0:Bd (zG xs) 0:=by obtain rfl:=List.eq_nil_of_length_eq_zero hl;exact Bd.nil 0
 refine .sr fun k1=>.box (.t rfl) rfl fun b1=>st (.as Has.cP) rfl (st (.as (.cI 0 rfl)) rfl (nkQ k1 (.sq fun k2=>.block (.sr fun k3=>st (.load (.t rfl) (i:=0) rfl zL rfl (Ss':=[_,_,_]) rfl) rfl (st (.eq (.call (qO) (.cons (.t rfl) .nil)) ((show isB _=isB true from zl (hfo)))) rfl (st (.not (.t rfl)) rfl (stM rfl (stF rfl rfl (fun hg=>.fieldAddr (.t rfl) zY ty3) rfl (stF rfl rfl (fun hg=>.load1 (Has.g rfl hg) (i:=0) rfl ty3 rfl) rfl (stF rfl rfl (fun hg=>.fieldAddr (.t rfl) zo ty3) rfl (stF rfl rfl (fun hg=>.load1 (Has.g rfl hg) (i:=0) rfl ty3 rfl) rfl (stF rfl rfl (fun hg=>.neI (Has.g rfl hg) (Has.g rfl hg)) rfl (st (.pickOr (.t rfl) (fun h=>Has.g rfl (ng h))) rfl (stM rfl (nkQ k3 (.w [1,2,3,8] rfl (.cd rfl (fun hc1=>?_) (fun hc1=>?_))))))))))))))))))
 ·exfalso;simp at hc1
 ·refine .sr fun k4=>st (.load (.t rfl) (i:=0) rfl zL rfl (Ss':=[_,_,_]) rfl) rfl (st (.call (re (R:=0) hb0 (by decide) (by decide) hl (fun i k hi=>absurd hi (Nat.not_lt_zero _))) (.cons (.t rfl) .nil)) rfl (st (.not (.t rfl)) rfl (stM rfl (nkQ k4 (.cd rfl (fun hc2=>?_) (fun hc2=>?_))))))
  ·exfalso;simp at hc2
  ·refine .skip (.bln (.nk k2 (.w [1,2,3] rfl (.sq fun k5=>.dr (.so [] rfl (.fieldAddr (.t rfl) zY ty3) (.so [23] rfl (.load1 (.t rfl) (i:=0) rfl ty3 rfl) (.so [] rfl (.call (xC) (.cons (.cI 1 rfl) .nil)) (.so [25] rfl (.buildSE (fk:=zc) [isB false,SlM isU []] ([nz 1]) zz zE zK (fun _ _=>⟨rfl,nilM _ _,trivial⟩) rfl rfl (.cons (.t rfl) rfl rfl rfl .nil) rfl rfl) (.fn (n:=4) zW (.w [1,2,3,24,26] rfl (st (.build [isI 0,zi,zi,zi,isB false,SlM isU [],isB false,SlM isU [],isI 0] pl96 tw (fun _ _=>⟨⟨rfl,by decide,by decide⟩,rfl,rfl,rfl,rfl,nilM _ _,rfl,nilM _ _,⟨rfl,by decide,by decide⟩,trivial⟩) (.cons (.t rfl) rfl rfl rfl (.cons (.t rfl) rfl rfl rfl .nil)) (Z'':=[_,_,_,_,_,_,_,_,_]) rfl) rfl (.box (.t rfl) rfl fun b2=>stM rfl (nkQ k5 (.sq fun k6=>.sr fun k7=>st (.fieldAddr (.t rfl) zY ty3) rfl (st (.load1 (.t rfl) (i:=1) rfl ty3 rfl) rfl (st (.mv (.cI 0 rfl)) rfl (nkQ k7 (.w [1,2,3,4,30,31] rfl (.block (.loopF [1,4,30] (fun (_:Unit)=>[(31,isI 0)]) (fun M=>fun (_:Unit)=>M) (fun (_:Unit)=>0) (()) (Cv.mem (.c 31 rfl ?_ (.l [1,4,30] rfl)) ?_) ?_))))))))))))))))))))
   ·rfl
   ·rfl
   rintro _ K8 hK8
   refine .w [31,1,4,30] rfl (.sr fun k9=>st (.ltI (.t rfl) (.t rfl)) rfl (nkQ k9 (.sq fun k10=>.cd rfl (fun hc3=>?_) (fun hc3=>?_))))
   ·exfalso;omega
   ·refine .exit (.the (.the (.blh (.nk k6 (.sr fun k11=>stM rfl (stM rfl (st (.as (.cI 0 rfl)) rfl (nkQ k11 (.w [2,3] rfl (.ret (fp (.cons_cons _ (.cons _ .slnil)) (.inl rfl) Tryz.results93 rfl rfl (.tmp (.t rfl) (.tmp (.t rfl) .nil)) (⟨b2,rfl,rfl⟩))))))))))))
theorem tQ {xs:List (Bool×List Nat)} (hl:xs.length=0) {m n:Bool} {ps qs:List Nat} (hpw:(List.length (zA (val ps)))≤1000) (hqw:(List.length (zA (val qs)))≤1000) (hmy:(decide (0<sgn (zv n qs))&&decide (0<ql (zv m ps*4) (zv n qs))&&decide (ql (zv m ps) (zv n qs)<0))=true):CtrX Tryz.prog 65 [isM 0 0 xs,zk [isB m,zD ps],zk [isB n,zD qs]] ([]) (fun S M=>∃bw,S=zZ [qX bw 0,isI 0]∧M=[(some bw,zC [isI 0,SlE 2 zc [nz 1],zi,zi,isB m,zD ps,isB n,zD qs,isI 0])]):=by
 refine CtrX.i Tryz.func65 rfl Tryz.ntmps65 fun w0 F0=>.w [0,1,2] rfl (.fact (Has.okZ (Has.t (t:=1) rfl)) fun okz1=>.fact (Has.okZ (Has.t (t:=2) rfl)) fun okz2=>?_)
 have hfo:xc (0:Int) (0:Int) xs.length=true:=qK (R:=0) (C:=0) (by decide) (by decide) hl
 refine .sr fun k1=>.box (.t rfl) rfl fun b1=>.box (.t rfl) rfl fun b2=>.box (.t rfl) rfl fun b3=>st (.as Has.cP) rfl (st (.as (.cI 0 rfl)) rfl (nkQ k1 (.sq fun k2=>.block (.sr fun k3=>st (.load (.t rfl) (i:=2) rfl zL rfl (Ss':=[_,_,_]) rfl) rfl (st (.eq (.call (qO) (.cons (.t rfl) .nil)) ((show isB _=isB true from zl (hfo)))) rfl (st (.not (.t rfl)) rfl (stM rfl (stF rfl rfl (fun hg=>.fieldAddr (.t rfl) zY ty3) rfl (stF rfl rfl (fun hg=>.load1 (Has.g rfl hg) (i:=2) rfl ty3 rfl) rfl (stF rfl rfl (fun hg=>.fieldAddr (.t rfl) zo ty3) rfl (stF rfl rfl (fun hg=>.load1 (Has.g rfl hg) (i:=2) rfl ty3 rfl) rfl (stF rfl rfl (fun hg=>.neI (Has.g rfl hg) (Has.g rfl hg)) rfl (st (.pickOr (.t rfl) (fun h=>Has.g rfl (ng h))) rfl (stM rfl (nkQ k3 (.w [3,4,5,6,7,10] rfl (.cd rfl (fun hc1=>?_) (fun hc1=>?_))))))))))))))))))
 ·exfalso;simp at hc1
 ·refine .sr fun k4=>st (.load (.t rfl) (i:=1) rfl zE rfl (Ss':=[_,_]) rfl) rfl (st (.load (.t rfl) (i:=0) rfl zE rfl (Ss':=[_,_]) rfl) rfl (st (.eq (.call (lN (by omega) (by omega)) (.cons (.t rfl) (.cons (.t rfl) .nil))) ((show isB _=isB true from zl (hmy)))) rfl (st (.not (.t rfl)) rfl (stM rfl (nkQ k4 (.w [3,4,5,6,7,21] rfl (.cd rfl (fun hc2=>?_) (fun hc2=>?_))))))))
  ·exfalso;simp at hc2
  ·refine .skip (.bln (.nk k2 (.sr fun k5=>st (.load (.t rfl) (i:=2) rfl zL rfl (Ss':=[_,_,_]) rfl) rfl (.callX (ov hl) (List.Perm.refl _) (.cons (.t rfl) .nil) rfl ?_))))
   rintro _ _ ⟨bw,rfl,rfl⟩
   refine .memEq (M':=[(some bw,zC [isI 0,SlE 2 zc [nz 1],zi,zi,isB false,SlM isU [],isB false,SlM isU [],isI 0]),(some b3,zC [isB n,zD qs]),(some b2,zC [isB m,zD ps]),(some b1,zC [isI 0,isI 0,SlK 2 zc xs])]) rfl (stM rfl (st (.ext (.t rfl) rfl) rfl (st (.ext (.t rfl) rfl) rfl (stM rfl (stM rfl (nkQ k5 (.w [4,5,6,7,8,9] rfl (.sq fun k6=>.sr fun k7=>stM rfl (st (.eqI (.t rfl) (.cI 0 rfl)) rfl (nkQ k7 (.cd rfl (fun hc3=>?_) (fun hc3=>?_))))))))))))
   ·refine .drh [false,true,true,true] (Ms:=[_,_,_]) rfl (.m [] rfl (.m [] rfl (.so [] rfl (.load (.t rfl) (i:=1) rfl zE rfl (Ss':=[_,_]) rfl) (.so [] rfl (.load (.t rfl) (i:=0) rfl zE rfl (Ss':=[_,_]) rfl) (.so [33] rfl (.nilc (.t rfl)) (.so [37] rfl (.fieldAddr (.t rfl) lV zE) (.mid2 (.cons _ (.cons_cons _ (.cons_cons _ (.cons_cons _ .slnil)))) (.st0 [35,38] rfl rfl (by kernel_rfl) (by kernel_rfl) (StS.store (.t rfl) (.t rfl) (i:=0) rfl zE rfl rfl (Ss':=[_,_,_,_,_,_,_,_,_]) rfl (M':=[(some _,zC [_,_,_,_,_,_,_,_,_]),_,_,_]) rfl) (.cons _ (.cons_cons _ (.cons_cons _ (.cons_cons _ .slnil)))) (.fin0 (n:=7) zW rfl (by kernel_rfl) (by kernel_rfl) (by kernel_rfl) (.w [6,7,8,9,34,36] rfl (st (.nilc (.t rfl)) rfl (st (.fieldAddr (.t rfl) lU zE) rfl (.store (.t rfl) (.t rfl) (i:=0) rfl zE rfl rfl (Ss':=[_,_,_,_,_,_,_,_,_]) rfl (M':=[(some _,zC [_,_,_,_,_,_,_,_,_]),_,_,_]) rfl (nkQ k6 (.sr fun k8=>stM rfl (stM rfl (stM rfl (stM rfl (nkQ k8 (.w [6,7] rfl (.ret (fp (.cons_cons _ (.cons _ (.cons _ (.cons _ .slnil)))) (.inl rfl) Tryz.results65 rfl rfl (.tmp (.t rfl) (.tmp (.t rfl) .nil)) (⟨bw,rfl,rfl⟩)))))))))))))))))))))))
   ·exact absurd rfl hc3
theorem yn {bw:Nat} {m n:Bool} {ps qs:List Nat}:CtrX Tryz.prog 66 [qX bw 0] ([(some bw,zC [isI 0,SlE 2 zc [nz 1],zi,zi,isB m,zD ps,isB n,zD qs,isI 0])]) (fun S M=>S=zZ []∧M=[(some bw,zC [isI 0,SlE 2 zc [nz 1],zi,zi,isB m,zD ps,isB n,zD qs,isI 0])]):=by
 refine CtrX.i Tryz.func66 rfl Tryz.ntmps66 fun w0 F0=>.w [0] rfl (.sr fun k1=>st (.as (.cI 1 rfl)) rfl (nkQ k1 (.block (.loopF [0] (fun (_:Unit)=>[(2,isI 1)]) (fun M=>fun (_:Unit)=>M) (fun (_:Unit)=>0) (()) (Cv.mem (.c 2 rfl ?_ (.l [0] rfl)) ?_) ?_))))
 ·rfl
 ·rfl
 rintro _ K2 hK2
 refine .w [2,0] rfl (.sq fun k3=>.sr fun k4=>stM rfl (stM rfl (st (.nilc (.t rfl)) rfl (st (.fieldAddr (.t rfl) wO ty3) rfl (st (.load1 (.t rfl) (i:=0) rfl ty3 rfl) rfl (st (.ltI (.t rfl) (.t rfl)) rfl (nkQ k4 (.cd rfl (fun hc1=>?_) (fun hc1=>?_)))))))))
 ·exfalso;omega
 ·refine .exit (.the (.the (.blh (zHO (.inr rfl) Tryz.results66 rfl (⟨rfl,rfl⟩)))))
theorem mr {xs:List (Bool×List Nat)} (hl:xs.length=0) {m n:Bool} {ps qs:List Nat} (hpw:(List.length (zA (val ps)))≤1000) (hqw:(List.length (zA (val qs)))≤1000) (hmy:(decide (0<sgn (zv n qs))&&decide (0<ql (zv m ps*4) (zv n qs))&&decide (ql (zv m ps) (zv n qs)<0))=true):CtrX Tryz.prog 29 [isM 0 0 xs,zk [isB m,zD ps],zk [isB n,zD qs]] ([]) (fun S M=>S=zZ [nD,isI 0,isI 0]∧M=[]):=by
 refine CtrX.i Tryz.func29 rfl Tryz.ntmps29 fun w0 F0=>.w [0,1,2] rfl (.fact (Has.okZ (Has.t (t:=1) rfl)) fun okz1=>.fact (Has.okZ (Has.t (t:=2) rfl)) fun okz2=>.sr fun k1=>.box (.t rfl) rfl fun b1=>.box (.t rfl) rfl fun b2=>.box (.t rfl) rfl fun b3=>.alloc [isI 0,isI 0,SlK 2 zc ([]:List (Bool×List Nat))] zX (fun _ _=>⟨⟨rfl,by decide,by decide⟩,⟨rfl,by decide,by decide⟩,vm,trivial⟩) rfl fun b4=>st (.as (.cI 0 rfl)) rfl (st (.as (.cI 0 rfl)) rfl (nkQ k1 (.sr fun k2=>st (.load (.t rfl) (i:=3) rfl zL rfl (Ss':=[_,_,_]) rfl) rfl (st (.load (.t rfl) (i:=2) rfl zE rfl (Ss':=[_,_]) rfl) rfl (st (.load (.t rfl) (i:=1) rfl zE rfl (Ss':=[_,_]) rfl) rfl (.callX (tQ hl hpw hqw hmy) (List.Perm.refl _) (.cons (.t rfl) (.cons (.t rfl) (.cons (.t rfl) .nil))) rfl ?_)))))))
 rintro _ _ ⟨bw,rfl,rfl⟩
 refine .memEq (M':=[(some bw,zC [isI 0,SlE 2 zc [nz 1],zi,zi,isB m,zD ps,isB n,zD qs,isI 0]),(some b4,zC [isI 0,isI 0,SlK 2 zc []]),(some b3,zC [isB n,zD qs]),(some b2,zC [isB m,zD ps]),(some b1,zC [isI 0,isI 0,SlK 2 zc xs])]) rfl (stM rfl (st (.ext (.t rfl) rfl) rfl (st (.ext (.t rfl) rfl) rfl (stM rfl (stM rfl (nkQ k2 (.w [6,7,8,9,10] rfl (.sq fun k3=>.sr fun k4=>stM rfl (st (.neI (.t rfl) (.cI 0 rfl)) rfl (nkQ k4 (.cd rfl (fun hc1=>?_) (fun hc1=>?_))))))))))))
 ·exact absurd rfl hc1
 ·refine .skip (.nk k3 (.sr fun k5=>stM rfl (.callX yn (List.Perm.refl _) (.cons (.t rfl) .nil) rfl ?_)))
  rintro _ _ ⟨rfl,rfl⟩
  refine .memEq (M':=[(some bw,zC [isI 0,SlE 2 zc [nz 1],zi,zi,isB m,zD ps,isB n,zD qs,isI 0]),(some b4,zC [isI 0,isI 0,SlK 2 zc []]),(some b3,zC [isB n,zD qs]),(some b2,zC [isB m,zD ps]),(some b1,zC [isI 0,isI 0,SlK 2 zc xs])]) rfl (nkQ k5 (.w [6,7,8,9] rfl (.sq fun k6=>.drh [true,true,true,true,true] (Ms:=[_,_,_,_,_]) rfl (.m [] rfl (.so [27] rfl (.nilc (.t rfl)) (.so [28] rfl (.fieldAddr (.t rfl) wO ty3) (.so [29] rfl (.load1 (.t rfl) (i:=0) rfl ty3 rfl) (.m [] rfl (.so [31] rfl (.nilc (.t rfl)) (.so [32] rfl (.fieldAddr (.t rfl) wO ty3) (.so [33] rfl (.load1 (.t rfl) (i:=0) rfl ty3 rfl) (.so [30,34] rfl (.build [isI 0,isI 0,SlK 2 zc ([]:List (Bool×List Nat))] bx zX (fun _ _=>⟨⟨rfl,by decide,by decide⟩,⟨rfl,by decide,by decide⟩,vm,trivial⟩) (.cons (.t rfl) rfl rfl rfl (.cons (.t rfl) rfl rfl rfl .nil)) (Z'':=[_,_,_]) rfl) (.als2 (n1:=10) (ds:=[11]) (zs:=[[isI 0,isI 0,SlK 2 zc ([]:List (Bool×List Nat))]]) rfl (.cons rfl rfl zX (fun _ _=>⟨⟨rfl,by decide,by decide⟩,⟨rfl,by decide,by decide⟩,vm,trivial⟩) .nil) (.cons_cons _ (.cons_cons _ (.cons_cons _ (.cons_cons _ (.cons_cons _ .slnil))))) (Cs:=[_]) rfl (.fn (n:=10) zW rfl (fun bs hbs=>?_)))))))))))))))
  obtain⟨b5,rfl⟩:=dw hbs
  refine .memEq (M':=[_,_,_,_,_,_]) rfl (.cv (Cv.wk (.k 6 rfl (.k 7 rfl (.k 8 rfl (.k 9 rfl (.k 35 rfl (.cons (t:=11) (Has.op rfl) .nil))))))) (.store (.t rfl) (.t rfl) (i:=0) rfl zL rfl rfl (Ss':=[_,_,_]) rfl (M':=[(some _,zC [_,_,_]),_,_,_,_,_]) rfl (nkQ k6 (.sq fun k7=>.sr fun k8=>stM rfl (st (.nilc (.t rfl)) rfl (st (.fieldAddr (.t rfl) xk zu) rfl (st (.load1 (.t rfl) (i:=1) rfl zu rfl) rfl (st (.len qn (.t rfl)) rfl (st (.mv (.cI 0 rfl)) rfl (nkQ k8 (.block (.loopF [6,7,8,9,11,39,40] (fun (_:Unit)=>[(41,isI 0)]) (fun M=>fun (_:Unit)=>M) (fun (_:Unit)=>0) (()) (Cv.mem (.c 41 rfl ?_ (.l [6,7,8,9,11,39,40] rfl)) ?_) ?_))))))))))))
  ·rfl
  ·rfl
  rintro _ K9 hK9
  refine .w [41,6,7,8,9,11,39,40] rfl (.sr fun k10=>st (.ltI (.t rfl) (.t rfl)) rfl (nkQ k10 (.sq fun k11=>.cd rfl (fun hc2=>?_) (fun hc2=>?_))))
  ·exfalso;omega
  ·refine .exit (.the (.the (.blh (.nk k7 (.sq fun k12=>.drh [true,true,false,true,true,true] (Ms:=[_,_,_,_,_]) rfl (.so [] rfl (.load (.t rfl) (i:=0) rfl zL rfl (Ss':=[_,_,_]) rfl) (.m [] rfl (.so [52] rfl (.nilc (.t rfl)) (.so [53] rfl (.fieldAddr (.t rfl) fL ty3) (.so [54] rfl (.load1 (.t rfl) (i:=1) rfl ty3 rfl) (.mid2 (.cons_cons _ (.cons_cons _ (.cons _ (.cons_cons _ (.cons_cons _ (.cons_cons _ .slnil)))))) (.st0 [51] rfl rfl (by kernel_rfl) (by kernel_rfl) (StS.store (.t rfl) (.t rfl) (i:=2) rfl zL rfl rfl (Ss':=[_,_,_]) rfl (M':=[_,_,(some _,zC [_,_,_]),_,_,_]) rfl) (.cons_cons _ (.cons_cons _ (.cons _ (.cons_cons _ (.cons_cons _ (.cons_cons _ .slnil)))))) (.fin0 (n:=6) zW rfl (by kernel_rfl) (by kernel_rfl) (by kernel_rfl) (.w [6,7,8,55] rfl (stM rfl (st (.as (.cI 0 rfl)) rfl (nkQ k12 (.ret (fp (.cons _ (.cons _ (.cons _ (.cons _ (.cons _ (.cons _ .slnil)))))) (.inl rfl) Tryz.results29 rfl rfl (.cell rfl (i:=2) rfl zL rfl rfl (.tmp (.t rfl) (.tmp (.t rfl) .nil))) (⟨rfl,rfl⟩))))))))))))))))))))
end Go.Proofs.YtchbfpcaibfkdaaGreat
namespace Go.Ch
open Go.Dt Go.Dt.RowF
/-! ### polynomials as functions -/
def pe (c:Nat→Int) (d:Nat) (x:Int):Int:=sm d fun i=>c i*x^i
theorem zDO (c:Nat→Int) (d:Nat) (x:Int):pe c (d+1) x=c 0+x*pe (fun i=>c (i+1)) d x:=by
 unfold pe
 rw[bV,Int.pow_zero,Int.mul_one,←xf]
 congr 1
 exact zS fun i _=>by rw[Int.pow_succ];grind
theorem zHY (x y:Int) (c e:Nat→Int) (d:Nat) (z:Int):pe (fun i=>x*c i+y*e i) d z=x*pe c d z+y*pe e d z:=by
 unfold pe
 rw[←wV]
 exact zS fun i _=>by grind
theorem zDN (c:Nat→Int) (d:Nat) (x:Int):pe c (d+1) x=pe c d x+c d*x^d:=rfl
theorem yP {c e:Nat→Int} {d:Nat} (h:∀i,i<d→c i=e i) (x:Int):pe c d x=pe e d x:=zS fun i hi=>by rw[h i hi]
def PL (n:Nat) (f:Int→Int) (t:Int):Prop:=∃c:Nat→Int,(∀x,f x=pe c (n+1) x)∧c n=t
theorem PL.const (a:Int):PL 0 (fun _=>a) a:=⟨fun _=>a,fun x=>by show a=0+a*x^0;rw[Int.pow_zero];omega,rfl⟩
theorem PL.up {n:Nat} {f:Int→Int} {t:Int} (h:PL n f t):PL (n+1) f 0:=by
 obtain⟨c,hc,_⟩:=h
 refine⟨fun i=>if i≤n then c i else 0,fun x=>?_,if_neg (by omega)⟩
 rw[zDN,if_neg (by omega),Int.zero_mul,Int.add_zero,hc]
 exact yP (fun i hi=>(if_pos (by omega)).symm) x
theorem PL.lin {n:Nat} {f g:Int→Int} {s t:Int} (a b:Int) (hf:PL n f s) (hg:PL n g t):PL n (fun x=>a*f x+b*g x) (a*s+b*t):=by
 obtain⟨c,hc,rfl⟩:=hf
 obtain⟨e,he,rfl⟩:=hg
 exact⟨fun i=>a*c i+b*e i,fun x=>by dsimp only;rw[zHY,hc,he],rfl⟩
theorem PL.shift {n:Nat} {f:Int→Int} {t:Int} (h:PL n f t):PL (n+1) (fun x=>x*f x) t:=by
 obtain⟨c,hc,rfl⟩:=h
 refine⟨fun i=>if i=0 then 0 else c (i-1),fun x=>?_,by dsimp only;rw[if_neg (by omega)];rfl⟩
 dsimp only
 rw[zDO,if_pos rfl,Int.zero_add,hc]
 congr 1
theorem PL.mul {n:Nat} {g:Int→Int} {t:Int} (a b:Int) (h:PL n g t):PL (n+1) (fun x=>(a*x+b)*g x) (a*t):=by
 have:=PL.lin a b h.shift h.up
 rw[Int.mul_zero,Int.add_zero] at this
 obtain⟨c,hc,ht⟩:=this
 exact⟨c,fun x=>by rw[←hc];dsimp only;grind,ht⟩
theorem PL.zero (n:Nat):PL n (fun _=>0) 0:=⟨fun _=>0,fun x=>by unfold pe;rw[xu fun i _=>Int.zero_mul _],rfl⟩
theorem PL.sum {n:Nat} {f:Nat→Int→Int} {t:Nat→Int}:∀{m:Nat},(∀k,k<m→PL n (f k) (t k))→PL n (fun x=>sm m fun k=>f k x) (sm m t)
  | 0,_=>PL.zero n
  | m+1,h=>by
    have h1:=PL.sum (m:=m) fun k hk=>h k (by omega)
    have h2:=PL.lin 1 1 h1 (h m (by omega))
    obtain⟨c,hc,ht⟩:=h2
    exact⟨c,fun x=>by rw[←hc];dsimp only;show sm m (fun k=>f k x)+f m x=_;omega,by rw[ht];show _=sm m t+t m;omega⟩
theorem PL.det : ∀(n:Nat) (a b:zI),PL n (fun x=>Go.Dt.det n fun i j=>a i j*x+b i j) (Go.Dt.det n a)
  | 0,a,b=>PL.const 1
  | n+1,a,b=>by
    have h:PL (n+1) (fun x=>sm (n+1) fun k=>sg k*((a 0 k*x+b 0 k)*Go.Dt.det n fun i j=>a (i+1) (skip k j)*x+b (i+1) (skip k j))) (sm (n+1) fun k=>sg k*(a 0 k*Go.Dt.det n fun i j=>a (i+1) (skip k j))):=
      PL.sum (f:=fun k x=>sg k*((a 0 k*x+b 0 k)*Go.Dt.det n fun i j=>a (i+1) (skip k j)*x+b (i+1) (skip k j))) (t:=fun k=>sg k*(a 0 k*Go.Dt.det n fun i j=>a (i+1) (skip k j))) fun k _=>by
        have h1:=PL.lin (sg k) 0 (PL.mul (a 0 k) (b 0 k) (PL.det n (fun i j=>a (i+1) (skip k j)) fun i j=>b (i+1) (skip k j))) (PL.zero (n+1))
        obtain⟨c,hc,ht⟩:=h1
        exact⟨c,fun x=>by rw[←hc];dsimp only;omega,by rw[ht];omega⟩
    exact h
/-! ### the characteristic polynomial -/
def xm (A:zI) (x:Int):zI:=fun i j=>one i j*x + -(A i j)
theorem cp_ex (n:Nat) (A:zI):∃c:Nat→Int,(∀x,det n (xm A x)=pe c (n+1) x)∧c n=1:=by
 have:=PL.det n one fun i j => -(A i j)
 rw[br] at this
 exact this
noncomputable def cp (n:Nat) (A:zI):Nat→Int:=Classical.choose (cp_ex n A)
/-! ### the trace -/
end Go.Ch
namespace Go.Tr
open Go.Nt Go.Pz Go.Mz Go.En Go.Hn Go.Hp Go.Dt Go.Br Go.Ch
theorem ut {s0:BS} (h0:s0.ps=[]):∀{c:Nat} {s:BS},BRun s0 c s→s.ps.length≤c∧(c≤s.ps.length→0<c→∃r,s.rows[c-1]?=some r∧cf r (c-1)=s.last):=by
  intro c s h
  induction h with
  | zero=>exact⟨by rw[h0];exact Nat.le_refl _,fun _ h=>absurd h (Nat.lt_irrefl _)⟩
  | @step c s s' h hs ih=>
    rcases hs with ⟨rfl,_⟩|⟨i,r,t,sw,hti,hi,ht,hne,hsw,k1,k2,k3,k4,k5⟩
    · exact⟨Nat.le_succ_of_le ih.1,fun h=>by have:=ih.1;omega⟩
    · refine⟨by rw[k3,List.length_append];have:=ih.1;show _+1≤_;omega,fun hc _=>?_⟩
      rw[k3,List.length_append] at hc
      change c+1≤s.ps.length+1 at hc
      have e:s.ps.length=c:=by have:=ih.1;omega
      refine⟨r,?_,by rw[k4];rfl⟩
      rw[Nat.add_sub_cancel,k2 c,if_neg (by omega),hsw]
      have hil:i<s.rows.length:=Go.Hn.lt_of_some hi
      have htl:s.ps.length<s.rows.length:=Go.Hn.lt_of_some ht
      split
      · next h=>rw[←e,←h];exact hi
      · rw[←e];exact List.getElem?_set_self (by rw[List.length_set];exact htl)
def MulB (R C K:Nat) (L:List Int) (b:Int):Prop:=0<b∧(List.length (zA b.natAbs))≤(K+1)*2^R∧C≤R∧∃q:List Nat,q.length=C∧(∀x∈q,x<R)∧q.Nodup∧b=((mn (mf C L) q (List.range C).reverse).natAbs:Int)
theorem el {R C K:Nat} {L:List Int} {rs:List Row} {ps:List Nat} {last:Int} {odd:Bool} (h:RunI ⟨rowsOf R C L,[],1,false⟩ C K R C rs ps last odd) (hp:ps.length=C):MulB R C K L ((last.natAbs:Nat):Int)∧(0<C→∃r,rs[C-1]?=some r∧cf r.2 (C-1)=last):=by
  obtain⟨q,hq⟩:=BI.all (BI.start (mf C L) (R:=R) (C:=C) (L:=L) fun _ _ _ _=>rfl) h.run (Nat.le_refl _)
  have hps:ps=List.range C:=hq.psl.eq_of_length_le (by rw[List.length_range];exact Nat.le_of_eq hp.symm)
  have hl:=hq.hl
  have h0:=hq.h0
  change last=mn (mf C L) (q.take ps.length).reverse ps.reverse at hl
  change last≠0 at h0
  have hR:ps.length≤R:=hq.hps
  refine⟨⟨by omega,?_,by omega,(q.take ps.length).reverse,?_,fun x hx=>hq.lt x (List.mem_of_mem_take (List.mem_reverse.1 hx)),(List.reverse_perm _).nodup_iff.2 (hq.nd.sublist (List.take_sublist _ _)),?_⟩,fun hC=>?_⟩
  · rw[Int.natAbs_natCast]
    have h1:=h.hl
    have h2:(K+1)*2^ps.length≤(K+1)*2^R:=Nat.mul_le_mul_left _ (Nat.pow_le_pow_right (by decide) hR)
    omega
  · rw[List.length_reverse,List.length_take,hq.hq];omega
  · rw[←hps,←hl]
  · obtain⟨r,hr,e⟩:=(ut (s0:=⟨rowsOf R C L,[],1,false⟩) rfl h.run).2 (Nat.le_of_eq hp.symm) hC
    change (rs.map Prod.snd)[C-1]?=some r at hr
    rw[List.getElem?_map] at hr
    cases h1:rs[C-1]? with
    | none=>rw[h1] at hr;cases hr
    | some r1=>
      rw[h1] at hr
      obtain rfl:=Option.some.inj hr
      exact⟨r1,rfl,e⟩
end Go.Tr
namespace Go.Tr
open Go.Nt Go.Pz Go.Mz Go.En Go.Hn Go.Hp Go.Dt
theorem mg (A:zI) {cs l1 l2:List Nat} (h:l1.Perm l2):∀pre:List Nat,(mn A (pre++l1) cs).natAbs=(mn A (pre++l2) cs).natAbs:=by
  induction h with
  | nil=>exact fun pre=>rfl
  | cons x h ih=>
    intro pre
    have:=ih (pre++[x])
    rw[List.append_assoc,List.append_assoc] at this;exact this
  | swap x y l=>
    intro pre
    have hlen:(pre++y::x::l).length=(pre++x::y::l).length:=by simp
    have hp:pre.length+1<(pre++x::y::l).length:=by simp only[List.length_append,List.length_cons];omega
    have hR:=xK (pre++x::y::l).length
    have ea:∀(a b:Nat),(pre++a::b::l).getD pre.length 0=a:=fun a b=>by
      rw[List.getD,List.getElem?_append_right (Nat.le_refl _),Nat.sub_self];rfl
    have eb:∀(a b:Nat),(pre++a::b::l).getD (pre.length+1) 0=b:=fun a b=>by
      rw[List.getD,List.getElem?_append_right (by omega),show pre.length+1-pre.length=1 by omega];rfl
    have ec:∀(i:Nat),i≠pre.length→i≠pre.length+1→(pre++y::x::l).getD i 0=(pre++x::y::l).getD i 0:=fun i h1 h2=>by
      rw[List.getD,List.getD]
      rcases Nat.lt_or_ge i pre.length with h3|h3
      · rw[List.getElem?_append_left h3,List.getElem?_append_left h3]
      · obtain⟨d,rfl⟩:∃d,i=pre.length+(d+2):=⟨i-pre.length-2,by omega⟩
        rw[List.getElem?_append_right (by omega),List.getElem?_append_right (by omega),Nat.add_sub_cancel_left];rfl
    have e1:sub A (pre++x::y::l) cs=zw (zw (sub A (pre++x::y::l) cs) pre.length (sub A (pre++x::y::l) cs pre.length)) (pre.length+1) (sub A (pre++x::y::l) cs (pre.length+1)):=by rw[RowF.set_self,RowF.set_self]
    have e2:sub A (pre++y::x::l) cs=zw (zw (sub A (pre++x::y::l) cs) pre.length (sub A (pre++x::y::l) cs (pre.length+1))) (pre.length+1) (sub A (pre++x::y::l) cs pre.length):=by
      funext i j
      unfold zw
      by_cases h2:i=pre.length+1
      · rw[if_pos h2,h2];unfold sub;rw[eb,ea]
      · rw[if_neg h2]
        by_cases h1:i=pre.length
        · rw[if_pos h1,h1];unfold sub;rw[ea,eb]
        · rw[if_neg h1];unfold sub;rw[ec i h1 h2]
    unfold mn
    rw[hlen,e2,hR.swap _ (by omega) hp (by omega),←e1,Int.natAbs_neg]
  | trans _ _ ih1 ih2=>exact fun pre=>(ih1 pre).trans (ih2 pre)
theorem mn_abs {A:zI} {cs l1 l2:List Nat} (h:l1.Perm l2):(mn A l1 cs).natAbs=(mn A l2 cs).natAbs:=mg A h []
theorem zAO {n j:Nat} (h:j<n):(List.range n).getD j 0=j:=by rw[List.getD,List.getElem?_range h];rfl
theorem ye {A:zI} {Y:List Nat} {C:Nat} (hY:Y.length=C):mn A Y (List.range C)=det C fun i j=>A (Y.getD i 0) j:=by
 unfold mn;rw[hY];exact zy fun i j _ hj=>by unfold sub;rw[zAO hj]
theorem ue {g:Int} {f:Nat→Int}:∀{n:Nat},(∀i,i<n→g∣f i)→g∣sm n f
 | 0,_=>⟨0,(Int.mul_zero g).symm⟩
 | n+1,h=>Int.dvd_add (ue fun i hi=>h i (by omega)) (h n (by omega))
theorem tE {C:Nat} {f:Nat→Nat} (h:∀i j,i<C→j<C→f i=f j→i=j):((List.range C).map f).Nodup:=by
 refine List.pairwise_map.2 (List.Pairwise.imp_of_mem (fun {a b} ha hb hab e=>hab (h a b (List.mem_range.1 ha) (List.mem_range.1 hb) e)) List.nodup_range)
theorem zBZ {A:zI} {R C:Nat} {g:Int} (h:∀Y,Y∈zU R C→g∣mn A Y (List.range C)) {f:Nat→Nat} (hf:∀i,i<C→f i<R):g∣det C fun i j=>A (f i) j:=by
 obtain⟨l,hl⟩:∃l,l=(List.range C).map f:=⟨_,rfl⟩
 have hll:l.length=C:=by rw[hl,List.length_map,List.length_range]
 have hld:∀i,i<C→l.getD i 0=f i:=fun i hi=>by rw[hl,List.getD,List.getElem?_map,List.getElem?_range hi];rfl
 have e:(det C fun i j=>A (f i) j)=mn A l (List.range C):=by
  rw[ye hll];exact zy fun i j hi _=>by rw[hld i hi]
 by_cases hn:∀i j,i<C→j<C→f i=f j→i=j
 ·obtain⟨Y,hY,hp⟩:=jd R C l (by rw[hl];exact tE hn) hll (fun x hx=>by rw[hl] at hx;obtain⟨i,hi,rfl⟩:=List.mem_map.1 hx;exact hf i (List.mem_range.1 hi))
  rw[e,←Int.dvd_natAbs,←mn_abs hp,Int.dvd_natAbs]
  exact h Y hY
 ·obtain⟨i,j,hi,hj,he,hne⟩:∃i j,i<C∧j<C∧f i=f j∧i≠j:=by
   refine Classical.byContradiction fun hno=>hn fun i j hi hj he=>Classical.byContradiction fun hne=>hno ⟨i,j,hi,hj,he,hne⟩
  rw[(xK C).eqr hi hj hne fun k _=>by show A (f i) k=A (f j) k;rw[he]]
  exact⟨0,(Int.mul_zero g).symm⟩
theorem ie {A:zI} {R C:Nat} {g:Int} (h:∀Y,Y∈zU R C→g∣mn A Y (List.range C)):∀t:Nat,t≤C→∀B:zI,(∀i,i<t→SpZ R C A (B i))→(∀i,t≤i→i<C→∃k,k<R∧B i=A k)→g∣det C B
  | 0,_,B,_,h2=>by
    have hf:∀i,∃k,i<C→k<R∧B i=A k:=fun i=>by
      by_cases hi:i<C
      · obtain⟨k,hk⟩:=h2 i (Nat.zero_le _) hi;exact⟨k,fun _=>hk⟩
      · exact⟨0,fun h=>absurd h hi⟩
    rw[show det C B=det C fun i j=>A (Classical.choose (hf i)) j from zy fun i j hi _=>congrFun (Classical.choose_spec (hf i) hi).2 j]
    exact zBZ h fun i hi=>(Classical.choose_spec (hf i) hi).1
  | t+1,ht,B,h1,h2=>by
    obtain⟨c,hc⟩:=h1 t (Nat.lt_succ_self t)
    have e:det C B=sm R fun k=>c k*det C (zw B t (A k)):=by
      rw[←(xK C).sum B (r:=t) (by omega) c A R]
      refine zy fun i j hi hj=>?_
      unfold zw
      split
      · next e=>rw[e];exact hc j hj
      · rfl
    rw[e]
    refine ue fun k hk=>Int.dvd_trans (ie h t (by omega) (zw B t (A k)) (fun i hi=>by rw[RowF.set_ne _ (by omega)];exact h1 i (by omega)) fun i hi hiC=>?_) ⟨c k,Int.mul_comm _ _⟩
    by_cases e:i=t
    · subst e;exact⟨k,hk,RowF.set_at _ _ _⟩
    · rw[RowF.set_ne _ e];exact h2 i (by omega) hiC
theorem rQ (f:Nat→Int):∀n:Nat,pd (n+1) f=f 0*pd n fun i=>f (i+1)
  | 0=>by show 1*f 0=f 0*1;omega
  | n+1=>by
    have ih:=rQ f n
    show pd (n+1) f*f (n+1)=f 0*(pd n (fun i=>f (i+1))*f (n+1))
    rw[ih,Int.mul_assoc]
theorem kR : ∀(n:Nat) (B:zI),(∀i j,j<i→i<n→B i j=0)→det n B=pd n fun i=>B i i
  | 0,_,_=>rfl
  | n+1,B,h=>by
    rw[←aX,eD fun j hj=>by show B (j+1) 0=0;exact h _ _ (by omega) (by omega),rQ]
    have:=kR n (fun i j=>B (i+1) (j+1)) fun i j hij hi=>h _ _ (by omega) (by omega)
    rw[←aX] at this
    rw[←this];rfl
/-! ### fewer pivots than columns -/
end Go.Tr
namespace Go.Hp
open Go.Dt Go.Nt Go.En Go.Mz Go.Tr Go.Pz
variable {R P C : Nat} {L H : zI} {B : Int}
theorem px {f g:Nat→Int}:∀m:Nat,(∀s,s<m → -(g s)≤f s∧f s≤g s) → -(Dt.sm m g)≤Dt.sm m f∧Dt.sm m f≤Dt.sm m g
  | 0,_=>by show -(0:Int)≤0∧(0:Int)≤0;omega
  | m+1,h=>by
    have h1:=px m fun s hs=>h s (by omega)
    have h2:=h m (by omega)
    show -(Dt.sm m g+g m)≤Dt.sm m f+f m∧Dt.sm m f+f m≤Dt.sm m g+g m
    omega
theorem fg (B:Int):∀m:Nat,(Dt.sm m fun r=>2^r*B)+B=2^m*B
  | 0=>by show (0:Int)+B=2^0*B;rw[Int.pow_zero];omega
  | m+1=>by
    have:=fg B m
    show (Dt.sm m fun r=>2^r*B)+2^m*B+B=2^(m+1)*B
    rw[Int.pow_succ]
    have:(2:Int)^m*2*B=2^m*B+2^m*B:=by grind
    omega
theorem tY (hF:HermF P C H) (h1:∀i,i<P→fc C (H i)<C) (hB:0≤B) {v:Nat→Int} {w:Nat→Int} (hv:∀k,k<C→v k=Dt.sm P fun m=>w m*H m k) (hb:∀k,k<C → -B≤v k∧v k≤B):
    ∀m:Nat,m<P → -(2^m*B)≤w m∧w m≤2^m*B:=fun m=>by
  induction m using Nat.strongRecOn with
  | _ m ih=>
    intro hm
    have hp:=h1 m hm
    have hpos:=(hF m hm hp).2.1
    have e:=hv _ hp
    have hvb:=hb _ hp
    obtain⟨p,hpp⟩:∃p,p=fc C (H m):=⟨_,rfl⟩
    rw[←hpp] at e hvb hpos
    have e2:(Dt.sm P fun r=>w r*H r p)=(Dt.sm m fun r=>w r*H r p)+w m*H m p:=by
      have hz:∀r,m+1≤r→r<P→(fun r=>w r*H r p) r=0:=fun r hr hrP=>by
        show w r*H r p=0
        rw[hF.later (i:=m) (j:=r) (by omega) hrP hp (by rw[hpp];exact Nat.le_refl _),Int.mul_zero]
      rw[ko (P:=m+1) (R:=P) (by omega) hz];rfl
    rw[e2] at e
    have h2:=px (f:=fun r=>w r*H r p) (g:=fun r=>H m p*(2^r*B)) m fun r hr=>by
      have hw:=ih r hr (by omega)
      obtain⟨x0,x1⟩:=(hF m hm hp).2.2 r hr
      rw[←hpp] at x0 x1
      show -(H m p*(2^r*B))≤w r*H r p∧w r*H r p≤H m p*(2^r*B)
      obtain⟨T,hT⟩:∃T,T=2^r*B:=⟨_,rfl⟩
      have hT0:0≤T:=by rw[hT];exact Int.mul_nonneg (Int.le_of_lt (Int.pow_pos (by decide))) hB
      rw[←hT] at hw⊢
      generalize w r=x at*
      generalize H r p=y at*
      generalize H m p=z at*
      have a1:=Int.mul_nonneg (show 0≤T-x by omega) x0
      have a2:=Int.mul_nonneg (show 0≤T+x by omega) x0
      have a3:=Int.mul_nonneg hT0 (show 0≤z-y by omega)
      constructor <;> grind
    rw[xf] at h2
    have h3:=fg B m
    obtain⟨S,hS⟩:∃S,S=Dt.sm m fun r=>2^r*B:=⟨_,rfl⟩
    rw[←hS] at h2 h3
    obtain⟨X,hX⟩:∃X,X=(2:Int)^m*B:=⟨_,rfl⟩
    rw[←hX] at h3⊢
    generalize (Dt.sm m fun r=>w r*H r p)=s at*
    generalize H m p=z at*
    generalize w m=x at*
    have h4:B≤z*B:=by have:1*B≤z*B:=Int.mul_le_mul_of_nonneg_right (by omega) hB;omega
    have h5:z*S+z*B=z*X:=by rw[←Int.mul_add,h3]
    have h6 : -(z*X)≤x*z∧x*z≤z*X:=by omega
    constructor
    · rcases Int.lt_or_le x (-X) with g|g
      · exfalso
        have:=Int.mul_lt_mul_of_pos_right g hpos
        have : -X*z = -(z*X):=by grind
        omega
      · exact g
    · rcases Int.lt_or_le X x with g|g
      · exfalso
        have:=Int.mul_lt_mul_of_pos_right g hpos
        have:X*z=z*X:=Int.mul_comm _ _
        omega
      · exact g
theorem nK (hF:HermF P C H) (h1:∀i,i<P→fc C (H i)<C) (hE:Eqv R P C L H):
    ∃(V:zI) (Y:Nat→Nat),(∀i k,i<R→k<C→L i k=Dt.sm P fun m=>V i m*H m k)∧(∀i,i<P→Y i<R)∧det P (fun m i=>V (Y i) m)≠0∧
      ∀m j,m<P→j<C→det P (zw (fun m i=>V (Y i) m) m fun i=>L (Y i) j)=H m j*det P (fun m i=>V (Y i) m):=by
  have hV:∀i,∃c:Nat→Int,i<R→∀k,k<C→L i k=Dt.sm P fun m=>c m*H m k:=fun i=>by
    by_cases hi:i<R
    · obtain⟨c,hc⟩:=hE.1 i hi
      exact⟨c,fun _=>hc⟩
    · exact⟨fun _=>0,fun h=>absurd h hi⟩
  obtain⟨V,hVm⟩:∃V:zI,∀i,i<R→∀k,k<C→L i k=Dt.sm P fun m=>V i m*H m k:=⟨fun i=>Classical.choose (hV i),fun i hi=>Classical.choose_spec (hV i) hi⟩
  -- the identity's rows are sums of the coefficients' rows
  have hI:∀m,m<P→SpZ R P V (one m):=fun m hm=>by
    obtain⟨c,hc⟩:=hE.2 m hm
    have h0:∀k,k<C→(Dt.sm P fun r=>((Dt.sm R fun i=>c i*V i r)-one m r)*H r k)=0:=fun k hk=>by
      have e1:(Dt.sm P fun r=>((Dt.sm R fun i=>c i*V i r)-one m r)*H r k)=1*(Dt.sm P fun r=>(Dt.sm R fun i=>c i*V i r)*H r k)+(-1)*Dt.sm P fun r=>one m r*H r k:=by
        rw[←wV]
        exact zS fun r _=>by grind
      have e2:(Dt.sm P fun r=>one m r*H r k)=H m k:=by
        have:=wq (fun r=>H r k) hm
        rw[←this]
        refine zS fun r _=>?_
        unfold one
        by_cases g:r=m
        · subst g;rfl
        · rw[if_neg (fun e=>g e.symm),if_neg g]
      have e3:(Dt.sm P fun r=>(Dt.sm R fun i=>c i*V i r)*H r k)=Dt.sm R fun i=>c i*L i k:=by
        have:(Dt.sm P fun r=>(Dt.sm R fun i=>c i*V i r)*H r k)=Dt.sm P fun r=>Dt.sm R fun i=>c i*(V i r*H r k):=zS fun r _=>by
          rw[Int.mul_comm,←xf]
          exact zS fun i _=>by grind
        rw[this,cm]
        refine zS fun i hi=>?_
        rw[hVm i hi k hk,←xf]
      rw[e1,e2,e3,←hc k hk];omega
    have:=gW hF (Nat.le_refl P) h1 (fun i a b=>absurd b (by omega)) h0
    exact⟨c,fun r hr=>by have:=this r hr;omega⟩
  obtain⟨Yl,hY,hne⟩:∃Yl,Yl∈zU R P∧mn V Yl (List.range P)≠0:=by
    refine Classical.byContradiction fun hno=>?_
    have hall:∀Y,Y∈zU R P→(0:Int)∣mn V Y (List.range P):=fun Y hY=>by
      have:mn V Y (List.range P)=0:=Classical.byContradiction fun h=>hno ⟨Y,hY,h⟩
      rw[this];exact⟨0,rfl⟩
    have:=ie hall P (Nat.le_refl _) one (fun i hi=>hI i hi) (fun i a b=>absurd b (by omega))
    rw[br] at this
    obtain⟨c,hc⟩:=this
    omega
  obtain⟨hYl,hYR⟩:=vJ R P Yl hY
  rw[ye hYl] at hne
  have hYi:∀i,i<P→Yl.getD i 0<R:=fun i hi=>hYR _ (vV (by omega))
  have hne':det P (fun m i=>V (Yl.getD i 0) m)≠0:=by
    have e:=aX P fun i j=>V (Yl.getD i 0) j
    rw[←e] at hne;exact hne
  refine⟨V,fun i=>Yl.getD i 0,fun i k hi hk=>hVm i hi k hk,hYi,hne',fun m j hm hj=>?_⟩
  have e1:det P (zw (fun m i=>V (Yl.getD i 0) m) m fun i=>L (Yl.getD i 0) j)=det P (zw (fun m i=>V (Yl.getD i 0) m) m fun i=>Dt.sm P fun k=>H k j*(fun m i=>V (Yl.getD i 0) m) k i):=by
    refine zy fun a i ha hi=>?_
    unfold zw
    split
    · show L (Yl.getD i 0) j=Dt.sm P fun k=>H k j*V (Yl.getD i 0) k
      rw[hVm _ (hYi i hi) j hj]
      exact zS fun k _=>Int.mul_comm _ _
    · rfl
  rw[e1,(xK P).sum _ hm (fun k=>H k j) (fun m i=>V (Yl.getD i 0) m) P,aK (c:=m) hm fun k hk hkm=>?_,RowF.set_self]
  rw[(xK P).eqr hm hk (fun e=>hkm e.symm) fun i hi=>by rw[RowF.set_at,RowF.set_ne _ hkm],Int.mul_zero]
theorem zED {K:Nat} {x:Int} (h:(List.length (zA x.natAbs))≤K) : -((W:Int)^K)≤x∧x≤(W:Int)^K:=by
 have h1:=xI x.natAbs
 have h2:W^(List.length (zA x.natAbs))≤W^K:=Nat.pow_le_pow_right (by decide) h
 have h3:((W^K:Nat):Int)=(W:Int)^K:=Int.natCast_pow _ _
 rw[←h3]
 omega
theorem zER {K:Nat} (hP:P≤63) (hF:HermF P C H) (h1:∀i,i<P→fc C (H i)<C) (hE:Eqv R P C L H) (hb:∀i k,(List.length (zA (L i k).natAbs))≤K) {m j:Nat} (hm:m<P) (hj:j<C):(List.length (zA (H m j).natAbs))≤P*(K+2+P)+1:=by
 obtain⟨V,Y,g1,g2,g3,g4⟩:=nK hF h1 hE
 have hVb:∀i r,i<R→r<P→(List.length (zA (V i r).natAbs))≤K+2:=fun i r hi hr=>by
  have hc:=tY hF h1 (B:=(W:Int)^K) (Int.le_of_lt (Int.pow_pos (by decide))) (fun k hk=>g1 i k hi hk) (fun k _=>zED (hb i k)) r hr
  refine ay ?_
  have h2:(2:Int)^r*(W:Int)^K=((2^r*W^K:Nat):Int):=by rw[Int.natCast_mul,Int.natCast_pow,Int.natCast_pow];rfl
  rw[h2] at hc
  have h3:2^r<W:=Nat.lt_of_lt_of_le (Nat.pow_lt_pow_right (by decide) (show r<64 by omega)) (by decide)
  have h4:2^r*W^K≤W*W^K:=Nat.mul_le_mul_right _ (Nat.le_of_lt h3)
  have h5:W^(K+2)=W*(W*W^K):=by rw[Nat.pow_succ,Nat.pow_succ];grind
  have h6:1≤W^K:=Nat.pow_pos (by decide)
  have h7:2*(W*W^K)≤W*(W*W^K):=Nat.mul_le_mul_right _ (by decide)
  have h8:1*1≤W*W^K:=Nat.mul_le_mul (by decide) h6
  omega
 have e:=g4 m j hm hj
 have hT:=gn (A:=fun a i=>if a<P∧i<P then zw (fun m i=>V (Y i) m) m (fun i=>L (Y i) j) a i else 0) (K:=K+2) (fun a i=>by
  show (List.length (zA (Int.natAbs (if a<P∧i<P then _ else 0))))≤_
  split
  ·rename_i g
   show (List.length (zA (Int.natAbs (if a=m then L (Y i) j else V (Y i) a))))≤_
   split
   ·exact Nat.le_trans (hb _ _) (by omega)
   ·exact hVb _ _ (g2 i g.2) g.1
  ·rw[Int.natAbs_zero,zJ];exact Nat.zero_le _) P
 have e2:det P (fun a i=>if a<P∧i<P then zw (fun m i=>V (Y i) m) m (fun i=>L (Y i) j) a i else 0)=det P (zw (fun m i=>V (Y i) m) m fun i=>L (Y i) j):=zy fun a i ha hi=>if_pos ⟨ha,hi⟩
 rw[e2,e] at hT
 refine Nat.le_trans (qF ?_) hT
 rw[Int.natAbs_mul]
 exact Nat.le_mul_of_pos_right _ (by omega)
end Go.Hp
namespace Go.Ll
open Go.Dt Go.Hp Go.Pz Go.En Go.Nt Go.Mz
/-! ### the lattice stays -/
theorem lL {n R:Nat} {A:zI} {i k:Nat} (hi:i<R) (hk:k<i) (c:Int):Eqv R R n (lsM A i k c) A:=by
 refine⟨fun r hr=>?_,fun r hr=>mp hk hi r hr⟩
 by_cases e:r=i
 ·subst e
  exact ((SpZ.row (R:=R) (W:=n) A hr).comb 1 (-c) (SpZ.row A (show k<R by omega))).congr fun j _=>by
   unfold lsM;rw[if_pos rfl];grind
 ·exact (SpZ.row A hr).congr fun j _=>by unfold lsM;rw[if_neg e]
theorem zCU (A:zI) (s:Nat):swM (swM A s) s=A:=by
 funext r
 by_cases e1:r=s
 ·subst e1;rw[ab,aa]
 ·by_cases e2:r=s+1
  ·subst e2;rw[aa,ab]
  ·rw[vA _ e1 e2,vA _ e1 e2]
theorem kl {n R:Nat} {A:zI} {s:Nat} (hs:s+1<R):Eqv R R n (swM A s) A:=
 ⟨fun r hr=>by have:=fY (n:=n) (A:=swM A s) (s:=s) (t:=R) (.inl hs) r hr;rwa [zCU] at this,fun r hr=>fY (.inl hs) r hr⟩
theorem LR.eqv {n R:Nat} {B:zI} {D N p q:Int} {ds0:List Int} {L0 U0:List (List Int)} {c:Nat} {ds:List Int} {L U:List (List Int)} {k:Nat} (h:LR n R B D N p q ds0 L0 U0 c ds L U k) {n':Nat} {B':zI} (h0:Eqv R R n' (uB R U0 B') B'):Eqv R R n' (uB R U B') B':=by
 induction h with
 | start=>exact h0
 | less h hj hjk hk hr hrk hu huk hrR ih=>rw[bP hu huk];exact (lL hk hjk _).trans ih
 | swap h hj hs h0' h1 hn he0 he hde hst hl hj' hd ih=>rw[bO h0' h1];exact (kl hs).trans ih
 | next h hj hk hst ih=>exact ih
/-! ### rows that hang on none of each other have minors above 0 -/
theorem zAP {n R:Nat} {A:zI} (h:∀a:Nat→Int,(∀k,k<n→(Dt.sm R fun i=>a i*A i k)=0)→∀i,i<R→a i=0):∀t,t≤R→0<gd n A t
  | 0,_=>by show 0<mn _ (rl 0) (rl 0);exact (by decide:(0:Int)<1)
  | t+1,ht=>by
    have ih:=zAP h t (by omega)
    have h3:=zGK n A t
    have h4:=xF n (gw n A t)
    rw[h3] at h4
    rcases Int.lt_trichotomy 0 (gd n A (t+1)) with g|g|g
    · exact g
    · exfalso
      rw[←g,Int.mul_zero] at h3
      have hz:=fG h3
      have hsp:=dM n A t
      obtain⟨c,hc⟩:=hsp
      have:=h (fun i=>if i<t then c i else if i=t then gd n A t else 0) (fun k hk=>by
        have h5:1*gw n A t k + -gd n A t*A t k=Dt.sm t fun i=>c i*A i k:=hc k hk
        rw[hz k hk] at h5
        have e:(Dt.sm R fun i=>(if i<t then c i else if i=t then gd n A t else 0)*A i k)=(Dt.sm t fun i=>c i*A i k)+gd n A t*A t k:=by
          have h6:∀r,t+1≤r→r<R→(fun i=>(if i<t then c i else if i=t then gd n A t else 0)*A i k) r=0:=fun r h7 h8=>by
            show (if r<t then c r else if r=t then gd n A t else 0)*A r k=0
            rw[if_neg (by omega),if_neg (by omega),Int.zero_mul]
          rw[ko (P:=t+1) (R:=R) ht h6]
          show (Dt.sm t _)+(if t<t then c t else if t=t then gd n A t else 0)*A t k=_
          rw[if_neg (by omega),if_pos rfl,zS fun i hi=>by rw[if_pos hi]]
        rw[e,←h5];grind) t (by omega)
      rw[if_neg (by omega),if_pos rfl] at this
      omega
    · exfalso
      have:=Int.mul_neg_of_pos_of_neg ih g
      omega
/-! ### sizes -/
def szD (n R:Nat) (A:zI):Int:=Dt.sm (R+1) (gd n A)
def szN (n R:Nat) (A:zI):Int:=((R:Nat):Int)*szD n R A+(Dt.sm R fun i=>ip n (A i) (A i))+1
def szQ (n R:Nat) (A:zI):Int:=szD n R A*szD n R A*(szN n R A*(10*(szD n R A*szD n R A*szN n R A))^R)
theorem bT {f:Nat→Int}:∀{m:Nat},(∀i,i<m→0≤f i)→∀i,i<m→f i≤Dt.sm m f
  | 0,_,i,hi=>by omega
  | m+1,h,i,hi=>by
    show f i≤Dt.sm m f+f m
    have h1:=bU (f:=f) (n:=m) fun i hi=>h i (by omega)
    have h2:=h m (by omega)
    rcases Nat.lt_or_ge i m with g|g
    · have:=bT (f:=f) (m:=m) (fun i hi=>h i (by omega)) i g;omega
    · obtain rfl:i=m:=by omega
      omega
section
variable {n R : Nat} {A : zI} (hpos : ∀ t, t ≤ R → 0 < gd n A t)
include hpos
theorem kg : ∀t,t≤R→gd n A t≤szD n R A:=fun t ht=>bT (fun i hi=>Int.le_of_lt (hpos i (by omega))) t (by omega)
theorem pr : 1≤szD n R A:=by have h1:=kg hpos 0 (Nat.zero_le _);have h2:=hpos 0 (Nat.zero_le _);omega
theorem cL : ((R:Nat):Int)*szD n R A≤szN n R A∧1≤szN n R A∧∀i,i<R→ip n (A i) (A i)≤szN n R A:=by
 have h1:=pr hpos
 have h2:0≤((R:Nat):Int)*szD n R A:=Int.mul_nonneg (by omega) (by omega)
 have h3:0≤Dt.sm R fun i=>ip n (A i) (A i):=bU fun i _=>xF n (A i)
 unfold szN
 refine⟨by omega,by omega,fun i hi=>?_⟩
 have:=bT (f:=fun i=>ip n (A i) (A i)) (m:=R) (fun i _=>xF n (A i)) i hi
 omega
theorem pq : 1≤szQ n R A:=by
 have h1:=pr hpos
 have h2:=(cL hpos).2.1
 have hf:1≤10*(szD n R A*szD n R A*szN n R A):=by
  have:=Int.mul_pos (Int.mul_pos (show 0<szD n R A by omega) (show 0<szD n R A by omega)) (show 0<szN n R A by omega)
  omega
 have h3:=cN hf R
 have h4:=Int.mul_pos (Int.mul_pos (show 0<szD n R A by omega) (show 0<szD n R A by omega)) (Int.mul_pos (show 0<szN n R A by omega) (show 0<(10*(szD n R A*szD n R A*szN n R A))^R by omega))
 unfold szQ;omega
theorem SZ.made {K:Nat} (hK:(List.length (zA ((szQ n R A*((R:Int)+1))^(R+1)).natAbs))≤K):SZ n R K A (szD n R A) (szN n R A) (szQ n R A) (gd n A) (gw n A) where
 od:=OD.made n R A hpos
 hd0:=kg hpos
 hB:=(cL hpos).2.2
 hQ1:=pq hpos
 hQ:=by
  have h1:=pq hpos
  have h2:1*szQ n R A≤szQ n R A*szQ n R A:=Int.mul_le_mul_of_nonneg_right h1 (by omega)
  show szQ n R A≤_
  omega
 hK:=hK
end
theorem og (x:Int):∀m:Nat,(List.length (zA (x^m).natAbs))≤m*(List.length (zA x.natAbs))+1
  | 0=>by rw[Int.pow_zero];exact Nat.le_trans (show (List.length (zA (1:Int).natAbs))≤1 from qL (by decide)) (by omega)
  | m+1=>by
    have h1:=og x m
    have h2:=qA (x^m) x
    rw[Int.pow_succ,Nat.succ_mul];omega
theorem zEV {n K:Nat} {A:zI} (h:∀i k,(List.length (zA (A i k).natAbs))≤K) (i k:Nat):(List.length (zA (qj n A i k).natAbs))≤K+K+n:=by
 refine ig (fun j=>?_) n
 have h1:=qA (A i j) (A k j)
 have h2:=h i j
 have h3:=h k j
 show (List.length (zA (A i j*A k j).natAbs))≤_
 omega
theorem gd_nw {n K:Nat} {A:zI} (h:∀i k,(List.length (zA (qj n A i k).natAbs))≤K) (t:Nat):(List.length (zA (gd n A t).natAbs))≤t*(K+t)+1:=by
 cases t with
 | zero=>exact Nat.le_trans (show (List.length (zA (1:Int).natAbs))≤1 from qL (by decide)) (by omega)
 | succ s=>rw[←ce];exact fU h s s s
theorem mC {n R K:Nat} {A:zI} (hR:R≤4) (h:∀i k,(List.length (zA (qj n A i k).natAbs))≤K):
  (List.length (zA (szD n R A).natAbs))≤4*K+22∧(List.length (zA (szN n R A).natAbs))≤4*K+25∧(List.length (zA ((szQ n R A*((R:Int)+1))^(R+1)).natAbs))≤300*K+2000:=by
 have h1:(List.length (zA (szD n R A).natAbs))≤4*K+22:=by
  have e:szD n R A=Dt.sm (R+1) fun t=>if t≤R then gd n A t else 0:=zS fun t ht=>by rw[if_pos (by omega)]
  have h2:=ig (f:=fun t=>if t≤R then gd n A t else 0) (K:=4*K+17) (fun t=>by
   show (List.length (zA (Int.natAbs (if t≤R then gd n A t else 0))))≤_
   split
   ·rename_i g
    have h3:=gd_nw h t
    have h4:t*(K+t)≤4*(K+4):=Nat.mul_le_mul (by omega) (by omega)
    omega
   ·rw[Int.natAbs_zero,zJ];exact Nat.zero_le _) (R+1)
  rw[e];omega
 have hR1:(List.length (zA ((R:Nat):Int).natAbs))≤1:=qL (by omega)
 have hR2:(List.length (zA ((R:Int)+1).natAbs))≤1:=qL (by omega)
 have h10:(List.length (zA (10:Int).natAbs))≤1:=qL (by decide)
 have h01:(List.length (zA (1:Int).natAbs))≤1:=qL (by decide)
 have h2:(List.length (zA (szN n R A).natAbs))≤4*K+25:=by
  have a1:=qA ((R:Nat):Int) (szD n R A)
  have a2:=ig (f:=fun i=>ip n (A i) (A i)) (K:=K) (fun i=>h i i) R
  have a3:=xh (((R:Nat):Int)*szD n R A) (Dt.sm R fun i=>ip n (A i) (A i))
  have a4:=xh (((R:Nat):Int)*szD n R A+Dt.sm R fun i=>ip n (A i) (A i)) 1
  unfold szN
  omega
 refine⟨h1,h2,?_⟩
 have b1:=qA (szD n R A) (szD n R A)
 have b2:=qA (szD n R A*szD n R A) (szN n R A)
 have b3:=qA 10 (szD n R A*szD n R A*szN n R A)
 have b4:=og (10*(szD n R A*szD n R A*szN n R A)) R
 have b5:=qA (szN n R A) ((10*(szD n R A*szD n R A*szN n R A))^R)
 have b6:=qA (szD n R A*szD n R A) (szN n R A*(10*(szD n R A*szD n R A*szN n R A))^R)
 have b7:=qA (szQ n R A) ((R:Int)+1)
 have b8:=og (szQ n R A*((R:Int)+1)) (R+1)
 have c1:R*(List.length (zA (10*(szD n R A*szD n R A*szN n R A)).natAbs))≤4*(List.length (zA (10*(szD n R A*szD n R A*szN n R A)).natAbs)):=Nat.mul_le_mul_right _ hR
 have c2:(R+1)*(List.length (zA (szQ n R A*((R:Int)+1)).natAbs))≤5*(List.length (zA (szQ n R A*((R:Int)+1)).natAbs)):=Nat.mul_le_mul_right _ (by omega)
 have e:szQ n R A=szD n R A*szD n R A*(szN n R A*(10*(szD n R A*szD n R A*szN n R A))^R):=rfl
 rw[←e] at b6
 omega
end Go.Ll
namespace Go.Ll
open Go.Dt Go.Hp Go.Pz Go.En Go.Nt Go.Mz Go.Hn
theorem lW {us:List Row} {P:Nat}:∀{i:Nat} {r:Row},(∀r∈us,r.2.length=P)→us[i]?=some r→∀j,j<P→cf (us.flatMap Prod.snd) (i*P+j)=cf r.2 j:=by
  induction us with
  | nil=>intro i r _ h;cases h
  | cons u us ih=>
    intro i r hl h j hj
    have hu:u.2.length=P:=hl u List.mem_cons_self
    show cf (u.2++us.flatMap Prod.snd) (i*P+j)=_
    unfold cf
    rw[List.getD_eq_getElem?_getD]
    cases i with
    | zero=>
      obtain rfl:u=r:=by simpa using h
      rw[Nat.zero_mul,Nat.zero_add,List.getElem?_append_left (by omega),List.getD_eq_getElem?_getD]
    | succ i=>
      have h':us[i]?=some r:=by simpa using h
      have:=ih (fun r hr=>hl r (List.mem_cons_of_mem _ hr)) h' j hj
      rw[Nat.succ_mul,List.getElem?_append_right (by omega),show i*P+P+j-u.2.length=i*P+j by omega,←List.getD_eq_getElem?_getD]
      exact this
theorem xa {us:List Row} {P:Nat} (hl:∀r∈us,r.2.length=P):(us.flatMap Prod.snd).length=us.length*P:=by
 have:=lX hl us.length (Nat.le_refl _)
 rwa [ry (Nat.le_refl _)] at this
theorem rv {us:List Row} {P K:Nat} (hl:∀r∈us,r.2.length=P) (hb:∀r∈us,Bd r.2 K):Bd (us.flatMap Prod.snd) K:=fun t=>by
 rcases Nat.lt_or_ge t (us.length*P) with g|g
 ·obtain⟨i,j,hi,hj,rfl⟩:=jv g
  obtain⟨r,hr⟩:∃r,us[i]?=some r:=⟨_,List.getElem?_eq_getElem hi⟩
  rw[lW hl hr j hj]
  exact hb r (List.mem_of_getElem? hr) j
 ·rw[wE (by rw[xa hl];exact g),Int.natAbs_zero,zJ];exact Nat.zero_le _
abbrev xw (R C:Nat) (L:List Int):zI:=mf C (dy R C L)
abbrev rkL (R C:Nat) (L:List Int):Nat:=(jw C (mf C (hL R C L)) R).length
variable {R C K : Nat} {L : List Int}
theorem jS : rkL R C L≤R:=cz _ _ _
theorem yt : (dy R C L).length=rkL R C L*C:=qi _ _ _
theorem dH (hb:Bd L K):∀i,i<rkL R C L→fc C (xw R C L i)<C:=fun i hi=>by
 obtain⟨P,h1,h2,h3,h4⟩:=dK (dL (R:=R) (C:=C) hb)
 have hP:rkL R C L=P:=by show (jw C (mf C (hL R C L)) R).length=P;rw[h4,List.length_map,List.length_range]
 rw[gg (g:=mf C (hL R C L) i) fun k hk=>fE hi hk]
 exact h2 i (by omega)
theorem fD (hb:Bd L K):∀t,t≤rkL R C L→0<gd C (xw R C L) t:=
 zAP fun a h0=>gW (bh hb) (Nat.le_refl _) (dH hb) (fun i h1 h2=>absurd h2 (by omega)) h0
theorem dx (hb:Bd L K) (hR:R≤4):Bd (dy R C L) (4*K+25):=fun t=>by
 rcases Nat.lt_or_ge t (rkL R C L*C) with g|g
 ·obtain⟨i,j,hi,hj,rfl⟩:=jv g
  have h1:(List.length (zA (xw R C L i j).natAbs))≤rkL R C L*(K+2+rkL R C L)+1:=zER (Nat.le_trans jS (by omega)) (bh hb) (dH hb) (mz hb) (fun i k=>hb _) hi hj
  have h2:=jS (R:=R) (C:=C) (L:=L)
  have h3:rkL R C L*(K+2+rkL R C L)≤4*(K+2+4):=Nat.mul_le_mul (by omega) (by omega)
  show (List.length (zA (xw R C L i j).natAbs))≤_
  omega
 ·rw[wE (by rw[yt];exact g),Int.natAbs_zero,zJ];exact Nat.zero_le _
theorem bE (hb:Bd L K) (hR:R≤4) (hC:C≤4) (i k:Nat):(List.length (zA (qj C (xw R C L) i k).natAbs))≤8*K+54:=by
 have:=zEV (n:=C) (A:=xw R C L) (K:=4*K+25) (fun i k=>dx hb hR _) i k
 omega
theorem zGL {P i k:Nat} {M:List Int} (hi:i<P) (hk:k<P):cf (gmL P C M) (i*P+k)=ip C (mf C M i) (mf C M k):=by
 unfold gmL
 rw[xH _ hk (zt hi hk)]
 unfold gmF
 rw[wP];rfl
structure GR (R C:Nat) (L:List Int) (p q:Int) (c:Nat) (ds:List Int) (ls us:List Row) (k:Nat) (Ml Wl:List Int):Prop where
 hk:rkL R C L≤k
 rs:RS C (rkL R C L) (xw R C L) (szD C (rkL R C L) (xw R C L)) (szN C (rkL R C L) (xw R C L)) p q ((List.range (rkL R C L+1)).map (gd C (xw R C L))) ((List.range (rkL R C L)).map fun t=>xJ C (rkL R C L) (xw R C L) t t) ((List.range (rkL R C L)).map (xv (rkL R C L))) c ds ls us k k
 ml:Ml=fa (R-rkL R C L) (rkL R C L) C (tab ((R-rkL R C L)*C) C fun i k=>cf (hL R C L) ((rkL R C L+i)*C+k)) (tab (rkL R C L*C) C fun i k=>vI (fun j=>cf (us.flatMap Prod.snd) (i*rkL R C L+j)) (fun j=>cf (dy R C L) (j*C+k)) (rkL R C L))
 wl:Wl=fa (R-rkL R C L) (rkL R C L) R (tab ((R-rkL R C L)*R) R fun i k=>cf (uL R C L) ((rkL R C L+i)*R+k)) (tab (rkL R C L*R) R fun i k=>vI (fun j=>cf (us.flatMap Prod.snd) (i*rkL R C L+j)) (fun j=>cf (tab (rkL R C L*R) R fun i k=>cf (uL R C L) ((0+i)*R+k)) (j*R+k)) (rkL R C L))
variable {p q : Int} {c : Nat} {ds : List Int} {ls us : List Row} {k : Nat} {Ml Wl : List Int}
theorem GR.len (h:GR R C L p q c ds ls us k Ml Wl):Ml.length=R*C:=by
 rw[h.ml];unfold fa;rw[qi,Nat.sub_add_cancel jS]
theorem GR.wlen (h:GR R C L p q c ds ls us k Ml Wl):Wl.length=R*R:=by
 rw[h.wl];unfold fa;rw[qi,Nat.sub_add_cancel jS]
theorem fZ {r r' C i k:Nat} {A B:List Int} (hi:i<r+r') (hk:k<C):mf C (fa r r' C A B) i k=if i<r then cf A (i*C+k) else cf B ((i-r)*C+k):=by
 show cf _ (i*C+k)=_
 unfold fa
 rw[xH _ hk (zt hi hk)]
theorem GR.zero (h:GR R C L p q c ds ls us k Ml Wl) (hb:Bd L K) {i j:Nat} (hi:i<R-rkL R C L) (hj:j<C):mf C Ml i j=0:=by
 rw[h.ml,fZ (by omega) hj,if_pos hi,xH _ hj (zt hi hj)]
 obtain⟨P,h1,h2,h3,h4⟩:=dK (dL (R:=R) (C:=C) hb)
 have hP:rkL R C L=P:=by show (jw C (mf C (hL R C L)) R).length=P;rw[h4,List.length_map,List.length_range]
 have h5:=h3 (rkL R C L+i) (by omega) (by omega)
 exact jB (f:=mf C (hL R C L) (rkL R C L+i)) (C:=C) (by omega)
theorem GR.row (h:GR R C L p q c ds ls us k Ml Wl) {i j:Nat} (hi:i<rkL R C L) (hj:j<C):mf C Ml (R-rkL R C L+i) j=uB (rkL R C L) (us.map Prod.snd) (xw R C L) i j:=by
 rw[h.ml,fZ (by omega) hj,if_neg (by omega),Nat.add_sub_cancel_left,xH _ hj (zt hi hj),wP]
 obtain⟨r,hr⟩:∃r,us[i]?=some r:=⟨_,List.getElem?_eq_getElem (by rw[h.rs.ul];exact hi)⟩
 refine zS fun t ht=>?_
 show cf (us.flatMap Prod.snd) (i*rkL R C L+t)*xw R C L t j=mL (us.map Prod.snd) i t*xw R C L t j
 rw[lW h.rs.hur hr t ht,qg hr]
theorem uT {P n:Nat} {B:zI}:Eqv P P n (uB P ((List.range P).map (xv P)) B) B:=Eqv.of_eq fun i k hi hk=>by
 have e:∀r,mL ((List.range P).map (xv P)) i r=if r=i then 1 else 0:=fun r=>by
  rw[jy (r:=xv P i) (by rw[List.getElem?_map,List.getElem?_range hi];rfl),pj hi]
 show (Dt.sm P fun r=>mL ((List.range P).map (xv P)) i r*B r k)=_
 rw[zS fun r _=>by rw[e r]]
 exact wq (fun r=>B r k) hi
theorem GR.eqv (h:GR R C L p q c ds ls us k Ml Wl) {n':Nat} {B':zI}:Eqv (rkL R C L) (rkL R C L) n' (uB (rkL R C L) (us.map Prod.snd) B') B':=h.rs.lr.eqv uT
theorem GR.small (h:GR R C L p q c ds ls us k Ml Wl) {i:Nat} (hi:i<rkL R C L):ip C (uB (rkL R C L) (us.map Prod.snd) (xw R C L) i) (uB (rkL R C L) (us.map Prod.snd) (xw R C L) i)≤szN C (rkL R C L) (xw R C L):=by
 obtain⟨w,hw⟩:=h.rs.ex
 exact hw.nrm i hi (by have:=h.hk;omega)
theorem le_ip {n:Nat} (u:Nat→Int) {j:Nat} (hj:j<n):((u j).natAbs:Int)≤ip n u u:=by
 have h1:=bT (f:=fun k=>u k*u k) (m:=n) (fun i _=>xE _) j hj
 have h2:((u j).natAbs:Int)≤u j*u j:=by
  rw[←Int.natAbs_mul_self]
  rcases Nat.eq_zero_or_pos (u j).natAbs with g|g
  ·rw[g];decide
  ·have:1*((u j).natAbs:Int)≤((u j).natAbs:Int)*((u j).natAbs:Int):=Int.mul_le_mul_of_nonneg_right (by omega) (by omega)
   omega
 exact Int.le_trans h2 h1
theorem GR.bd (h:GR R C L p q c ds ls us k Ml Wl) (hb:Bd L K) (hR:R≤4) (hC:C≤4):Bd Ml (32*K+241):=fun t=>by
 rcases Nat.lt_or_ge t (R*C) with g|g
 ·obtain⟨i,j,hi,hj,rfl⟩:=jv g
  show (List.length (zA (mf C Ml i j).natAbs))≤_
  rcases Nat.lt_or_ge i (R-rkL R C L) with g|g
  ·rw[h.zero hb g hj,Int.natAbs_zero,zJ];exact Nat.zero_le _
  ·obtain⟨i',rfl⟩:∃i',i=R-rkL R C L+i':=⟨i-(R-rkL R C L),by omega⟩
   have hi':i'<rkL R C L:=by have:=jS (R:=R) (C:=C) (L:=L);omega
   rw[h.row hi' hj]
   have h1:=le_ip (n:=C) (uB (rkL R C L) (us.map Prod.snd) (xw R C L) i') hj
   have h2:=h.small hi'
   have h3:=(mC (n:=C) (R:=rkL R C L) (A:=xw R C L) (K:=8*K+54) (Nat.le_trans jS hR) (bE hb hR hC)).2.1
   refine Nat.le_trans (qF ?_) (Nat.le_trans h3 (by omega))
   omega
 ·rw[wE (by rw[h.len];exact g),Int.natAbs_zero,zJ];exact Nat.zero_le _
theorem GR.nz (h:GR R C L p q c ds ls us k Ml Wl) {i:Nat} (hi:i<rkL R C L):∃j,j<C∧mf C Ml (R-rkL R C L+i) j≠0:=by
 refine Classical.byContradiction fun hno=>?_
 obtain⟨w,hw⟩:=h.rs.ex
 have h1:=hw.li.od.nx i hi
 have h2:=hw.li.od.pos (i+1) (by omega)
 rw[←h1,zf,qY (u':=fun _=>0) fun j hj=>by
  rw[←h.row hi hj];exact Classical.byContradiction fun hne=>hno ⟨j,hj,hne⟩] at h2
 have:ip C (fun _=>0) (w i)=0:=xu fun _ _=>Int.zero_mul _
 omega
end Go.Ll
namespace Go.Proofs.YtchbfpcaibfkdaaGreat
open Go.En Go.RowKit
set_option maxRecDepth 10000
open Go.Nt
open Go.Pz
open Go.Mz
open Go.Hn
open Go.Hp
open Go.Dt
open Go.Ll
theorem mq {n0 R K:Nat} {A:zI} {xs:List (Bool×List Nat)} (hx:Bd (zG xs) K) (hR:R≤4) (hl:xs.length=R*R) (hG:∀i k,i<R→k<R→cf (zG xs) (i*R+k)=ip n0 (A i) (A k)) (hgw:∀i k,(List.length (zA (qj n0 A i k).natAbs))≤K) (hpos:∀t,t≤R→0<Dt.gd n0 A t) (hK:K≤3000) {m n:Bool} {ps qs:List Nat} (hpw:(List.length (zA (val ps)))≤1000) (hqw:(List.length (zA (val qs)))≤1000) (hmy:(decide (0<sgn (zv n qs))&&decide (0<ql (zv m ps*4) (zv n qs))&&decide (ql (zv m ps) (zv n qs)<0))=true) (hq:0<zv n qs) (hpq:zv m ps<zv n qs):
  CtrX Tryz.prog 29 [isM (R:Int) (R:Int) xs,zk [isB m,zD ps],zk [isB n,zD qs]] [] (fun S M=>∃(c:Nat) (ds':List Int) (ls' us':List Row) (k:Nat),S=zZ [xW R R (us'.flatMap Prod.snd),isI (IntKind.i64.wrap (c:Int)),isI 0]∧M=[]∧R≤k∧RS n0 R A (szD n0 R A) (szN n0 R A) (zv m ps) (zv n qs) ((List.range (R+1)).map (Dt.gd n0 A)) ((List.range R).map fun t=>xJ n0 R A t t) ((List.range R).map (xv R)) c ds' ls' us' k k):=by
 rcases Nat.eq_zero_or_pos R with h0|h0
 ·subst h0
  refine (mr (by omega) hpw hqw hmy).imp ?_
  rintro S M ⟨rfl,hM⟩
  exact⟨0,[1],[],[],1,rfl,hM,Nat.zero_le _,(BG.first n0 0 A).rs hpos (kg hpos) (cL hpos).1 (cL hpos).2.1 (cL hpos).2.2⟩
 ·have hz:=SZ.made (K:=300*K+2000) hpos (mC hR hgw).2.2
  exact ow (Kd:=5*(K+5)+1) hx h0 (by omega) hl hG hgw hpos (fun j hj=>by have:(j+1)*(K+(j+1))≤5*(K+5):=Nat.mul_le_mul (by omega) (by omega);omega) (by omega) (by omega) hpw hqw hmy hq hpq hz (by omega) (cL hpos).1 (cL hpos).2.1
end Go.Proofs.YtchbfpcaibfkdaaGreat
namespace Go.Proofs.YtchbfpcaibfkdaaGreat
open Go.En Go.RowKit
set_option maxRecDepth 10000
set_option maxHeartbeats 4000000
open Go.Nt
open Go.Pz
open Go.Mz
open Go.Hn
theorem tX {R C K:Nat} {xs:List (Bool×List Nat)} (hx:Bd (zG xs) K) (hK:K≤4000000000) (hR:R≤64) (hC:C≤64) (hl:xs.length=R*C):CtrX Tryz.prog 59 [isM (R:Int) (C:Int) xs] ([]) (fun S M=>∃bw gt,S=qX bw 0∧M=hwM bw gt (qm C R (zG xs) R) C 0):=by
 refine CtrX.i Tryz.func59 rfl Tryz.ntmps59 fun w0 F0=>.w [0] rfl (.sr fun k1=>.box (.t rfl) rfl fun b1=>st (.as Has.cP) rfl (nkQ k1 (.sr fun k2=>st (.fieldAddr (.t rfl) zo ty3) rfl (st (.load1 (.t rfl) (i:=0) rfl ty3 rfl) rfl (st (.build [zi,isI 0,isI 0] pl88 zGU (fun _ _=>⟨rfl,⟨rfl,by decide,by decide⟩,⟨rfl,by decide,by decide⟩,trivial⟩) (.cons (.t rfl) rfl rfl rfl .nil) (Z'':=[_,_,_]) rfl) rfl (.box (.t rfl) rfl fun b2=>stM rfl (nkQ k2 (.w [1,2,3] rfl (.sq fun k3=>.sq fun k4=>.cv (Cv.growF (List Int) (i:=0) (o:=0) rfl rfl rfl) (.memEq (M':=[grM isP Gr.nil [],_,_]) rfl (.region (st (.fieldAddr (.t rfl) zY ty3) rfl (st (.load1 (.t rfl) (i:=2) rfl ty3 rfl) rfl (st (.mv (.cI 0 rfl)) rfl (nkQ k4 (.block (.loopF [1,2,3,12] (fun (z:{ z:Nat×Gr (List Int)//z.1≤R })=>match z with|⟨(i,gt),hI⟩=>[(13,isI (i:Int))]) (fun M=>fun (z:{ z:Nat×Gr (List Int)//z.1≤R })=>match z with|⟨(i,gt),hI⟩=>(grM isP gt (qm C R (zG xs) i)::(some b2,zC [ze gt (qm C R (zG xs) i).length,isI (C:Int),isI 0])::(some b1,zC [isI (R:Int),isI (C:Int),SlK 2 zc xs])::[])) (fun (z:{ z:Nat×Gr (List Int)//z.1≤R })=>match z with|⟨(i,gt),hI⟩=>R-i) (⟨(0,Gr.nil),Nat.zero_le _⟩) (Cv.mem (.c 13 rfl ?_ (.l [1,2,3,12] rfl)) ?_) ?_)))))))))))))))))
 ·rfl
 ·rfl
 rintro⟨⟨i,gt⟩,hI⟩ K5 hK5
 refine .w [13,1,2,3,12] rfl (.memEq (M':=(grM isP gt (qm C R (zG xs) i)::(some b2,zC [ze gt (qm C R (zG xs) i).length,isI (C:Int),isI 0])::(some b1,zC [isI (R:Int),isI (C:Int),SlK 2 zc xs])::[])) rfl ?_)
 simp only[] at hI
 have hrl:=ik C R (zG xs) i
 refine .sr fun k6=>st (.ltI (.t rfl) (.t rfl)) rfl (nkQ k6 (.sq fun k7=>.cd rfl (fun hc1=>?_) (fun hc1=>?_)))
 ·refine .skip (.nk k7 (.sq fun k8=>.block (.sr fun k9=>stM rfl (stM rfl (nkQ k9 (.sr fun k10=>st (.fieldAddr (.t rfl) zo ty3) rfl (st (.load1 (.t rfl) (i:=2) rfl ty3 rfl) rfl (st (.fieldAddr (.t rfl) zY ty3) rfl (st (.load1 (.t rfl) (i:=2) rfl ty3 rfl) rfl (st (.eq (.addI (.t rfl) (.t rfl) (by omega) (by omega)) ((show isI _=isI ((C+R:Nat):Int) from zF (by omega)))) rfl (.makeK (fk:=zc) (u:=(false,[])) (n:=(C+R)) (c:=(C+R)) zz zE zK (fun _ _=>⟨rfl,nilM _ _,trivial⟩) zN cT (Has.t' rfl rfl) (Has.t' rfl rfl) (by omega) rfl fun b3=>stM rfl (nkQ k10 (.sq fun k11=>.sr fun k12=>st (.fieldAddr (.t rfl) zo ty3) rfl (st (.load1 (.t rfl) (i:=3) rfl ty3 rfl) rfl (st (.mv (.cI 0 rfl)) rfl (nkQ k12 (.block (.loopF [1,2,3,12,13,14,15,4,16,17,18,19,20,21,5,22,23] (fun (z:{ k:Nat//k≤C })=>match z with|⟨k,hk⟩=>[(24,isI (k:Int))]) (fun M=>fun (z:{ k:Nat//k≤C })=>match z with|⟨k,hk⟩=>((some b3,zC ((fill ((ww C R (zG xs) i).map nz) k (false,[])).flatMap zc))::grM isP gt (qm C R (zG xs) i)::(some b2,zC [ze gt (qm C R (zG xs) i).length,isI (C:Int),isI 0])::(some b1,zC [isI (R:Int),isI (C:Int),SlK 2 zc xs])::[])) (fun (z:{ k:Nat//k≤C })=>match z with|⟨k,hk⟩=>C-k) (⟨0,Nat.zero_le _⟩) (Cv.mem (.c 24 rfl ?_ (.l [1,2,3,12,13,14,15,4,16,17,18,19,20,21,5,22,23] rfl)) ?_) ?_))))))))))))))))))
  ·rfl
  ·exact rX (by rw[kO,List.length_map,au])
  rintro⟨k,hk⟩ K13 hK13
  refine .w [24,1,2,3,12,13,14,15,4,16,17,18,19,20,21,5,22,23] rfl (.memEq (M':=((some b3,zC ((fill ((ww C R (zG xs) i).map nz) k (false,[])).flatMap zc))::grM isP gt (qm C R (zG xs) i)::(some b2,zC [ze gt (qm C R (zG xs) i).length,isI (C:Int),isI 0])::(some b1,zC [isI (R:Int),isI (C:Int),SlK 2 zc xs])::[])) rfl ?_)
  have hf:=dO ((ww C R (zG xs) i).map nz) k (false,[]) (by rw[List.length_map,au];omega)
  rw[List.length_map,au] at hf
  refine .sr fun k14=>st (.ltI (.t rfl) (.t rfl)) rfl (nkQ k14 (.sq fun k15=>.cd rfl (fun hc2=>?_) (fun hc2=>?_)))
  ·refine .skip (.nk k15 (.sq fun k16=>.block (.sr fun k17=>stM rfl (stM rfl (nkQ k17 (.region (stM rfl (stM rfl (st (.load (.t rfl) (i:=3) rfl zL rfl (Ss':=[_,_,_]) rfl) rfl (stM rfl (stM rfl (st (.call (cY hx hK hR hC hl (i:=i) (k:=k) (by omega) (by omega)) (.cons (.t rfl) (.cons (.t rfl) (.cons (.t rfl) .nil)))) rfl (st (.eq (.ixWin zz zE (.t rfl) (.t rfl) (by omega)) (qG (by exact ixo2))) rfl (.storeK (z:=nz (cf (zG xs) (i*C+k))) zN (.t rfl) (.t rfl) (i:=0) rfl zE (by simp only[Int.toNat_natCast];omega) (M':=[(_,_),_,_,_]) rfl ?_))))))))))))))
   refine nl (.bln (.nk k16 (.region (st (.addI (.t rfl) (.cI 1 rfl) (by omega) (by omega)) rfl (stM rfl (nl (.thn (hK13 (⟨k+1,by omega⟩) _ _ ?_ (Cv.mem (.c 24 rfl ?_ (.l [1,2,3,12,13,14,15,4,16,17,18,19,20,21,5,22,23] rfl)) ?_)))))))))
   ·show C-(k+1)<C-k;omega
   ·exact zF (by omega)
   ·exact rY (zDI (by omega))
  ·refine .exit (.the (.the (.blh (.nk k11 (.sq fun k18=>.dr (.m [] rfl (.so [] rfl (.fieldAddr (.t rfl) zo ty3) (.so [36] rfl (.load1 (.t rfl) (i:=3) rfl ty3 rfl) (.m [] rfl (.so [37,38] rfl (.eq (.addI (.t rfl) (.t rfl) (by omega) (by omega)) ((show isI _=isI ((C+i:Nat):Int) from zF (by omega)))) (.so [] rfl (.eq (.call (xC) (.cons (.cI 1 rfl) .nil)) ((show isZ 1=zk (zc (nz 1)) from rfl))) (.fn (n:=6) zW (.w [1,2,3,12,13,14,15,4,16,17,18,19,20,21,5,22,23,24,25,35,36,37,38,39,40] rfl (st (.eq (.ixWin zz zE (.t rfl) (.t rfl) (by omega)) (qG (by exact ixo2))) rfl (.storeK (z:=nz 1) zN (.t rfl) (.t rfl) (i:=0) rfl zE (by simp only[Int.toNat_natCast];omega) (M':=[(_,_),_,_,_]) rfl ?_)))))))))))))))
   refine nkQ k18 (.cv (Cv.freezeK (t:=5) (i:=0) (ys:=(ww C R (zG xs) i).map nz) zN rfl rfl rfl (by rw[List.length_set];omega) (su (by omega) (by omega) rfl)) ?_)
   refine .memEq (M':=[_,_,_]) rfl (.w [1,2,3,12,13,14,15,4,16,17,18,19,20,5,22,23,24,25,36,37,38,39,40] rfl (.region (stM rfl (stM rfl (st (.nilc (.t rfl)) rfl (st (.fieldAddr (.t rfl) xS zu) rfl (st (.load1 (.t rfl) (i:=1) rfl zu rfl) rfl (stM rfl (st (.buildS [zi] qn zP wU (fun _ _=>⟨rfl,trivial⟩) rfl rfl (.cons (.t rfl) rfl rfl rfl .nil) rfl (S:=SlM isP [ww C R (zG xs) i]) rfl) rfl (.appendG (f:=isP) (u:=([]:List Int)) qn zP wU (fun _ _=>⟨vm,trivial⟩) (fun _=>inferInstance) zBU (.t rfl) (i:=0) rfl (.t rfl) (by rw[hrl];show i+1≤_;omega) (by simp) rfl fun gr1=>?_))))))))))
   refine .memEq (M':=[grM _ _ _,_,_]) rfl (st (.nilc (.t rfl)) rfl (st (.fieldAddr (.t rfl) xS zu) rfl (.store (.t rfl) (.t rfl) (i:=1) rfl zu rfl rfl (Ss':=[_,_,_]) rfl (M':=[_,(some _,zC [_,_,_]),_]) rfl (nl (.bln (.nk k8 (.region (st (.addI (.t rfl) (.cI 1 rfl) (by omega) (by omega)) rfl (stM rfl (nl (.thn ?_)))))))))))
   refine hK5 (⟨(i+1,gr1),by show i+1≤R;omega⟩) _ _ ?_ (Cv.mem (.c 13 rfl ?_ (.l [1,2,3,12] rfl)) ?_)
   ·show R-(i+1)<R-i;omega
   ·exact zF (by omega)
   ·show _=([grM isP gr1 (qm C R (zG xs) (i+1)),(some b2,zC [ze gr1 (qm C R (zG xs) (i+1)).length,isI (C:Int),isI 0]),_]:Mem);rw[←oO,List.length_append]
 ·refine .exit (.the (.the (.blh (.nk k3 (.sq fun k19=>.cv (Cv.drop ((.cons_cons _ (.cons_cons _ (.cons _ .slnil))))) (.w [2,3,12,13,14] rfl (.cv (Cv.perm (List.Perm.swap _ _ _)) (.region (stM rfl (stM rfl (nkQ k19 (.w [2] rfl (.ret (zDF (.inl rfl) Tryz.results59 rfl (.tmp (.t rfl) .nil) ?_))))))))))))))
  exact⟨b2,gt,rfl,by obtain rfl:i=R:=(by omega);rfl⟩
theorem zAA {bw C:Nat} {gt:Gr (List Int)} {rs:List (List Int)} {t i col W P K:Nat} (hrow:∀r∈rs,r.length=W) (hti:t<i) (hi:i<rs.length) (hc:col<W) (hW:W≤128) (hR:rs.length≤64) (hpB:∀r∈rs,Bd r P) (hqB:Bd (rs.getD i []) K) (hPK:P+K≤90000000):CtrX Tryz.prog 86 [qX bw 0,isI (i:Int),isI (col:Int)] (hwM bw gt rs C t) (fun S M=>S=zZ []∧M=hwM bw gt (jn rs t i col) C t):=by
 refine CtrX.i Tryz.func86 rfl Tryz.ntmps86 fun w0 F0=>.w [0,1,2] rfl (.fact (Has.rngI (Has.t (t:=1) rfl)) fun lt1=>.fact (Has.rngI (Has.t (t:=2) rfl)) fun lt2=>?_)
 obtain⟨p,hp⟩:∃p,rs[t]?=some p:=⟨_,List.getElem?_eq_getElem (by omega)⟩
 obtain⟨q,hq⟩:∃q,rs[i]?=some q:=⟨_,List.getElem?_eq_getElem hi⟩
 have hpl:=hrow p (List.mem_of_getElem? hp)
 have hql:=hrow q (List.mem_of_getElem? hq)
 rw[xj hq] at hqB
 have hpP:=hpB p (List.mem_of_getElem? hp)
 have hpc:=hpP col
 have hqc:=hqB col
 have hxn:=uC (cf p col) (cf q col) hqc
 have hyn:=uA (cf p col) (cf q col) hpc
 have hgn:(List.length (zA (xgg (cf p col) (cf q col)).natAbs))≤P+K:=by
  unfold xgg
  rw[Int.natAbs_natCast]
  refine Nat.le_trans (qF (gb _ _)) ?_
  have:=gF (cf p col).natAbs (cf q col).natAbs
  omega
 have hun:=wL (cf p col) (xgg (cf p col) (cf q col))
 have hvn:=wL (cf q col) (xgg (cf p col) (cf q col))
 refine .sq fun k1=>.dr (.m [] rfl (.so [15] rfl (.nilc (.t rfl)) (.so [16] rfl (.fieldAddr (.t rfl) xS zu) (.so [17] rfl (.load1 (.t rfl) (i:=0) rfl zu rfl) (.m [] rfl (.so [19] rfl (.nilc (.t rfl)) (.so [20] rfl (.fieldAddr (.t rfl) vZ ty3) (.so [21] rfl (.load1 (.t rfl) (i:=0) rfl ty3 rfl) (.so [18,22] rfl (.ixGr qn zP (.t rfl) (.t rfl) (by omega)) ?_)))))))))
 refine .so [23] rfl (.loadGM (.t rfl) (i:=1) rfl zP hp) (.m [] rfl (.so [25] rfl (.nilc (.t rfl)) (.so [26] rfl (.fieldAddr (.t rfl) xS zu) (.so [27] rfl (.load1 (.t rfl) (i:=0) rfl zu rfl) (.m [] rfl (.so [28,29] rfl (.ixGr qn zP (.t rfl) (.t rfl) (by omega)) ?_))))))
 refine .so [30] rfl (.loadGM (.t rfl) (i:=1) rfl zP hq) (.m [24] rfl (.fn (n:=18) zW (.w [0,1,2,31,6] rfl (stM rfl (nkQ k1 (.sq fun k2=>.drh [true,true] (Ms:=[_,_]) rfl (.m [] rfl (.m [] rfl ?_))))))))
 refine .so [33,34] rfl (.ixK zz zE (.t rfl) (.t rfl) zN ⟨by omega,by rw[List.length_map];omega⟩ (xn (i:=col) (by omega))) ?_
 refine .so [35] rfl (.loadP (.t rfl) zE rfl (Ss':=[_,_]) rfl) (.m [] rfl (.m [] rfl ?_))
 refine .so [37,38] rfl (.ixK zz zE (.t rfl) (.t rfl) zN ⟨by omega,by rw[List.length_map];omega⟩ (xn (i:=col) (by omega))) ?_
 refine .so [39] rfl (.loadP (.t rfl) zE rfl (Ss':=[_,_]) rfl) (.so [36,40] rfl (.eq (.call (nw (by rw[zB];omega) (by rw[zB];omega)) (.cons (.t rfl) (.cons (.t rfl) .nil))) ((show _=zZ [isZ (xgg (cf p col) (cf q col)),isZ (xgx (cf p col) (cf q col)),isZ (xgy (cf p col) (cf q col))] from by simp only[qN,zH]))) ?_)
 refine .m [41] rfl (.so [32] rfl (.ext (.t rfl) rfl) (.so [32] rfl (.ext (.t rfl) rfl) (.so [32] rfl (.ext (.t rfl) rfl) (.als2 (n1:=16) (ds:=[8,9,10]) (zs:=[[isB false,SlM isU []],[isB false,SlM isU []],[isB false,SlM isU []]]) rfl (.cons rfl rfl zK (fun _ _=>⟨rfl,nilM _ _,trivial⟩) (.cons rfl rfl zK (fun _ _=>⟨rfl,nilM _ _,trivial⟩) (.cons rfl rfl zK (fun _ _=>⟨rfl,nilM _ _,trivial⟩) .nil))) (.cons_cons _ (.cons_cons _ .slnil)) (Cs:=[_,_,_]) rfl (.new [42] 0 (Ss':=[_,_]) (Cs':=[zC [_,_],_,_]) rfl (by kernel_rfl) (by kernel_rfl) rfl rfl rfl (by kernel_rfl) rfl (.t rfl) zE rfl rfl rfl rfl (.new [43] 1 (Ss':=[_,_]) (Cs':=[_,zC [_,_],_]) rfl (by kernel_rfl) (by kernel_rfl) rfl rfl rfl (by kernel_rfl) rfl (.t rfl) zE rfl rfl rfl rfl (.fn (n:=18) zW rfl (fun bs hbs=>?_))))))))
 obtain⟨b1,b2,b3,rfl⟩:=len3 hbs
 refine .memEq (M':=[_,_,_,_,_]) rfl (.cv (Cv.wk (.k 0 rfl (.k 1 rfl (.k 2 rfl (.k 6 rfl (.k 7 rfl (.k 44 rfl (.cons (t:=8) (Has.op rfl) (.cons (t:=9) (Has.op rfl) (.cons (t:=10) (Has.op rfl) .nil)))))))))) (.store (.t rfl) (.t rfl) (i:=2) rfl zE rfl rfl (Ss':=[_,_]) rfl (M':=[_,_,(some _,zC [_,_]),_,_]) rfl (nkQ k2 (.sq fun k3=>.sr fun k4=>st (.load (.t rfl) (i:=0) rfl zE rfl (Ss':=[_,_]) rfl) rfl (st (.eq (.call (qC (by rw[zB];omega)) (.cons (.t rfl) .nil)) ((show _=isI (sgn (xgg (cf p col) (cf q col))) from by rw[zH]))) rfl ?_)))))
 refine st (.eqI (.t rfl) (.cI 0 rfl)) rfl (nkQ k4 (.cd rfl (fun hc1=>?_) (fun hc1=>?_)))
 ·have hg0:=(xQ _).1 hc1
  refine .ret (.thr (fq (.cons _ (.cons _ (.cons _ (.cons_cons _ (.cons_cons _ .slnil))))) (.inl rfl) Tryz.results86 rfl (⟨rfl,gU (zGG hp hq hg0).symm (by rw[oy])⟩)))
 ·have hg0:¬(xgg (cf p col) (cf q col))=0:=fun e=>hc1 ((xQ _).2 e)
  refine .skip (.nk k3 (.sq fun k5=>.drh [true,true,true,true,true] (Ms:=[_,_,_,_,_]) rfl (.m [] rfl (.m [] rfl ?_))))
  refine .so [49,50] rfl (.ixK zz zE (.t rfl) (.t rfl) zN ⟨by omega,by rw[List.length_map];omega⟩ (xn (i:=col) (by omega))) ?_
  refine .so [51] rfl (.loadP (.t rfl) zE rfl (Ss':=[_,_]) rfl) (.so [] rfl (.load (.t rfl) (i:=0) rfl zE rfl (Ss':=[_,_]) rfl) (.so [52,53] rfl (.call (xd (by rw[zB];omega) (by rw[zB];omega)) (.cons (.t rfl) (.cons (.t rfl) .nil))) ?_))
  refine .m [54] rfl (.so [48] rfl (.eq (.ext (.t rfl) rfl) ((show _=isZ ((cf p col).tdiv (xgg (cf p col) (cf q col))) from zO (by simp only[qN,zH];exact if_pos ⟨hg0,Int.tmod_eq_zero_of_dvd (cc _ _)⟩)))) ?_)
  refine .so [48] rfl (.ext (.t rfl) rfl) (.als2 (n1:=10) (ds:=[11]) (zs:=[[isB false,SlM isU []]]) rfl (.cons rfl rfl zK (fun _ _=>⟨rfl,nilM _ _,trivial⟩) .nil) (.cons_cons _ (.cons_cons _ (.cons_cons _ (.cons_cons _ (.cons_cons _ .slnil))))) (Cs:=[_]) rfl (.new [55] 0 (Ss':=[_,_]) (Cs':=[zC [_,_]]) rfl (by kernel_rfl) (by kernel_rfl) rfl rfl rfl (by kernel_rfl) rfl (.t rfl) zE rfl rfl rfl rfl (.fn (n:=11) zW rfl (fun bs hbs=>?_))))
  obtain⟨b4,rfl⟩:=dw hbs
  refine .memEq (M':=[_,_,_,_,_,_]) rfl (.cv (Cv.wk (.k 0 rfl (.k 1 rfl (.k 2 rfl (.k 6 rfl (.k 7 rfl (.k 8 rfl (.k 9 rfl (.k 10 rfl (.k 56 rfl (.cons (t:=11) (Has.op rfl) .nil))))))))))) (stM rfl (nkQ k5 (.sq fun k6=>.drh [true,true,true,true,true,true] (Ms:=[_,_,_,_,_,_]) rfl (.m [] rfl (.m [] rfl ?_))))))
  refine .so [58,59] rfl (.ixK zz zE (.t rfl) (.t rfl) zN ⟨by omega,by rw[List.length_map];omega⟩ (xn (i:=col) (by omega))) ?_
  refine .so [60] rfl (.loadP (.t rfl) zE rfl (Ss':=[_,_]) rfl) (.so [] rfl (.load (.t rfl) (i:=1) rfl zE rfl (Ss':=[_,_]) rfl) (.so [61,62] rfl (.call (xd (by rw[zB];omega) (by rw[zB];omega)) (.cons (.t rfl) (.cons (.t rfl) .nil))) ?_))
  refine .m [63] rfl (.so [57] rfl (.eq (.ext (.t rfl) rfl) ((show _=isZ ((cf q col).tdiv (xgg (cf p col) (cf q col))) from zO (by simp only[qN,zH];exact if_pos ⟨hg0,Int.tmod_eq_zero_of_dvd (bL _ _)⟩)))) ?_)
  refine .so [57] rfl (.ext (.t rfl) rfl) (.als2 (n1:=10) (ds:=[13]) (zs:=[[isB false,SlM isU []]]) rfl (.cons rfl rfl zK (fun _ _=>⟨rfl,nilM _ _,trivial⟩) .nil) (.cons_cons _ (.cons_cons _ (.cons_cons _ (.cons_cons _ (.cons_cons _ (.cons_cons _ .slnil)))))) (Cs:=[_]) rfl (.new [64] 0 (Ss':=[_,_]) (Cs':=[zC [_,_]]) rfl (by kernel_rfl) (by kernel_rfl) rfl rfl rfl (by kernel_rfl) rfl (.t rfl) zE rfl rfl rfl rfl (.fn (n:=11) zW rfl (fun bs hbs=>?_))))
  obtain⟨b5,rfl⟩:=dw hbs
  refine .memEq (M':=[_,_,_,_,_,_,_]) rfl (.cv (Cv.wk (.k 0 rfl (.k 1 rfl (.k 6 rfl (.k 7 rfl (.k 9 rfl (.k 10 rfl (.k 11 rfl (.k 65 rfl (.cons (t:=13) (Has.op rfl) .nil)))))))))) (stM rfl (nkQ k6 (.dry zW (.u 0 rfl (.mv (.t rfl)) (.u 1 rfl (.nilc (.t rfl)) (.u 2 rfl (.fieldAddr (.t rfl) xS zu) (.u 4 rfl (.mv (.t rfl)) (.u 5 rfl (.nilc (.t rfl)) (.u 6 rfl (.fieldAddr (.t rfl) vZ ty3) (.u 8 rfl (.mv (.t rfl)) (.u 9 rfl (.nilc (.t rfl)) (.u 10 rfl (.fieldAddr (.t rfl) xS zu) (.u 12 rfl (.mv (.t rfl)) (.u 14 rfl (.mv (.t rfl)) (.u 16 rfl (.mv (.t rfl)) (.u 20 rfl (.mv (.t rfl)) (.u 22 rfl (.mv (.t rfl)) (.go [] (.so 3 [] rfl (.load1 (.t rfl) (i:=5) rfl zu rfl) (.so 7 [] rfl (.load1 (.t rfl) (i:=5) rfl ty3 rfl) (.so 11 [] rfl (.load1 (.t rfl) (i:=5) rfl zu rfl) (.so 13 [] rfl (.load (.t rfl) (i:=3) rfl zE rfl (Ss':=[_,_]) rfl) (.so 15 [] rfl (.load (.t rfl) (i:=4) rfl zE rfl (Ss':=[_,_]) rfl) ?_))))))))))))))))))))))))
  refine .so 17 [79,81] rfl (.eq (.call (bl (A:=K+1) (B:=P+2) (K:=P) (L:=K) (by rw[zB];omega) (by rw[zQ];exact hpP) (by rw[zB];omega) (by rw[zQ];exact hqB) (by omega) (by omega) (by rw[List.length_map,List.length_map];omega) (by rw[List.length_map];omega)) (.cons (.t rfl) (.cons (.t rfl) (.cons (.t rfl) (.cons (.t rfl) .nil))))) ((show _=isP (mx2 (xgx (cf p col) (cf q col)) p (xgy (cf p col) (cf q col)) q) from wM (by simp only[zH,zQ])))) ?_
  refine .so 18 [] rfl (.load (.t rfl) (i:=0) rfl zE rfl (Ss':=[_,_]) rfl) (.so 19 [84] rfl (.call (vj (by rw[zB];omega)) (.cons (.t rfl) .nil)) ?_)
  refine .so 21 [] rfl (.load (.t rfl) (i:=1) rfl zE rfl (Ss':=[_,_]) rfl) (.so 23 [85,87] rfl (.eq (.call (bl (A:=K) (B:=P) (K:=P) (L:=K) (by rw[zB,zH,Int.natAbs_neg];omega) (by rw[zQ];exact hpP) (by rw[zB];omega) (by rw[zQ];exact hqB) (by omega) (by omega) (by rw[List.length_map,List.length_map];omega) (by rw[List.length_map];omega)) (.cons (.t rfl) (.cons (.t rfl) (.cons (.t rfl) (.cons (.t rfl) .nil))))) ((show _=isP (mx2 (-((cf q col).tdiv (xgg (cf p col) (cf q col)))) p ((cf p col).tdiv (xgg (cf p col) (cf q col))) q) from wM (by simp only[zH,zQ])))) ?_)
  refine .fn [24,25,26,27] (.w [78,69,73,77,83,89] rfl (st (.ixGr qn zP (.t rfl) (.t rfl) (by omega)) rfl (.storeGM (z:=mx2 (xgx (cf p col) (cf q col)) p (xgy (cf p col) (cf q col)) q) (.t rfl) (.t rfl) (i:=6) rfl zP (by omega) (M':=[_,_,_,_,_,_,grM _ _ _]) rfl (st (.ixGr qn zP (.t rfl) (.t rfl) (by omega)) rfl (.storeGM (z:=mx2 (-((cf q col).tdiv (xgg (cf p col) (cf q col)))) p ((cf p col).tdiv (xgg (cf p col) (cf q col))) q) (.t rfl) (.t rfl) (i:=6) rfl zP (by rw[List.length_set];omega) (M':=[_,_,_,_,_,_,grM _ _ _]) rfl ?_)))))
  refine nl (fq (.cons _ (.cons _ (.cons _ (.cons _ (.cons _ (.cons_cons _ (.cons_cons _ .slnil))))))) (.inr rfl) Tryz.results86 rfl (⟨rfl,gU (zGH hp hq hg0).symm (by rw[oy])⟩))
theorem pB {bw C:Nat} {gt:Gr (List Int)} {rs:List (List Int)} {t col W P:Nat} (hrow:∀r∈rs,r.length=W) (ht:t<rs.length) (hc:col<W) (hW:W≤128) (hR:rs.length≤64) (hpB:∀r∈rs,Bd r P) (hP:P≤90000000) (h0:0<cf (rs.getD t []) col):CtrX Tryz.prog 88 [qX bw 0,isI (col:Int)] (hwM bw gt rs C t) (fun S M=>S=zZ []∧M=hwM bw gt (rds rs t col t) C t):=by
 refine CtrX.i Tryz.func88 rfl Tryz.ntmps88 fun w0 F0=>.w [0,1] rfl (.fact (Has.rngI (Has.t (t:=1) rfl)) fun lt1=>?_)
 obtain⟨b,hb⟩:∃b,rs[t]?=some b:=⟨_,List.getElem?_eq_getElem ht⟩
 have hbl:=hrow b (List.mem_of_getElem? hb)
 rw[xj hb] at h0
 have hbP:=hpB b (List.mem_of_getElem? hb)
 have hbc:=hbP col
 refine .sq fun k1=>.dr (.m [] rfl (.so [9] rfl (.nilc (.t rfl)) (.so [10] rfl (.fieldAddr (.t rfl) xS zu) (.so [11] rfl (.load1 (.t rfl) (i:=0) rfl zu rfl) (.m [] rfl (.so [13] rfl (.nilc (.t rfl)) (.so [14] rfl (.fieldAddr (.t rfl) vZ ty3) (.so [15] rfl (.load1 (.t rfl) (i:=0) rfl ty3 rfl) (.fn (n:=8) zW (.w [0,1,12,16] rfl (st (.ixGr qn zP (.t rfl) (.t rfl) (by omega)) rfl (st (.loadGM (.t rfl) (i:=1) rfl zP hb) rfl (stM rfl (nkQ k1 (.sr fun k2=>stM rfl (st (.nilc (.t rfl)) rfl (st (.fieldAddr (.t rfl) vZ ty3) rfl (st (.load1 (.t rfl) (i:=0) rfl ty3 rfl) rfl (st (.mv (.cI 0 rfl)) rfl (nkQ k2 (.w [0,1,4,22,23] rfl (.block (.loopF [0,1,4,22] (fun (z:{ i:Nat//i≤t })=>match z with|⟨i,hi⟩=>[(23,isI (i:Int))]) (fun M=>fun (z:{ i:Nat//i≤t })=>match z with|⟨i,hi⟩=>hwM bw gt (rds rs t col i) C t) (fun (z:{ i:Nat//i≤t })=>match z with|⟨i,hi⟩=>t-i) (⟨0,Nat.zero_le _⟩) (Cv.mem (.c 23 rfl ?_ (.l [0,1,4,22] rfl)) ?_) ?_)))))))))))))))))))))))
 ·rfl
 ·rfl
 rintro⟨i,hi⟩ K3 hK3
 refine .w [23,0,1,4,22] rfl (.memEq (M':=hwM bw gt (rds rs t col i) C t) rfl ?_)
 have hlen:=aN rs t col i
 have hb2:(rds rs t col i)[t]?=some b:=(cx hi).trans hb
 refine .sr fun k4=>st (.ltI (.t rfl) (.t rfl)) rfl (nkQ k4 (.sq fun k5=>.cd rfl (fun hc1=>?_) (fun hc1=>?_)))
 ·obtain⟨r,hr⟩:∃r,rs[i]?=some r:=⟨_,List.getElem?_eq_getElem (by omega)⟩
  have hr2:(rds rs t col i)[i]?=some r:=(cx (Nat.le_refl _)).trans hr
  have hrl:=hrow r (List.mem_of_getElem? hr)
  have hrP:=hpB r (List.mem_of_getElem? hr)
  have hrc:=hrP col
  have hdn:=zBF h0 hrc
  have h1:=di
  refine .skip (.nk k5 (.sq fun k6=>.block (.sr fun k7=>stM rfl (stM rfl (nkQ k7 (.sq fun k8=>.drh [true,true] (Ms:=[_,_]) rfl (.m [] rfl (.so [27] rfl (.nilc (.t rfl)) (.so [28] rfl (.fieldAddr (.t rfl) xS zu) (.so [29] rfl (.load1 (.t rfl) (i:=0) rfl zu rfl) (.m [] rfl (.so [30,31] rfl (.ixGr qn zP (.t rfl) (.t rfl) (by omega)) ?_))))))))))))
  refine .so [32] rfl (.loadGM (.t rfl) (i:=1) rfl zP hr2) (.m [] rfl ?_)
  refine .so [33,34] rfl (.ixK zz zE (.t rfl) (.t rfl) zN ⟨by omega,by rw[List.length_map];omega⟩ (xn (i:=col) (by omega))) ?_
  refine .so [35] rfl (.loadP (.t rfl) zE rfl (Ss':=[_,_]) rfl) (.m [] rfl (.m [] rfl ?_))
  refine .so [37,38] rfl (.ixK zz zE (.t rfl) (.t rfl) zN ⟨by omega,by rw[List.length_map];omega⟩ (xn (i:=col) (by omega))) ?_
  refine .so [39] rfl (.loadP (.t rfl) zE rfl (Ss':=[_,_]) rfl) (.so [36,40] rfl (.eq (.call (fT (by rw[zB];omega) (by rw[zB];omega) (by simp only[zH,qN];exact h0)) (.cons (.t rfl) (.cons (.t rfl) .nil))) ((show _=zZ [isZ (cf r col/cf b col),isZ (cf r col%cf b col),isB true] from by simp only[qN,zH]))) ?_)
  refine .m [41] rfl (.so [26] rfl (.ext (.t rfl) rfl) (.so [26] rfl (.ext (.t rfl) rfl) (.so [26] rfl (.ext (.t rfl) rfl) (.als2 (n1:=21) (ds:=[6,7]) (zs:=[[isB false,SlM isU []],[isB false,SlM isU []]]) rfl (.cons rfl rfl zK (fun _ _=>⟨rfl,nilM _ _,trivial⟩) (.cons rfl rfl zK (fun _ _=>⟨rfl,nilM _ _,trivial⟩) .nil)) (.cons_cons _ (.cons_cons _ .slnil)) (Cs:=[_,_]) rfl (.new [42] 0 (Ss':=[_,_]) (Cs':=[zC [_,_],_]) rfl (by kernel_rfl) (by kernel_rfl) rfl rfl rfl (by kernel_rfl) rfl (.t rfl) zE rfl rfl rfl rfl (.new [43] 1 (Ss':=[_,_]) (Cs':=[_,zC [_,_]]) rfl (by kernel_rfl) (by kernel_rfl) rfl rfl rfl (by kernel_rfl) rfl (.t rfl) zE rfl rfl rfl rfl (.fn (n:=23) zW rfl (fun bs hbs=>?_))))))))
  obtain⟨b1,b2,rfl⟩:=len2 hbs
  refine .memEq (M':=[_,_,_,_]) rfl (.cv (Cv.wk (.k 0 rfl (.k 1 rfl (.k 4 rfl (.k 22 rfl (.k 23 rfl (.k 24 rfl (.k 25 rfl (.k 5 rfl (.k 27 rfl (.k 28 rfl (.k 29 rfl (.k 30 rfl (.k 31 rfl (.k 32 rfl (.k 33 rfl (.k 34 rfl (.k 35 rfl (.k 36 rfl (.k 37 rfl (.k 38 rfl (.k 39 rfl (.k 40 rfl (.k 41 rfl (.k 26 rfl (.k 42 rfl (.k 43 rfl (.k 44 rfl (.cons (t:=6) (Has.op rfl) (.cons (t:=7) (Has.op rfl) .nil)))))))))))))))))))))))))))))) (stM rfl (nkQ k8 (.dry zW (.u 0 rfl (.mv (.t rfl)) (.u 1 rfl (.nilc (.t rfl)) (.u 2 rfl (.fieldAddr (.t rfl) xS zu) (.u 4 rfl (.mv (.t rfl)) (.u 6 rfl (.mv (.t rfl)) (.u 7 rfl (.nilc (.t rfl)) (.u 8 rfl (.fieldAddr (.t rfl) xS zu) (.u 10 rfl (.mv (.t rfl)) (.u 15 rfl (.mv (.t rfl)) (.go [] (.so 3 [] rfl (.load1 (.t rfl) (i:=2) rfl zu rfl) (.so 5 [] rfl (.call (xC) (.cons (.cI 1 rfl) .nil)) (.so 9 [] rfl (.load1 (.t rfl) (i:=2) rfl zu rfl) (.so 11 [54] rfl (.ixGr qn zP (.t rfl) (.t rfl) (by omega)) ?_))))))))))))))))))
  refine .so 12 [56] rfl (.loadGM (.t rfl) (i:=3) rfl zP hr2) (.so 13 [] rfl (.load (.t rfl) (i:=0) rfl zE rfl (Ss':=[_,_]) rfl) (.so 14 [58] rfl (.call (vj (by rw[zB];omega)) (.cons (.t rfl) .nil)) ?_))
  refine .so 16 [50,57,59] rfl (.eq (.call (bl (A:=1) (B:=P) (K:=P) (L:=P) (by rw[zB];omega) (by rw[zQ];exact hrP) (by rw[zB,zH,Int.natAbs_neg];omega) (by rw[zQ];exact hbP) (by omega) (by omega) (by rw[List.length_map,List.length_map];omega) (by rw[List.length_map];omega)) (.cons (.t rfl) (.cons (.t rfl) (.cons (.t rfl) (.cons (.t rfl) .nil))))) ((show _=isP (mx2 1 r (-(cf r col/cf b col)) b) from wM (by simp only[zH,zQ])))) ?_
  refine .fn [17,18] (.w [0,1,4,22,23,24,25,5,27,28,29,30,31,32,33,34,35,36,37,38,39,40,41,26,42,43,44,6,7,45,46,47,49,51,52,53,55,60,48,50,54,56,57,58,59,61] rfl (st (.ixGr qn zP (.t rfl) (.t rfl) (by omega)) rfl (.storeGM (z:=mx2 1 r (-(cf r col/cf b col)) b) (.t rfl) (.t rfl) (i:=3) rfl zP (by omega) (M':=[_,_,_,grM _ _ _]) rfl (nl (.bln (.nk k6 (.region (st (.addI (.t rfl) (.cI 1 rfl) (by omega) (by omega)) rfl (stM rfl (nl (.thn (hK3 (⟨i+1,by omega⟩) _ _ ?_ (Cv.trans (Cv.drop ((.cons _ (.cons _ (.cons_cons _ (.cons_cons _ .slnil)))))) (Cv.mem (.c 23 rfl ?_ (.l [0,1,4,22] rfl)) ?_))))))))))))))
  ·show t-(i+1)<t-i;omega
  ·exact zF (by omega)
  ·exact gU (rd_go hr2 hb2).symm (by show _=(rds rs t col (i+1)).length;rw[hlen,aN])
 ·refine .exit (.the (.the (.blh (fq (.cons_cons _ (.cons_cons _ .slnil)) (.inr rfl) Tryz.results88 rfl (⟨rfl,by rw[show t=i by omega]⟩)))))
theorem pC {bw C:Nat} {gt:Gr (List Int)} {rs:List (List Int)} {t col W K:Nat} (hrow:∀r∈rs,r.length=W) (ht:t<rs.length) (hc:col<W) (hW:W≤128) (hR:rs.length≤64) (hb:∀r∈rs,Bd r K) (hK:(K+3)*(rs.length+2)≤80000000):CtrX Tryz.prog 60 [qX bw 0,isI (col:Int)] (hwM bw gt rs C t) (fun S M=>S=zZ []∧M=hwM bw gt (vH ⟨rs,t⟩ col).rows C (vH ⟨rs,t⟩ col).top):=by
 refine CtrX.i Tryz.func60 rfl Tryz.ntmps60 fun w0 F0=>.w [0,1] rfl (.fact (Has.rngI (Has.t (t:=1) rfl)) fun lt1=>?_)
 obtain⟨N,hN⟩:∃N,N=rs.length-(t+1):=⟨_,rfl⟩
 obtain⟨P,hP⟩:∃P,P=K+N*(K+3):=⟨_,rfl⟩
 have hK1:(K+3)*(rs.length+2)=rs.length*(K+3)+2*(K+3):=by rw[Nat.mul_add,Nat.mul_comm (K+3) rs.length,Nat.mul_comm (K+3) 2]
 have hK2:N*(K+3)≤rs.length*(K+3):=Nat.mul_le_mul_right _ (by omega)
 have hcl:vH ⟨rs,t⟩ col=if cf ((jns rs t col N).getD t []) col=0 then ⟨jns rs t col N,t⟩ else ⟨rds (hsg (jns rs t col N) t col) t col t,t+1⟩:=by rw[hN];rfl
 have hlenA:=xX rs t col N
 obtain⟨p,hp⟩:∃p,(jns rs t col N)[t]?=some p:=⟨_,List.getElem?_eq_getElem (by omega)⟩
 have hrowA:=vn hrow ht (col:=col) N
 have hbA:∀r∈jns rs t col N,Bd r P:=by rw[hP];exact gO hb N
 have hpl:=hrowA p (List.mem_of_getElem? hp)
 have hpP:=hbA p (List.mem_of_getElem? hp)
 have hpc:=hpP col
 rw[xj hp] at hcl
 refine .sq fun k1=>.sr fun k2=>stM rfl (st (.nilc (.t rfl)) rfl (st (.fieldAddr (.t rfl) vZ ty3) rfl (st (.load1 (.t rfl) (i:=0) rfl ty3 rfl) rfl (st (.addI (.t rfl) (.cI 1 rfl) (by omega) (by omega)) rfl (stM rfl (nkQ k2 (.w [0,1,4] rfl (.block (.loopF [0,1] (fun (z:{ n:Nat//n≤N })=>match z with|⟨n,hn⟩=>[(4,isI ((t+1+n:Nat):Int))]) (fun M=>fun (z:{ n:Nat//n≤N })=>match z with|⟨n,hn⟩=>hwM bw gt (jns rs t col n) C t) (fun (z:{ n:Nat//n≤N })=>match z with|⟨n,hn⟩=>N-n) (⟨0,Nat.zero_le _⟩) (Cv.mem (.c 4 rfl ?_ (.l [0,1] rfl)) ?_) ?_)))))))))
 ·exact zF (by omega)
 ·rfl
 rintro⟨n,hn⟩ K3 hK3
 refine .w [4,0,1] rfl (.memEq (M':=hwM bw gt (jns rs t col n) C t) rfl ?_)
 have hlen:=xX rs t col n
 have hnK:n*(K+3)≤N*(K+3):=Nat.mul_le_mul_right _ hn
 refine .sq fun k4=>.sr fun k5=>stM rfl (stM rfl (st (.nilc (.t rfl)) rfl (st (.fieldAddr (.t rfl) xS zu) rfl (st (.load1 (.t rfl) (i:=0) rfl zu rfl) rfl (st (.len qn (.t rfl)) rfl (st (.ltI (.t rfl) (.t rfl)) rfl (nkQ k5 (.cd rfl (fun hc1=>?_) (fun hc1=>?_)))))))))
 ·refine .skip (.nk k4 (.sq fun k6=>.block (.region (stM rfl (stM rfl (stM rfl (.callX (zAA (rs:=jns rs t col n) (i:=t+1+n) (col:=col) (P:=K+n*(K+3)) (K:=K) (vn hrow ht n) (by omega) (by omega) hc hW (by omega) (gO hb n) (by rw[show (jns rs t col n).getD (t+1+n) []=rs.getD (t+1+n) [] from by rw[List.getD,fF (Nat.le_refl _)];rfl];exact ja hb _) (by omega)) (List.Perm.refl _) (.cons (.t rfl) (.cons (.t rfl) (.cons (.t rfl) .nil))) rfl ?_)))))))
  rintro _ _ ⟨rfl,rfl⟩
  refine .memEq (M':=hwM bw gt (jns rs t col (n+1)) C t) rfl (nl (.bln (.nk k6 (.region (stM rfl (st (.addI (.t rfl) (.cI 1 rfl) (by omega) (by omega)) rfl (stM rfl (nl (.thn (hK3 (⟨n+1,by omega⟩) _ _ ?_ (Cv.mem (.c 4 rfl ?_ (.l [0,1] rfl)) ?_)))))))))))
  ·show N-(n+1)<N-n;omega
  ·exact zF (by omega)
  ·rfl
 ·have hnN:N=n:=(by omega)
  subst hnN
  refine .exit (.the (.the (.blh (.nk k1 (.w [0,1] rfl (.cutF [0,1] (fun (z:{ c:List (List Int)//c=hsg (jns rs t col N) t col∧¬cf p col=0 })=>match z with|⟨c,hcs⟩=>[]) (fun M=>fun (z:{ c:List (List Int)//c=hsg (jns rs t col N) t col∧¬cf p col=0 })=>match z with|⟨c,hcs⟩=>hwM bw gt c C t) (fun K7 hK7=>?_) ?_))))))
  ·refine .sq fun k8=>.dr (.m [] rfl (.so [23] rfl (.nilc (.t rfl)) (.so [24] rfl (.fieldAddr (.t rfl) xS zu) (.so [25] rfl (.load1 (.t rfl) (i:=0) rfl zu rfl) (.m [] rfl (.so [27] rfl (.nilc (.t rfl)) (.so [28] rfl (.fieldAddr (.t rfl) vZ ty3) (.so [29] rfl (.load1 (.t rfl) (i:=0) rfl ty3 rfl) (.so [26,30] rfl (.ixGr qn zP (.t rfl) (.t rfl) (by omega)) ?_)))))))))
   refine .so [31] rfl (.loadGM (.t rfl) (i:=1) rfl zP hp) (.m [] rfl (.fn (n:=11) zW (.w [0,1,32,33] rfl ?_)))
   refine st (.ixK zz zE (.t rfl) (.t rfl) zN ⟨by omega,by rw[List.length_map];omega⟩ (xn (i:=col) (by omega))) rfl ?_
   refine st (.loadP (.t rfl) zE rfl (Ss':=[_,_]) rfl) rfl ?_
   refine st (.eq (.call (qC (by rw[zB];omega)) (.cons (.t rfl) .nil)) ((show _=isI (sgn (cf p col)) from by first|(rw[zH];done)|(rw[qN];done)|rfl))) rfl ?_
   refine nkQ k8 (.block (.sr fun k9=>st (.eqI (.t rfl) (.cI 0 rfl)) rfl (stM rfl (nkQ k9 (.w [0,1,36,37] rfl (.cd rfl (fun hc2=>?_) (fun hc2=>?_)))))))
   ·have h0:cf p col=0:=(xQ _).1 hc2
    refine .ret (.blr (.thr (zHO (.inl rfl) Tryz.results60 rfl (⟨rfl,by rw[hcl,if_pos h0]⟩))))
   ·have h0:¬cf p col=0:=fun e=>hc2 ((xQ _).2 e)
    refine .sr fun k10=>st (.eqI (.t rfl) (.cI (-1) rfl)) rfl (stM rfl (nkQ k10 (.cd rfl (fun hc3=>?_) (fun hc3=>?_))))
    ·have hl0:cf p col<0:=(ar _).1 (by omega)
     refine .dry zW (.u 0 rfl (.mv (.t rfl)) (.u 1 rfl (.nilc (.t rfl)) (.u 2 rfl (.fieldAddr (.t rfl) xS zu) (.u 4 rfl (.mv (.t rfl)) (.u 5 rfl (.nilc (.t rfl)) (.u 6 rfl (.fieldAddr (.t rfl) vZ ty3) (.u 9 rfl (.mv (.t rfl)) (.u 10 rfl (.nilc (.t rfl)) (.u 11 rfl (.fieldAddr (.t rfl) xS zu) (.u 13 rfl (.mv (.t rfl)) (.u 14 rfl (.nilc (.t rfl)) (.u 15 rfl (.fieldAddr (.t rfl) vZ ty3) (.u 20 rfl (.mv (.t rfl)) (.u 21 rfl (.nilc (.t rfl)) (.u 22 rfl (.fieldAddr (.t rfl) xS zu) (.u 24 rfl (.mv (.t rfl)) (.u 25 rfl (.nilc (.t rfl)) (.u 26 rfl (.fieldAddr (.t rfl) vZ ty3) (.go [] (.so 3 [] rfl (.load1 (.t rfl) (i:=0) rfl zu rfl) (.so 7 [] rfl (.load1 (.t rfl) (i:=0) rfl ty3 rfl) (.so 8 [] rfl (.call (xC) (.cons (.cI (-1) rfl) .nil)) (.so 12 [] rfl (.load1 (.t rfl) (i:=0) rfl zu rfl) (.so 16 [] rfl (.load1 (.t rfl) (i:=0) rfl ty3 rfl) ?_))))))))))))))))))))))))
     refine .so 17 [53,57] rfl (.ixGr qn zP (.t rfl) (.t rfl) (by omega)) ?_
     refine .so 18 [58] rfl (.loadGM (.t rfl) (i:=1) rfl zP hp) (.so 19 [] rfl (.build [isB false,SlM isU []] yN zK (fun _ _=>⟨rfl,nilM _ _,trivial⟩) .nil (Z'':=[_,_]) rfl) (.so 23 [] rfl (.load1 (.t rfl) (i:=0) rfl zu rfl) (.so 27 [] rfl (.load1 (.t rfl) (i:=0) rfl ty3 rfl) (.so 28 [64,68] rfl (.ixGr qn zP (.t rfl) (.t rfl) (by omega)) ?_))))
     refine .so 29 [69] rfl (.loadGM (.t rfl) (i:=1) rfl zP hp) (.so 30 [49,59,60,70] rfl (.eq (.call (bl (A:=1) (B:=1) (K:=P) (L:=P) (by rw[zB];exact qL (by decide)) (by rw[zQ];exact hpP) (by exact qL (by decide)) (by rw[zQ];exact hpP) (by omega) (by omega) rfl (by rw[List.length_map];omega)) (.cons (.t rfl) (.cons (.t rfl) (.cons (.t rfl) (.cons (.t rfl) .nil))))) ((show _=isP (mx2 (-1) p 0 p) from wM (by simp only[zH,zQ];rfl)))) ?_)
     refine .fn [31,32] (.w [0,1,44,48,71] rfl (st (.ixGr qn zP (.t rfl) (.t rfl) (by omega)) rfl (.storeGM (z:=mx2 (-1) p 0 p) (.t rfl) (.t rfl) (i:=1) rfl zP (by omega) (M':=[_,grM _ _ _]) rfl (nl (.bln (.thn (hK7 (⟨_,rfl,h0⟩) _ _ (Cv.mem (.l [0,1] rfl) ?_))))))))
     ·exact gU (by unfold hsg;rw[xj hp,if_pos hl0];rfl) (by rw[jZ])
    ·have hl0:¬cf p col<0:=fun e=>by rcases qR (cf p col) with h|h|h <;> omega
     refine .skip (.bln (.thn (hK7 (⟨_,rfl,h0⟩) _ _ (Cv.mem (.l [0,1] rfl) ?_))))
     ·exact gU (by unfold hsg;rw[xj hp,if_neg hl0]) (by rw[jZ])
  rintro⟨c,hcs,h0⟩
  refine .w [0,1] rfl (.memEq (M':=hwM bw gt c C t) rfl ?_)
  subst hcs
  have hpos:=rh hp h0
  refine .sr fun k11=>stM rfl (stM rfl (.callX (pB (rs:=hsg (jns rs t col N) t col) (col:=col) (P:=P) (fI hrowA (by omega)) (by rw[jZ];omega) hc hW (by rw[jZ];omega) (pA hbA) (by omega) hpos) (List.Perm.refl _) (.cons (.t rfl) (.cons (.t rfl) .nil)) rfl ?_))
  rintro _ _ ⟨rfl,rfl⟩
  refine .memEq (M':=hwM bw gt (rds (hsg (jns rs t col N) t col) t col t) C t) rfl (nkQ k11 (.region (stM rfl (st (.nilc (.t rfl)) rfl (st (.fieldAddr (.t rfl) vZ ty3) rfl (st (.load1 (.t rfl) (i:=0) rfl ty3 rfl) rfl (st (.addI (.t rfl) (.cI 1 rfl) (by omega) (by omega)) rfl (st (.nilc (.t rfl)) rfl (st (.fieldAddr (.t rfl) vZ ty3) rfl (.store (.t rfl) (.t rfl) (i:=0) rfl ty3 rfl rfl (Ss':=[_,_,_]) rfl (M':=[(some _,zC [_,_,_]),_]) rfl (nl (zHO (.inr rfl) Tryz.results60 rfl (⟨rfl,(zEK (top':=t+1) (by omega)).trans (by rw[hcl,if_neg h0])⟩)))))))))))))
theorem nH {rs:List (List Int)} {W lo hi:Nat} {c tp:Int} (hrow:∀r∈rs,r.length=W) (h1:lo≤hi) (h2:hi≤W) (hW:W≤128) (hR:rs.length≤64):Ctr Tryz.prog 61 [aZ [SlM isP rs,isI c,isI tp],isI (lo:Int),isI (hi:Int)] (xW rs.length (hi-lo) (xV lo hi rs)):=by
 refine Ctr.i Tryz.func61 rfl Tryz.ntmps61 fun w0 F0=>.w [0,1,2] rfl (.fact (Has.rngI (Has.t (t:=1) rfl)) fun lt1=>.fact (Has.rngI (Has.t (t:=2) rfl)) fun lt2=>?_)
 have hmx:∀i,i≤rs.length→(xV lo hi (rs.take i)).length≤8192:=fun i hi'=>by
  rw[kN (rs:=rs.take i) h1 h2 (fun r hr=>hrow r (List.mem_of_mem_take hr)),List.length_take]
  exact Nat.le_trans (Nat.mul_le_mul (show _≤64 by omega) (show hi-lo≤128 by omega)) (by decide)
 refine .sr fun k1=>.alloc [isI 0,isI 0,zi] zX (fun _ _=>⟨⟨rfl,by decide,by decide⟩,⟨rfl,by decide,by decide⟩,rfl,trivial⟩) rfl fun b1=>nkQ k1 (.sr fun k2=>stM rfl (st (.nilcP (.t rfl)) rfl (st (.fieldAddrP (.t rfl) xS zu (Ss':=[_,_,_]) rfl) rfl (st (.loadP1 (.t rfl) zu) rfl (st (.len qn (.t rfl)) rfl (stM rfl (stM rfl (st (.eq (.subI (.t rfl) (.t rfl) (by omega) (by omega)) ((show isI _=isI ((hi-lo:Nat):Int) from zF (by omega)))) rfl (st (.build [isI 0,isI 0,zi] bx zX (fun _ _=>⟨⟨rfl,by decide,by decide⟩,⟨rfl,by decide,by decide⟩,rfl,trivial⟩) (.cons (.t rfl) rfl rfl rfl (.cons (.t rfl) rfl rfl rfl .nil)) (Z'':=[_,_,_]) rfl) rfl (.alloc [isI 0,isI 0,zi] zX (fun _ _=>⟨⟨rfl,by decide,by decide⟩,⟨rfl,by decide,by decide⟩,rfl,trivial⟩) rfl fun b2=>.store (.t rfl) (.t rfl) (i:=0) rfl zL rfl rfl (Ss':=[_,_,_]) rfl (M':=[(some _,zC [_,_,_]),_]) rfl (nkQ k2 (.w [0,1,2,6,7] rfl (.sq fun k3=>.sq fun k4=>.cv (Cv.growF (Bool×List Nat) (i:=0) (o:=2) rfl rfl rfl) (.memEq (M':=[zj zc Gr.nil [],_,_]) rfl (.region (stM rfl (st (.nilcP (.t rfl)) rfl (st (.fieldAddrP (.t rfl) xS zu (Ss':=[_,_,_]) rfl) rfl (st (.loadP1 (.t rfl) zu) rfl (st (.len qn (.t rfl)) rfl (st (.mv (.cI 0 rfl)) rfl (nkQ k4 (.block ?_)))))))))))))))))))))))
 refine .loopF [1,2,6,7,22,23] (fun (z:{ z:Nat×Gr (Bool×List Nat)//z.1≤rs.length })=>match z with|⟨(i,g),hI⟩=>[(24,isI (i:Int))]) (fun M=>fun (z:{ z:Nat×Gr (Bool×List Nat)//z.1≤rs.length })=>match z with|⟨(i,g),hI⟩=>[zj zc g ((xV lo hi (rs.take i)).map nz),(some b2,zC [isI (rs.length:Int),isI ((hi-lo:Nat):Int),ze g ((xV lo hi (rs.take i)).map nz).length]),(some b1,zC [isI 0,isI 0,zi])]) (fun (z:{ z:Nat×Gr (Bool×List Nat)//z.1≤rs.length })=>match z with|⟨(i,g),hI⟩=>rs.length-i) (⟨(0,Gr.nil),Nat.zero_le _⟩) (Cv.mem (.c 24 rfl ?_ (.l [1,2,6,7,22,23] rfl)) ?_) ?_
 ·rfl
 ·rfl
 rintro⟨⟨i,g⟩,hI⟩ K5 hK5
 refine .w [24,1,2,6,7,22,23] rfl (.memEq (M':=[zj zc g ((xV lo hi (rs.take i)).map nz),(some b2,zC [isI (rs.length:Int),isI ((hi-lo:Nat):Int),ze g ((xV lo hi (rs.take i)).map nz).length]),(some b1,zC [isI 0,isI 0,zi])]) rfl ?_)
 simp only[] at hI
 have hfl:=hmx i hI
 refine .sr fun k6=>st (.ltI (.t rfl) (.t rfl)) rfl (nkQ k6 (.sq fun k7=>.cd rfl (fun hc1=>?_) (fun hc1=>?_)))
 ·obtain⟨r,hr⟩:∃r,rs[i]?=some r:=⟨_,List.getElem?_eq_getElem (by omega)⟩
  have hrW:=hrow r (List.mem_of_getElem? hr)
  have hrm:(((r.take hi).drop lo).map nz).length=hi-lo:=by rw[List.length_map,List.length_drop,List.length_take];omega
  refine .skip (.nk k7 (.sq fun k8=>.block (.sr fun k9=>st (.ixP qn zP (.t rfl) (.t rfl) (by omega) hr) rfl (st (.loadP1 (.t rfl) zP) rfl (stM rfl (nkQ k9 (.dry zW (.u 0 rfl (.fieldAddr (.t rfl) qU zP) (.u 2 rfl (.mv (.t rfl)) (.u 3 rfl (.mv (.t rfl)) (.u 4 rfl (.mv (.t rfl)) (.go [] (.so 1 [] rfl (.load1 (.t rfl) (i:=1) rfl zP rfl) ?_)))))))))))))
  refine .so 5 [] rfl (.eq (.slLHK zz zE zN (.t rfl) (.t rfl) (.t rfl) ⟨by omega,by omega,by rw[List.length_map];omega⟩) ((show _=SlK 2 zc (((r.take hi).drop lo).map nz) from ln (by rw[List.map_drop,List.map_take];rfl)))) ?_
  refine .fn [6,7,8] (.w [1,2,6,7,22,23,24,25,26,27,9,28,30,31,32,29,33] rfl (.appendGK0 (fk:=zc) (u:=(false,[])) zN (by decide) (fun _=>inferInstance) zz zE zK (fun _ _=>⟨rfl,nilM _ _,trivial⟩) cT (.t rfl) (i:=0) rfl (.t rfl) (by rw[List.length_map,hrm];omega) rfl fun gr1=>?_))
  refine .memEq (M':=[zj _ _ _,_,_]) rfl (st (.fieldAddr (.t rfl) qU zP) rfl (.store (.t rfl) (.t rfl) (i:=1) rfl zP rfl rfl (Ss':=[_,_,_]) rfl (M':=[_,(some _,zC [_,_,_]),_]) rfl (nl (.bln (.nk k8 (.region (st (.addI (.t rfl) (.cI 1 rfl) (by omega) (by omega)) rfl (stM rfl (nl (.thn ?_))))))))))
  refine hK5 (⟨(i+1,gr1),by show i+1≤rs.length;omega⟩) _ _ ?_ (Cv.mem (.c 24 rfl ?_ (.l [1,2,6,7,22,23] rfl)) ?_)
  ·show rs.length-(i+1)<rs.length-i;omega
  ·exact zF (by omega)
  ·exact lS (by rw[ge hr,List.map_append,List.length_append]) (by rw[ge hr,List.map_append])
 ·refine .exit (.the (.the (.blh (.nk k3 (.w [6,7] rfl (.sq fun k10=>.cv (Cv.freezeF (k:=2) (i:=0) (j:=0) (o:=2) rfl rfl rfl rfl (aT zN) (wB zN) (Ss':=[_,_,SlK 2 zc ((xV lo hi (rs.take i)).map nz)]) rfl) (.memEq (M':=[(some _,zC [_,_,SlK 2 zc ((xV lo hi (rs.take i)).map nz)]),_]) rfl (.w [6,7] rfl (.region (st (.load (.t rfl) (i:=0) rfl zL rfl (Ss':=[_,_,_]) rfl) rfl (.store (.t rfl) (.t rfl) (i:=1) rfl zL rfl rfl (Ss':=[_,_,_]) rfl (M':=[_,(some _,zC [_,_,_])]) rfl (nkQ k10 (.ret (rt1 (.inl rfl) Tryz.results61 rfl (.cell rfl (i:=1) rfl zL rfl ?_ .nil)))))))))))))))
  all_goals (exact bi (by rw[List.take_of_length_le (by omega)]))
end Go.Proofs.YtchbfpcaibfkdaaGreat
namespace Go.Proofs.YtchbfpcaibfkdaaGreat
open Go.En Go.RowKit
set_option maxRecDepth 10000
set_option maxHeartbeats 4000000
open Go.Nt
open Go.Pz
open Go.Mz
open Go.Hn
open Go.Hp
open Go.Dt
theorem zEQ {bw C c:Nat} {gt:Gr (List Int)} {s:HS} {m:Mem} (h:(qP s c).top<(qP s c).rows.length):(hw0 bw gt (vH (qP s c) c).rows.length C (vH (qP s c) c).top::grM isP gt (vH (qP s c) c).rows::m:Mem)=hw0 bw gt (qP s (c+1)).rows.length C (qP s (c+1)).top::grM isP gt (qP s (c+1)).rows::m:=by
 have e:qP s (c+1)=vH (qP s c) c:=if_pos h
 rw[e]
theorem col_bq {K R a:Nat} (h:K+4≤a) (h2:a*(R+2)≤80000000):(a-3+3)*(R+2)≤80000000:=by rw[Nat.sub_add_cancel (by omega)];exact h2
theorem yx {R C:Nat} {L:List Int} {s:HS} (hlen:s.rows.length=R) (h:s=hrm R C L):xW s.rows.length (C-0) (xV 0 C s.rows)=xW R C (xV 0 C (hrm R C L).rows):=by rw[hlen,h];rfl
theorem yw {R C:Nat} {L:List Int} {s:HS} (hlen:s.rows.length=R) (h:s=hrm R C L):xW s.rows.length (C+R-C) (xV C (C+R) s.rows)=xW R R (xV C (C+R) (hrm R C L).rows):=by rw[hlen,h,Nat.add_sub_cancel_left]
theorem lQ {R C K:Nat} {xs:List (Bool×List Nat)} (hx:Bd (zG xs) K) (hK:hq R (K+4) (hrk R C (zG xs))*(R+2)≤80000000) (hR:R≤64) (hC:C≤64) (hl:xs.length=R*C):Ctr Tryz.prog 24 [isM (R:Int) (C:Int) xs] (zZ [xW R C (xV 0 C (hrm R C (zG xs)).rows),xW R R (xV C (C+R) (hrm R C (zG xs)).rows),isI 0]):=by
 refine Ctr.i Tryz.func24 rfl Tryz.ntmps24 fun w0 F0=>.w [0] rfl ?_
 have hfo:=qK hR hC hl
 have hok:=wN (jG (R:=R) (C:=C) hx)
 have hbq:=rm (jG (R:=R) (C:=C) hx) rfl
 have hqs:∀c,c≤C→hq R (K+4) (qP ⟨qm C R (zG xs) R,0⟩ c).top*(R+2)≤80000000:=fun c hc=>Nat.le_trans (Nat.mul_le_mul_right _ (ro (tV (jG (R:=R) (C:=C) hx) hc) (hok C).top)) hK
 have hp0:K+4≤80000000:=Nat.le_trans (Nat.le_mul_of_pos_right _ (Nat.succ_pos (R+1))) (hqs 0 (Nat.zero_le _))
 obtain⟨n0,hn0⟩:∃n0:Nat,n0=R:=⟨_,rfl⟩
 refine .sr fun k1=>.box (.t rfl) rfl fun b1=>.alloc [isI 0,isI 0,zi] zX (fun _ _=>⟨⟨rfl,by decide,by decide⟩,⟨rfl,by decide,by decide⟩,rfl,trivial⟩) rfl fun b2=>.alloc [isI 0,isI 0,zi] zX (fun _ _=>⟨⟨rfl,by decide,by decide⟩,⟨rfl,by decide,by decide⟩,rfl,trivial⟩) rfl fun b3=>st (.as (.cI 0 rfl)) rfl (nkQ k1 (.sq fun k2=>.sr fun k3=>st (.load (.t rfl) (i:=2) rfl zL rfl (Ss':=[_,_,_]) rfl) rfl (st (.eq (.call (qO) (.cons (.t rfl) .nil)) ((show isB _=isB true from zl hfo))) rfl (st (.not (.t rfl)) rfl (nkQ k3 (.cd rfl (fun hc1=>?_) (fun hc1=>?_)))))))
 ·simp at hc1
 ·refine .skip (.nk k2 (.sr fun k4=>st (.load (.t rfl) (i:=2) rfl zL rfl (Ss':=[_,_,_]) rfl) rfl (.callX (tX hx (by omega) hR hC hl) (List.Perm.refl _) (.cons (.t rfl) .nil) rfl ?_)))
  rintro _ _ ⟨bw,gt,rfl,rfl⟩
  refine .memEq (M':=[hw0 bw gt (qm C R (zG xs) R).length C 0,grM isP gt (qm C R (zG xs) R),_,_,_]) rfl (stM rfl (nkQ k4 (.w [1,2,3,4,5] rfl (.sq fun k5=>.sr fun k6=>st (.as (.cI 0 rfl)) rfl (nkQ k6 (.block (.loopF [1,2,3,4,5] (fun (z:{ c:Nat//c≤C })=>match z with|⟨c,hc⟩=>[(6,isI (c:Int))]) (fun M=>fun (z:{ c:Nat//c≤C })=>match z with|⟨c,hc⟩=>[hw0 bw gt (qP ⟨qm C R (zG xs) R,0⟩ c).rows.length C (qP ⟨qm C R (zG xs) R,0⟩ c).top,grM isP gt (qP ⟨qm C R (zG xs) R,0⟩ c).rows,(some b3,zC [isI 0,isI 0,zi]),(some b2,zC [isI 0,isI 0,zi]),(some b1,zC [isI (R:Int),isI (C:Int),SlK 2 zc xs])]) (fun (z:{ c:Nat//c≤C })=>match z with|⟨c,hc⟩=>C-c) (⟨0,Nat.zero_le _⟩) (Cv.mem (.c 6 rfl ?_ (.l [1,2,3,4,5] rfl)) ?_) ?_)))))))
  ·rfl
  ·rfl
  rintro⟨c,hc⟩ K7 hK7
  refine .w [6,1,2,3,4,5] rfl (.memEq (M':=[hw0 bw gt (qP ⟨qm C R (zG xs) R,0⟩ c).rows.length C (qP ⟨qm C R (zG xs) R,0⟩ c).top,grM isP gt (qP ⟨qm C R (zG xs) R,0⟩ c).rows,(some b3,zC [isI 0,isI 0,zi]),(some b2,zC [isI 0,isI 0,zi]),(some b1,zC [isI (R:Int),isI (C:Int),SlK 2 zc xs])]) rfl ?_)
  have hoc:=hok c
  have hlen:=hoc.len
  have htop:=hoc.top
  have hpc:=hqs c hc
  refine .sq fun k8=>.sq fun k9=>.dr (.m [] rfl (.so [] rfl (.fieldAddr (.t rfl) zo ty3) (.so [15] rfl (.load1 (.t rfl) (i:=4) rfl ty3 rfl) (.so [14,16] rfl (.ltI (.t rfl) (.t rfl)) (.m [17] rfl (.s [18] rfl rfl rfl (.T rfl rfl rfl (fun hg=>.mv (.t rfl))) (.s [18,19] rfl rfl rfl (.T rfl rfl rfl (fun hg=>.nilc (Has.g rfl hg))) (.s [18,20] rfl rfl rfl (.T rfl rfl rfl (fun hg=>.fieldAddr (Has.g rfl hg) vZ ty3)) (.s [18,21] rfl rfl rfl (.T rfl rfl rfl (fun hg=>.load1 (Has.g rfl hg) (i:=0) rfl ty3 rfl)) (.s [18] rfl rfl rfl (.T rfl rfl rfl (fun hg=>.fieldAddr (.t rfl) zY ty3)) (.s [18,23] rfl rfl rfl (.T rfl rfl rfl (fun hg=>.load1 (Has.g rfl hg) (i:=4) rfl ty3 rfl)) (.fn (n:=11) zW (.w [1,2,3,4,5,6,14,15,16,17,18,19,20,21,22,23,24] rfl (stT rfl rfl (fun hg=>.ltI (Has.g rfl hg) (Has.g rfl hg)) rfl (st (.pickAnd (.t rfl) (fun h=>Has.g rfl h)) rfl (nkQ k9 (.cd rfl (fun hc2=>?_) (fun hc2=>?_))))))))))))))))))
  ·obtain⟨hc1',hc2'⟩:=hc2
   refine .skip (.nk k8 (.sq fun k10=>.block (.region (stM rfl (stM rfl (.callX (pC (rs:=(qP ⟨qm C R (zG xs) R,0⟩ c).rows) (t:=(qP ⟨qm C R (zG xs) R,0⟩ c).top) (col:=c) (W:=C+R) (K:=hq R (K+4) (qP ⟨qm C R (zG xs) R,0⟩ c).top-3) hoc.row (by omega) (by omega) (by omega) (by omega) (hbq c) (by rw[hlen];exact col_bq (zGI htop) hpc)) (List.Perm.refl _) (.cons (.t rfl) (.cons (.t rfl) .nil)) rfl ?_))))))
   rintro _ _ ⟨rfl,rfl⟩
   refine .memEq (M':=[hw0 bw gt (vH (qP ⟨qm C R (zG xs) R,0⟩ c) c).rows.length C (vH (qP ⟨qm C R (zG xs) R,0⟩ c) c).top,grM isP gt (vH (qP ⟨qm C R (zG xs) R,0⟩ c) c).rows,_,_,_]) rfl (nl (.bln (.nk k10 (.region (stM rfl (st (.addI (.t rfl) (.cI 1 rfl) (by omega) (by omega)) rfl (stM rfl (nl (.thn (hK7 (⟨c+1,by omega⟩) _ _ ?_ (Cv.mem (.c 6 rfl ?_ (.l [1,2,3,4,5] rfl)) ?_)))))))))))
   ·show C-(c+1)<C-c;omega
   ·exact zF (by omega)
   ·exact zEQ (show (qP ⟨qm C R (zG xs) R,0⟩ c).top<_ by omega)
  ·have hst:=tU (jG (R:=R) (C:=C) hx) hc (show ¬(c<C∧_) from fun h=>by omega)
   refine .exit (.the (.the (.blh (.nk k5 (.w [1,2,3,4,5] rfl (.sq fun k11=>.cv (Cv.freezeF (k:=1) (i:=1) (j:=0) (o:=0) rfl rfl rfl rfl rr nM (Ss':=[SlM isP ((qP ⟨qm C R (zG xs) R,0⟩ c).rows),_,_]) rfl) (.memEq (M':=[(some _,zC [SlM isP ((qP ⟨qm C R (zG xs) R,0⟩ c).rows),_,_]),_,_,_]) rfl (.w [1,2,3,4,5] rfl (.cv (Cv.freezeBox (t:=5) (i:=0) rfl rfl rfl) (.memEq (M':=[_,_,_]) rfl (.w [1,2,3,4,5] rfl (.dr (.m [] rfl (.so [] rfl (.fieldAddr (.t rfl) zo ty3) (.so [33] rfl (.load1 (.t rfl) (i:=2) rfl ty3 rfl) (.so [32,34] rfl (.call (nH (lo:=0) (hi:=C) hoc.row (by omega) (by omega) (by omega) (by omega)) (.cons (.t rfl) (.cons (.cI 0 rfl) (.cons (.t rfl) .nil)))) (.m [] rfl (.so [] rfl (.fieldAddr (.t rfl) zo ty3) (.so [37] rfl (.load1 (.t rfl) (i:=2) rfl ty3 rfl) (.so [] rfl (.fieldAddr (.t rfl) zo ty3) (.so [39] rfl (.load1 (.t rfl) (i:=2) rfl ty3 rfl) (.so [] rfl (.fieldAddr (.t rfl) zY ty3) (.so [41] rfl (.load1 (.t rfl) (i:=2) rfl ty3 rfl) ?_)))))))))))))))))))))))
   refine .so [40,42] rfl (.eq (.addI (.t rfl) (.t rfl) (by omega) (by omega)) ((show isI _=isI ((C+R:Nat):Int) from zF (by omega)))) (.fn (n:=12) zW (.w [2,3,4,35,36,38,43] rfl (st (.call (nH (lo:=C) (hi:=C+R) hoc.row (by omega) (by omega) (by omega) (by omega)) (.cons (.t rfl) (.cons (.t rfl) (.cons (.t rfl) .nil)))) rfl (.store (.t rfl) (.t rfl) (i:=1) rfl zL rfl rfl (Ss':=[_,_,_]) rfl (M':=[_,(some _,zC [_,_,_]),_]) rfl (.store (.t rfl) (.t rfl) (i:=0) rfl zL rfl rfl (Ss':=[_,_,_]) rfl (M':=[(some _,zC [_,_,_]),_,_]) rfl (st (.as (.cI 0 rfl)) rfl (nkQ k11 (.w [2,3,4] rfl (.ret (rtN (.inl rfl) Tryz.results24 rfl rfl (.cell rfl (i:=1) rfl zL rfl ?_ (.cell rfl (i:=0) rfl zL rfl ?_ (.tmp (Has.t' rfl ?_) .nil)))))))))))))
   ·exact yx hlen hst.symm
   ·exact yw hlen hst.symm
   ·rfl
theorem eV {r c:Int} {xs:List (Bool×List Nat)} (hf:xc r c xs.length=false):Ctr Tryz.prog 24 [isM r c xs] (zZ [nD,nD,isI 2]):=by
 refine Ctr.i Tryz.func24 rfl Tryz.ntmps24 fun w0 F0=>.w [0] rfl (.sr fun k1=>.box (.t rfl) rfl fun b1=>.alloc [isI 0,isI 0,SlK 2 zc ([]:List (Bool×List Nat))] zX (fun _ _=>⟨⟨rfl,by decide,by decide⟩,⟨rfl,by decide,by decide⟩,vm,trivial⟩) rfl fun b2=>.alloc [isI 0,isI 0,SlK 2 zc ([]:List (Bool×List Nat))] zX (fun _ _=>⟨⟨rfl,by decide,by decide⟩,⟨rfl,by decide,by decide⟩,vm,trivial⟩) rfl fun b3=>st (.as (.cI 0 rfl)) rfl (nkQ k1 (.sq fun k2=>.sr fun k3=>st (.load (.t rfl) (i:=2) rfl zL rfl (Ss':=[_,_,_]) rfl) rfl (st (.eq (.call (qO) (.cons (.t rfl) .nil)) ((show isB _=isB false from zl hf))) rfl (st (.not (.t rfl)) rfl (nkQ k3 (.cd rfl (fun hc1=>?_) (fun hc1=>?_))))))))
 ·refine .sr fun k4=>st (.build [isI 0,isI 0,SlK 2 zc ([]:List (Bool×List Nat))] bx zX (fun _ _=>⟨⟨rfl,by decide,by decide⟩,⟨rfl,by decide,by decide⟩,vm,trivial⟩) .nil (Z'':=[_,_,_]) rfl) rfl (st (.build [isI 0,isI 0,SlK 2 zc ([]:List (Bool×List Nat))] bx zX (fun _ _=>⟨⟨rfl,by decide,by decide⟩,⟨rfl,by decide,by decide⟩,vm,trivial⟩) .nil (Z'':=[_,_,_]) rfl) rfl (.store (.t rfl) (.t rfl) (i:=1) rfl zL rfl rfl (Ss':=[_,_,_]) rfl (M':=[_,(some _,zC [_,_,_]),_]) rfl (.store (.t rfl) (.t rfl) (i:=0) rfl zL rfl rfl (Ss':=[_,_,_]) rfl (M':=[(some _,zC [_,_,_]),_,_]) rfl (st (.as (.cI 2 rfl)) rfl (nkQ k4 (.w [1,2,3,4] rfl (.ret (.thr (rtN (.inl rfl) Tryz.results24 rfl rfl (.cell rfl (i:=1) rfl zL rfl ?_ (.cell rfl (i:=0) rfl zL rfl ?_ (.tmp (Has.t' rfl ?_) .nil))))))))))))
  all_goals (rfl)
 ·exfalso;simp at hc1
theorem eM {R C K:Nat} {xs:List (Bool×List Nat)} (hx:Bd (zG xs) K) (hK:(K+4)*(R+2)^C≤1000000) (hR:R≤64) (hC:C≤64) (hl:xs.length=R*C):Ctr Tryz.prog 24 [isM (R:Int) (C:Int) xs] (zZ [xW R C (xV 0 C (hrm R C (zG xs)).rows),xW R R (xV C (C+R) (hrm R C (zG xs)).rows),isI 0]):=lQ hx (hq_ask hx hR hK) hR hC hl
theorem iJ {xs:List (Bool×List Nat)} {K:Nat} (hx:Bd (zG xs) K):Ctr Tryz.prog 89 [SlK 2 zc xs,dI (ι:={ p:Bool×List Nat//(List.length (zA (val p.2)))≤K }) Tryz.prog (fun p=>[zk (zc p.1)]) (fun p=>isB (decide (zv p.1.1 p.1.2≠0)))] (isI (fir xs.length (cf (zG xs)))):=by
 refine Ctr.i Tryz.func89 rfl Tryz.ntmps89 fun w0 F0=>.w [0,1] rfl (.fact (Has.lenLt (Has.t (t:=0) rfl)) fun lt0=>.sr fun k1=>st (.as (.cI 0 rfl)) rfl (nkQ k1 (.sq fun k2=>.sr fun k3=>stM rfl (st (.len zz (.t rfl)) rfl (st (.mv (.cI 0 rfl)) rfl (nkQ k3 (.block (.loopF [0,1,7] (fun (z:{ i:Nat//i≤xs.length∧∀j,j<i→cf (zG xs) j=0 })=>match z with|⟨i,hI⟩=>[(8,isI (i:Int))]) (fun M=>fun (z:{ i:Nat//i≤xs.length∧∀j,j<i→cf (zG xs) j=0 })=>match z with|⟨i,hI⟩=>M) (fun (z:{ i:Nat//i≤xs.length∧∀j,j<i→cf (zG xs) j=0 })=>match z with|⟨i,hI⟩=>xs.length-i) (⟨0,Nat.zero_le _,fun j hj=>absurd hj (Nat.not_lt_zero _)⟩) (Cv.mem (.c 8 rfl ?_ (.l [0,1,7] rfl)) ?_) ?_))))))))
 ·rfl
 ·rfl
 rintro⟨i,hi,hq⟩ K4 hK4
 refine .w [8,0,1,7] rfl (.sr fun k5=>st (.ltI (.t rfl) (.t rfl)) rfl (nkQ k5 (.sq fun k6=>.cd rfl (fun hc1=>?_) (fun hc1=>?_))))
 ·refine .skip (.nk k6 (.sq fun k7=>.block (.sr fun k8=>stM rfl (stM rfl (nkQ k8 (.sr fun k9=>stM rfl (stM rfl (stM rfl (st (.ixK zz zE (.t rfl) (.t rfl) zN (by omega) (getD_some (d:=(false,[])) (by omega))) rfl (st (.loadP (.t rfl) zE rfl (Ss':=[_,_]) rfl) rfl (st (.eq (.callV ⟨xs.getD i (false,[]),hx.raw i⟩ (.t rfl) (.cons (.t rfl) .nil)) ((show _=isB (decide (cf (zG xs) i≠0)) from zl (by rw[qb])))) rfl (nkQ k9 (.cd rfl (fun hc2=>?_) (fun hc2=>?_))))))))))))))
  ·have HQ:cf (zG xs) i≠0:=hc2
   refine .sr fun k10=>stM rfl (stM rfl (nkQ k10 (.ret (.blr (.thr (.thr (.blr (.thr (rt1 (.inl rfl) Tryz.results89 rfl (.tmp (Has.t' rfl ?_) .nil))))))))))
   all_goals (exact zF (fir_at (by omega) hq HQ).symm)
  ·have HQ:¬cf (zG xs) i≠0:=hc2
   refine .skip (.bln (.nk k7 (.region (st (.addI (.t rfl) (.cI 1 rfl) (by omega) (by omega)) rfl (stM rfl (nl (.thn ?_)))))))
   refine hK4 (⟨i+1,by omega,fun j hj=>by rcases Nat.lt_or_ge j i with h|h;exact hq j h;obtain rfl:j=i:=(by omega);exact Classical.not_not.1 HQ⟩) _ _ ?_ (Cv.mem (.c 8 rfl ?_ (.l [0,1,7] rfl)) ?_)
   ·show xs.length-(i+1)<xs.length-i;omega
   ·exact zF (by omega)
   ·rfl
 ·refine .exit (.the (.the (.blh (.nk k2 (.cv (Cv.wk .nil) (.sr fun k11=>st (.as (.cI (-1) rfl)) rfl (nkQ k11 (.ret (rt1 (.inl rfl) Tryz.results89 rfl (.tmp (Has.t' rfl ?_) .nil))))))))))
  all_goals (exact zF (zFB fun j hj=>hq j (by omega)).symm)
theorem nI {m:Bool} {xs:List Nat} (hx:(List.length (zA (val xs)))<4294700000):Ctr Tryz.prog 90 [zk [isB m,zD xs]] (isB (decide (zv m xs≠0))):=by
 refine Ctr.i Tryz.func90 rfl Tryz.ntmps90 fun w0 F0=>.w [0] rfl (.fact (Has.okZ (Has.t (t:=0) rfl)) fun okz0=>.sr fun k1=>.box (.t rfl) rfl fun b1=>st (.as (.cB false)) rfl (nkQ k1 (.sr fun k2=>st (.load (.t rfl) (i:=0) rfl zE rfl (Ss':=[_,_]) rfl) rfl (st (.call (qC (by omega)) (.cons (.t rfl) .nil)) rfl (st (.neI (.t rfl) (.cI 0 rfl)) rfl (stM rfl (nkQ k2 (.w [2] rfl (.ret (rt1 (.inl rfl) Tryz.results90 rfl (.tmp (Has.t' rfl ?_) .nil)))))))))))
 all_goals (exact zl (by simp[xQ]))
theorem tW {R C i K:Nat} {xs:List (Bool×List Nat)} (hx:Bd (zG xs) K) (hK:K≤400000000) (hR:R≤64) (hC:C≤64) (hl:xs.length=R*C) (hi:i<R):Ctr Tryz.prog 62 [isM (R:Int) (C:Int) xs,isI (i:Int)] (isI (fir C ((mf C (zG xs)) i))):=by
 refine Ctr.i Tryz.func62 rfl Tryz.ntmps62 fun w0 F0=>.w [0,1] rfl (.fact (Has.rngI (Has.t (t:=1) rfl)) fun lt1=>?_)
 have hRC:=qT hR hC
 have hpl1:(i+1)*C≤R*C:=Nat.mul_le_mul_right _ hi
 have hpl2:(i+1)*C=i*C+C:=Nat.succ_mul _ _
 have hc1:((i:Int)*(C:Int))=((i*C:Nat):Int):=(Int.natCast_mul i C).symm
 have hc2:(((i:Int)+1)*(C:Int))=(((i+1)*C:Nat):Int):=by rw[Int.natCast_mul];rfl
 obtain⟨ys,hys⟩:∃ys,ys=(xs.take ((i+1)*C)).drop (i*C):=⟨_,rfl⟩
 have hyl:ys.length=C:=by rw[hys,List.length_drop,List.length_take];omega
 have hyv:∀k,k<C→cf (zG ys) k=(mf C (zG xs)) i k:=fun k hk=>by rw[hys];exact nc (by omega)
 have hyb:Bd (zG ys) K:=fun k=>by
  rcases Nat.lt_or_ge k C with h|h
  ·rw[hyv k h];exact hx _
  ·rw[je (by rw[xy];omega),Int.natAbs_zero,zJ];exact Nat.zero_le _
 refine .sr fun k1=>.box (.t rfl) rfl fun b1=>st (.as (.cI 0 rfl)) rfl (nkQ k1 (.sr fun k2=>st (.fieldAddr (.t rfl) qU zP) rfl (st (.load1 (.t rfl) (i:=0) rfl zP rfl) rfl (stM rfl (st (.fieldAddr (.t rfl) zo ty3) rfl (st (.load1 (.t rfl) (i:=0) rfl ty3 rfl) rfl (st (.eq (.mulI (.t rfl) (.t rfl) (by omega) (by omega)) ((show isI _=isI ((i*C:Nat):Int) from zF hc1))) rfl (stM rfl (st (.addI (.t rfl) (.cI 1 rfl) (by omega) (by omega)) rfl (st (.fieldAddr (.t rfl) zo ty3) rfl (st (.load1 (.t rfl) (i:=0) rfl ty3 rfl) rfl (st (.eq (.mulI (.t rfl) (.t rfl) (by omega) (by omega)) ((show isI _=isI (((i+1)*C:Nat):Int) from zF hc2))) rfl (st (.eq (.slLHK zz zE zN (.t rfl) (.t rfl) (.t rfl) ⟨by omega,by omega,by omega⟩) ((show _=SlK 2 zc ys from ln (by rw[hys];rfl)))) rfl ?_)))))))))))))
 refine st (.eq (.call (iJ (K:=K) hyb) (.cons (.t rfl) (.cons (Has.fn (fun p=>nI (Nat.lt_of_le_of_lt p.2 (by omega)))) .nil))) ((show _=isI (fir C ((mf C (zG xs)) i)) from zF (by rw[hyl];exact ta hyv)))) rfl ?_
 refine stM rfl (nkQ k2 (.w [4] rfl (.ret (rt1 (.inl rfl) Tryz.results62 rfl (.tmp (Has.t' rfl ?_) .nil)))))
 all_goals (rfl)
theorem gV {R C K:Nat} {xs:List (Bool×List Nat)} (hx:Bd (zG xs) K) (hK:K≤400000000) (hR:R≤64) (hC:C≤64) (hl:xs.length=R*C):Ctr Tryz.prog 25 [isM (R:Int) (C:Int) xs] (SlM isI (pv (jw C (mf C (zG xs)) R))):=by
 refine Ctr.i Tryz.func25 rfl Tryz.ntmps25 fun w0 F0=>.w [0] rfl ?_
 have hRC:=qT hR hC
 have hfo:=qK hR hC hl
 refine .sr fun k1=>.box (.t rfl) rfl fun b1=>st (.as (.cW (f:=isI))) rfl (nkQ k1 (.sq fun k2=>.sr fun k3=>st (.load (.t rfl) (i:=0) rfl zL rfl (Ss':=[_,_,_]) rfl) rfl (st (.eq (.call (qO) (.cons (.t rfl) .nil)) ((show isB _=isB true from zl (hfo)))) rfl (st (.not (.t rfl)) rfl (nkQ k3 (.cd rfl (fun hc1=>?_) (fun hc1=>?_)))))))
 ·exfalso;simp at hc1
 ·refine .skip (.nk k2 (.sr fun k4=>.cv (Cv.grow0 (α:=Int) isI) (st (.as (Has.cGr (α:=Int))) rfl (nkQ k4 (.sq fun k5=>.sr fun k6=>st (.fieldAddr (.t rfl) zY ty3) rfl (st (.load1 (.t rfl) (i:=1) rfl ty3 rfl) rfl (st (.mv (.cI 0 rfl)) rfl (nkQ k6 (.w [1,2,3,10,11] rfl (.block (.loopF [1,2,10] (fun (z:{ z:Nat×Gr Int//z.1≤R })=>match z with|⟨(i,g),hI⟩=>[(11,isI (i:Int)),(3,ze g (pv (jw C (mf C (zG xs)) i)).length)]) (fun M=>fun (z:{ z:Nat×Gr Int//z.1≤R })=>match z with|⟨(i,g),hI⟩=>[grM isI g (pv (jw C (mf C (zG xs)) i)),(some b1,zC [isI (R:Int),isI (C:Int),SlK 2 zc xs])]) (fun (z:{ z:Nat×Gr Int//z.1≤R })=>match z with|⟨(i,g),hI⟩=>R-i) (⟨(0,Gr.nil),Nat.zero_le _⟩) (Cv.mem (.c 11 rfl ?_ (.c 3 rfl ?_ (.l [1,2,10] rfl))) ?_) ?_)))))))))))
  ·rfl
  ·rfl
  ·rfl
  rintro⟨⟨i,g⟩,hI⟩ K7 hK7
  refine .w [11,3,1,2,10] rfl (.memEq (M':=[grM isI g (pv (jw C (mf C (zG xs)) i)),(some b1,zC [isI (R:Int),isI (C:Int),SlK 2 zc xs])]) rfl ?_)
  simp only[] at hI
  have hpl:=cz C (mf C (zG xs)) i
  refine .sr fun k8=>st (.ltI (.t rfl) (.t rfl)) rfl (nkQ k8 (.sq fun k9=>.cd rfl (fun hc2=>?_) (fun hc2=>?_)))
  ·refine .skip (.nk k9 (.sq fun k10=>.block (.sr fun k11=>stM rfl (stM rfl (nkQ k11 (.sr fun k12=>st (.load (.t rfl) (i:=1) rfl zL rfl (Ss':=[_,_,_]) rfl) rfl (stM rfl (st (.call (tW (i:=i) hx hK hR hC hl (by omega)) (.cons (.t rfl) (.cons (.t rfl) .nil))) rfl (stM rfl (nkQ k12 (.sr fun k13=>stM rfl (st (.geI (.t rfl) (.cI 0 rfl)) rfl (nkQ k13 (.cd rfl (fun hc3=>?_) (fun hc3=>?_)))))))))))))))
   ·have hfk:=fir_lt hc3
    refine .region (stM rfl (st (.eq (.mv (.t rfl)) ((show _=isI ((fc C ((mf C (zG xs)) i):Nat):Int) from zF (if_pos hfk)))) rfl (st (.buildS [isI 0] wr ty3 bz (fun _ _=>⟨⟨rfl,by decide,by decide⟩,trivial⟩) rfl rfl (.cons (.t rfl) rfl rfl rfl .nil) rfl (S:=SlM isI [((fc C ((mf C (zG xs)) i):Nat):Int)]) rfl) rfl (.appendG (f:=isI) (u:=0) wr ty3 bz (fun _ _=>⟨⟨rfl,by decide,by decide⟩,trivial⟩) (fun _=>inferInstance) by3 (.t rfl) (i:=0) rfl (.t rfl) (by rw[ju];show _+1≤_;omega) (by simp) rfl fun gr1=>?_))))
    refine .memEq (M':=[grM _ _ _,_]) rfl (stM rfl (nl (.bln (.nk k10 (.region (st (.addI (.t rfl) (.cI 1 rfl) (by omega) (by omega)) rfl (stM rfl (nl (.thn ?_)))))))))
    refine hK7 (⟨(i+1,gr1),by show i+1≤R;omega⟩) _ _ ?_ (Cv.mem (.c 11 rfl ?_ (.c 3 rfl ?_ (.l [1,2,10] rfl))) ?_)
    ·show R-(i+1)<R-i;omega
    ·exact zF (by omega)
    ·exact jY (by rw[cy hfk,lC,List.length_append])
    ·exact gY (by rw[cy hfk,lC])
   ·have hfk:=fir_no hc3
    refine .skip (.bln (.nk k10 (.region (st (.addI (.t rfl) (.cI 1 rfl) (by omega) (by omega)) rfl (stM rfl (nl (.thn ?_)))))))
    refine hK7 (⟨(i+1,g),by show i+1≤R;omega⟩) _ _ ?_ (Cv.mem (.c 11 rfl ?_ (.c 3 rfl ?_ (.l [1,2,10] rfl))) ?_)
    ·show R-(i+1)<R-i;omega
    ·exact zF (by omega)
    ·exact jY (by rw[er hfk])
    ·exact gY (by rw[er hfk])
  ·refine .exit (.the (.the (.blh (.nk k5 (.sq fun k14=>.cv (Cv.freezeG (t:=3) (i:=0) (ys:=pv (jw C (mf C (zG xs)) i)) rfl rfl rfl) (.memEq (M':=[_]) rfl (.w [1,2,10,11,3,12] rfl (.region (stM rfl (stM rfl (nkQ k14 (.w [2] rfl (.ret (rt1 (.inl rfl) Tryz.results25 rfl (.tmp (Has.t' rfl ?_) .nil)))))))))))))))
   all_goals (exact qJ (by rw[show i=R by omega]))
theorem lq {r:Int} {C i k lo:Nat} {xs:List (Bool×List Nat)} (hxm:xs.length≤4096) (hlo:lo+i≤100) (hp:(lo+i)*C+k<xs.length):Ctr Tryz.prog 63 [isI (i:Int),isI (k:Int),ptM r (C:Int) xs,aZ [isI (lo:Int)]] (zk (zc (xs.getD ((lo+i)*C+k) (false,[])))):=by
 refine Ctr.i Tryz.func63 rfl Tryz.ntmps63 fun w0 F0=>.w [0,1,2,3] rfl (.fact (Has.rngI (Has.t (t:=0) rfl)) fun lt0=>.fact (Has.rngI (Has.t (t:=1) rfl)) fun lt1=>.sr fun k1=>.alloc [isB false,SlM isU []] zK (fun _ _=>⟨rfl,nilM _ _,trivial⟩) rfl fun b1=>nkQ k1 (.sr fun k2=>st (.loadP (.t rfl) zL rfl (Ss':=[_,_,_]) rfl) rfl (st (.loadP1 (.t rfl) ty3) rfl (stM rfl (st (.eq (.addI (.t rfl) (.t rfl) (by omega) (by omega)) ((show isI _=isI ((lo+i:Nat):Int) from zF (by omega)))) rfl (stM rfl (st (.call (jl (i:=lo+i) (k:=k) hxm hp) (.cons (.t rfl) (.cons (.t rfl) (.cons (.t rfl) .nil)))) rfl (.store (.t rfl) (.t rfl) (i:=0) rfl zE rfl rfl (Ss':=[_,_]) rfl (M':=[(some _,zC [_,_])]) rfl (nkQ k2 (.w [6] rfl (.ret (rt1 (.inl rfl) Tryz.results63 rfl (.cell rfl (i:=0) rfl zE rfl ?_ .nil)))))))))))))
 all_goals (rfl)
theorem wj {R C K lo hi:Nat} {xs:List (Bool×List Nat)} (hx:Bd (zG xs) K) (hK:K≤400000000) (hR:R≤64) (hC:C≤64) (hl:xs.length=R*C) (h1:lo≤hi) (h2:hi≤R):Ctr Tryz.prog 27 [isM (R:Int) (C:Int) xs,isI (lo:Int),isI (hi:Int)] (zZ [xW ((hi-lo:Nat)) C (tab ((hi-lo)*C) C fun i k=>cf (zG xs) ((lo+i)*C+k)),isI 0]):=by
 refine Ctr.i Tryz.func27 rfl Tryz.ntmps27 fun w0 F0=>.w [0,1,2] rfl (.fact (Has.rngI (Has.t (t:=1) rfl)) fun lt1=>.fact (Has.rngI (Has.t (t:=2) rfl)) fun lt2=>?_)
 have hRC:=qT hR hC
 have hfo:=qK hR hC hl
 refine .sr fun k1=>.box (.t rfl) rfl fun b1=>.box (.t rfl) rfl fun b2=>.alloc [isI 0,isI 0,zi] zX (fun _ _=>⟨⟨rfl,by decide,by decide⟩,⟨rfl,by decide,by decide⟩,rfl,trivial⟩) rfl fun b3=>st (.as (.cI 0 rfl)) rfl (nkQ k1 (.sq fun k2=>.block (.sr fun k3=>st (.load (.t rfl) (i:=2) rfl zL rfl (Ss':=[_,_,_]) rfl) rfl (st (.eq (.call (qO) (.cons (.t rfl) .nil)) ((show isB _=isB true from zl (hfo)))) rfl (st (.not (.t rfl)) rfl (stM rfl (nkQ k3 (.w [2,3,4,6,7,8] rfl (.cd rfl (fun hc1=>?_) (fun hc1=>?_))))))))))
 ·exfalso;simp at hc1
 ·refine .sr fun k4=>st (.load1 (.t rfl) (i:=1) rfl ty3 rfl) rfl (st (.ltI (.t rfl) (.cI 0 rfl)) rfl (stM rfl (stF rfl rfl (fun hg=>.load1 (.t rfl) (i:=1) rfl ty3 rfl) rfl (stF rfl rfl (fun hg=>.mv (.t rfl)) rfl (stF rfl rfl (fun hg=>.gtI (Has.g rfl hg) (Has.g rfl hg)) rfl (st (.pickOr (.t rfl) (fun h=>Has.g rfl (ng h))) rfl (stM rfl (stF rfl rfl (fun hg=>.mv (.t rfl)) rfl (stF rfl rfl (fun hg=>.fieldAddr (.t rfl) zY ty3) rfl (stF rfl rfl (fun hg=>.load1 (Has.g rfl hg) (i:=2) rfl ty3 rfl) rfl (stF rfl rfl (fun hg=>.gtI (Has.g rfl hg) (Has.g rfl hg)) rfl (st (.pickOr (.t rfl) (fun h=>Has.g rfl (ng h))) rfl (stM rfl (nkQ k4 (.w [2,3,4,6,7,13] rfl (.cd rfl (fun hc2=>?_) (fun hc2=>?_)))))))))))))))))
  ·exfalso;omega
  ·refine .skip (.bln (.nk k2 (.sr fun k5=>stM rfl (st (.load1 (.t rfl) (i:=1) rfl ty3 rfl) rfl (st (.eq (.subI (.t rfl) (.t rfl) (by omega) (by omega)) ((show isI _=isI ((hi-lo:Nat):Int) from zF (by omega)))) rfl (st (.fieldAddr (.t rfl) zo ty3) rfl (st (.load1 (.t rfl) (i:=2) rfl ty3 rfl) rfl (.cv (Cv.freezeBox (t:=3) (i:=2) rfl rfl rfl) (.memEq (M':=[_,_]) rfl (.w [2,3,4,6,7,13,28,29,30,32] rfl (.cv (Cv.freezeBox (t:=4) (i:=1) rfl rfl rfl) (.memEq (M':=[_]) rfl (.w [2,3,4,6,7,13,28,29,30,32] rfl (st (.makeFn (ι:=PI (hi-lo) C) (As:=fun p=>[isI (p.1.1:Int),isI (p.1.2:Int)]) (R:=fun p=>zk (zc (xs.getD ((lo+p.1.1)*C+p.1.2) (false,[])))) (fun p=>lq (by omega) (by have:=p.2.1;omega) (by have:=zt (show lo+p.1.1<R by have:=p.2.1;omega) p.2.2;omega)) .nil (.cons (.t rfl) (.cons (.t rfl) .nil))) rfl ?_))))))))))))))
   refine st (.call (wi (f:=fun i k=>xs.getD ((lo+i)*C+k) (false,[])) (by omega) hC (fun i k _ _=>Nat.le_trans (hx.raw _) (by omega))) (.cons (.t rfl) (.cons (.t rfl) (.cons (.t rfl) .nil)))) rfl (.store (.t rfl) (.t rfl) (i:=0) rfl zL rfl rfl (Ss':=[_,_,_]) rfl (M':=[(some _,zC [_,_,_])]) rfl (st (.as (.cI 0 rfl)) rfl (nkQ k5 (.w [6,7] rfl (.ret (rtN (.inl rfl) Tryz.results27 rfl rfl (.cell rfl (i:=0) rfl zL rfl ?_ (.tmp (Has.t' rfl ?_) .nil))))))))
   ·exact bi (by congr 1;funext i k;rw[qb])
   ·rfl
theorem kW {R R' C i k:Nat} {xs ys:List (Bool×List Nat)} (hxm:xs.length≤4096) (hym:ys.length≤4096) (hxl:xs.length=R*C) (hyl:ys.length=R'*C) (hi:i<R+R') (hk:k<C):Ctr Tryz.prog 68 [isI (i:Int),isI (k:Int),ptM (R:Int) (C:Int) xs,ptM (R':Int) (C:Int) ys] (zk (zc (if i<R then xs.getD (i*C+k) (false,[]) else ys.getD ((i-R)*C+k) (false,[])))):=by
 refine Ctr.i Tryz.func68 rfl Tryz.ntmps68 fun w0 F0=>.w [0,1,2,3] rfl (.fact (Has.rngI (Has.t (t:=0) rfl)) fun lt0=>.fact (Has.rngI (Has.t (t:=1) rfl)) fun lt1=>.sr fun k1=>.alloc [isB false,SlM isU []] zK (fun _ _=>⟨rfl,nilM _ _,trivial⟩) rfl fun b1=>nkQ k1 (.sq fun k2=>.sr fun k3=>stM rfl (st (.fieldAddrP (.t rfl) zY ty3 (Ss':=[_,_,_]) rfl) rfl (st (.loadP1 (.t rfl) ty3) rfl (st (.ltI (.t rfl) (.t rfl)) rfl (nkQ k3 (.cd rfl (fun hc1=>?_) (fun hc1=>?_))))))))
 ·refine .sr fun k4=>st (.loadP (.t rfl) zL rfl (Ss':=[_,_,_]) rfl) rfl (stM rfl (stM rfl (st (.call (jl (i:=i) (k:=k) hxm (by have:=zt (show i<R by omega) hk;omega)) (.cons (.t rfl) (.cons (.t rfl) (.cons (.t rfl) .nil)))) rfl ?_)))
  refine .store (.t rfl) (.t rfl) (i:=0) rfl zE rfl rfl (Ss':=[_,_]) rfl (M':=[(some _,zC [_,_])]) rfl (nkQ k4 (.w [0,1,2,3,6] rfl (.ret (.thr (rt1 (.inl rfl) Tryz.results68 rfl (.cell rfl (i:=0) rfl zE rfl ?_ .nil))))))
  all_goals (rw[if_pos (by omega)])
 ·refine .skip (.nk k2 (.sr fun k5=>st (.loadP (.t rfl) zL rfl (Ss':=[_,_,_]) rfl) rfl (stM rfl (st (.fieldAddrP (.t rfl) zY ty3 (Ss':=[_,_,_]) rfl) rfl (st (.loadP1 (.t rfl) ty3) rfl (st (.eq (.subI (.t rfl) (.t rfl) (by omega) (by omega)) ((show isI _=isI ((i-R:Nat):Int) from zF (by omega)))) rfl (stM rfl (st (.call (jl (i:=i-R) (k:=k) hym (by have:=zt (show i-R<R' by omega) hk;omega)) (.cons (.t rfl) (.cons (.t rfl) (.cons (.t rfl) .nil)))) rfl ?_))))))))
  refine .store (.t rfl) (.t rfl) (i:=0) rfl zE rfl rfl (Ss':=[_,_]) rfl (M':=[(some _,zC [_,_])]) rfl (nkQ k5 (.w [6] rfl (.ret (rt1 (.inl rfl) Tryz.results68 rfl (.cell rfl (i:=0) rfl zE rfl ?_ .nil)))))
  all_goals (rw[if_neg (by omega)])
theorem fR {R R' C K:Nat} {xs ys:List (Bool×List Nat)} (hx:Bd (zG xs) K) (hy:Bd (zG ys) K) (hK:K≤400000000) (hR:R+R'≤64) (hC:C≤64) (hl:xs.length=R*C) (hyl:ys.length=R'*C):Ctr Tryz.prog 31 [isM (R:Int) (C:Int) xs,isM (R':Int) (C:Int) ys] (zZ [xW ((R+R':Nat)) C (fa R R' C (zG xs) (zG ys)),isI 0]):=by
 refine Ctr.i Tryz.func31 rfl Tryz.ntmps31 fun w0 F0=>.w [0,1] rfl ?_
 have h1:=qT (show R≤64 by omega) hC
 have h2:=qT (show R'≤64 by omega) hC
 have hfo:=qK (show R≤64 by omega) hC hl
 have hfo':=qK (show R'≤64 by omega) hC hyl
 refine .sr fun k1=>.box (.t rfl) rfl fun b1=>.box (.t rfl) rfl fun b2=>.alloc [isI 0,isI 0,zi] zX (fun _ _=>⟨⟨rfl,by decide,by decide⟩,⟨rfl,by decide,by decide⟩,rfl,trivial⟩) rfl fun b3=>st (.as (.cI 0 rfl)) rfl (nkQ k1 (.sq fun k2=>.block (.sr fun k3=>st (.load (.t rfl) (i:=2) rfl zL rfl (Ss':=[_,_,_]) rfl) rfl (st (.eq (.call (qO) (.cons (.t rfl) .nil)) ((show isB _=isB true from zl (hfo)))) rfl (st (.not (.t rfl)) rfl (stM rfl (stF rfl rfl (fun hg=>.load (.t rfl) (i:=1) rfl zL rfl (Ss':=[_,_,_]) rfl) rfl (stF rfl rfl (fun hg=>.eq (.call (qO) (.cons (Has.g rfl hg) .nil)) ((show isB _=isB true from zl (hfo')))) rfl (stF rfl rfl (fun hg=>.not (Has.g rfl hg)) rfl (st (.pickOr (.t rfl) (fun h=>Has.g rfl (ng h))) rfl (stM rfl (stF rfl rfl (fun hg=>.fieldAddr (.t rfl) zo ty3) rfl (stF rfl rfl (fun hg=>.load1 (Has.g rfl hg) (i:=2) rfl ty3 rfl) rfl (stF rfl rfl (fun hg=>.fieldAddr (.t rfl) zo ty3) rfl (stF rfl rfl (fun hg=>.load1 (Has.g rfl hg) (i:=1) rfl ty3 rfl) rfl (stF rfl rfl (fun hg=>.neI (Has.g rfl hg) (Has.g rfl hg)) rfl (st (.pickOr (.t rfl) (fun h=>Has.g rfl (ng h))) rfl (stM rfl (nkQ k3 (.w [2,3,4,5,6] rfl ?_))))))))))))))))))))
 refine .cd rfl (fun hc1=>?_) (fun hc1=>?_)
 ·exfalso;simp at hc1
 ·refine .sr fun k4=>st (.fieldAddr (.t rfl) zY ty3) rfl (st (.load1 (.t rfl) (i:=2) rfl ty3 rfl) rfl (st (.fieldAddr (.t rfl) zY ty3) rfl (st (.load1 (.t rfl) (i:=1) rfl ty3 rfl) rfl (st (.eq (.addI (.t rfl) (.t rfl) (by omega) (by omega)) ((show isI _=isI ((R+R':Nat):Int) from zF (by omega)))) rfl (st (.call (wh) (.cons (.t rfl) .nil)) rfl (st (.not (.t rfl)) rfl (stM rfl (nkQ k4 (.w [2,3,4,5,23] rfl (.cd rfl (fun hc2=>?_) (fun hc2=>?_)))))))))))
  ·exfalso;simp at hc2;omega
  ·refine .skip (.bln (.nk k2 (.sr fun k5=>st (.fieldAddr (.t rfl) zY ty3) rfl (st (.load1 (.t rfl) (i:=2) rfl ty3 rfl) rfl (st (.fieldAddr (.t rfl) zY ty3) rfl (st (.load1 (.t rfl) (i:=1) rfl ty3 rfl) rfl (st (.eq (.addI (.t rfl) (.t rfl) (by omega) (by omega)) ((show isI _=isI ((R+R':Nat):Int) from zF (by omega)))) rfl (st (.fieldAddr (.t rfl) zo ty3) rfl (st (.load1 (.t rfl) (i:=2) rfl ty3 rfl) rfl (.cv (Cv.freezeBox (t:=2) (i:=2) rfl rfl rfl) (.memEq (M':=[_,_]) rfl (.w [2,3,4,5,23,33,34,35,36,38] rfl (.cv (Cv.freezeBox (t:=3) (i:=1) rfl rfl rfl) (.memEq (M':=[_]) rfl (.w [2,3,4,5,23,33,35,36,38] rfl (st (.makeFn (ι:=PI (R+R') C) (As:=fun p=>[isI (p.1.1:Int),isI (p.1.2:Int)]) (R:=fun p=>zk (zc (if p.1.1<R then xs.getD (p.1.1*C+p.1.2) (false,[]) else ys.getD ((p.1.1-R)*C+p.1.2) (false,[])))) (fun p=>kW (by omega) (by omega) hl hyl p.2.1 p.2.2) .nil (.cons (.t rfl) (.cons (.t rfl) .nil))) rfl ?_))))))))))))))))
   refine st (.call (wi (f:=fun i k=>if i<R then xs.getD (i*C+k) (false,[]) else ys.getD ((i-R)*C+k) (false,[])) (by omega) hC (fun i k _ _=>by split;exact Nat.le_trans (hx.raw _) (by omega);exact Nat.le_trans (hy.raw _) (by omega))) (.cons (.t rfl) (.cons (.t rfl) (.cons (.t rfl) .nil)))) rfl ?_
   refine .store (.t rfl) (.t rfl) (i:=0) rfl zL rfl rfl (Ss':=[_,_,_]) rfl (M':=[(some _,zC [_,_,_])]) rfl (st (.as (.cI 0 rfl)) rfl (nkQ k5 (.w [4,5] rfl (.ret (rtN (.inl rfl) Tryz.results31 rfl rfl (.cell rfl (i:=0) rfl zL rfl ?_ (.tmp (Has.t' rfl ?_) .nil)))))))
   ·exact bi (by unfold fa;congr 1;funext i k;rw[qb,qb];split <;> rfl)
   ·rfl
end Go.Proofs.YtchbfpcaibfkdaaGreat
namespace Go.Pz
open Go.Nt Go.En
theorem mS {z:Int} (h:(0<(((List.length (zA z.natAbs)):Nat):Int)∧dig z.natAbs ((List.length (zA z.natAbs))-1)=0)∨((((List.length (zA z.natAbs)):Nat):Int)=0∧z<0)):False:=by
 rcases h with ⟨h1,h2⟩|⟨h1,h2⟩
 ·refine bq (n:=z.natAbs) (fun e=>?_) h2
  rw[e,zJ] at h1;exact absurd h1 (by decide)
 ·have:=xI z.natAbs
  rw[show (List.length (zA z.natAbs))=0 by omega,Nat.pow_zero] at this
  omega
def iR (xs:List (Bool×List Nat)) (n w:Int):Bool:=(xs.take 100).all (fun p=>decide ((p.2.length:Int)≤w))&&decide ((xs.length:Int)≤n)
theorem zFC {xs:List (Bool×List Nat)} {n w:Int} {i:Nat} (hi:i<xs.length) (h1:i<100) (h:¬((xs.getD i (false,[])).2.length:Int)≤w):iR xs n w=false:=by
 unfold iR
 have hm:xs.getD i (false,[])∈xs.take 100:=by
  rw[List.getD,List.getElem?_eq_getElem hi]
  exact List.mem_take_iff_getElem.2 ⟨i,by omega,rfl⟩
 have:(xs.take 100).all (fun p=>decide ((p.2.length:Int)≤w))=false:=by
  rw[List.all_eq_false]
  exact⟨_,hm,by rw[decide_eq_true_eq];exact h⟩
 rw[this];rfl
theorem zAZ {xs:List (Bool×List Nat)} {n w:Int} {i:Nat} (hi:xs.length≤i∨100≤i) (h:∀j,j<i→((xs.getD j (false,[])).2.length:Int)≤w):iR xs n w=decide ((xs.length:Int)≤n):=by
 unfold iR
 have:(xs.take 100).all (fun p=>decide ((p.2.length:Int)≤w))=true:=by
  rw[List.all_eq_true]
  intro p hp
  obtain⟨j,hj,rfl⟩:=List.mem_take_iff_getElem.1 hp
  have:=h j (by omega)
  rw[List.getD,List.getElem?_eq_getElem (by omega)] at this
  exact decide_eq_true this
 rw[this];rfl
theorem sA {xs:List (Bool×List Nat)} {n w:Int} {N K:Nat} (ok:∀p∈xs,(∀y∈p.2,y<18446744073709551616)∧p.2.length≤9223372036854775807) (h:iR xs n w=true) (hn:n=(N:Int)) (hw:w=(K:Int)) (h1:N≤100):xs.length≤N∧Bd (zG xs) K:=by
 unfold iR at h
 rw[Bool.and_eq_true,decide_eq_true_eq,List.all_eq_true] at h
 subst hn;subst hw
 refine⟨by omega,fun i=>?_⟩
 rw[qb,xt]
 rcases Nat.lt_or_ge i xs.length with hi|hi
 ·rw[List.getD,List.getElem?_eq_getElem hi]
  have h2:=h.1 xs[i] (List.mem_take_iff_getElem.2 ⟨i,by omega,rfl⟩)
  rw[decide_eq_true_eq] at h2
  exact Nat.le_trans (wX (ok _ (List.getElem_mem hi)).1) (by show xs[i].2.length≤K;omega)
 ·rw[List.getD,List.getElem?_eq_none (by omega)]
  show (List.length (zA (val [])))≤K
  rw[show val []=0 from rfl,zJ];exact Nat.zero_le _
end Go.Pz
namespace Go.Proofs.YtchbfpcaibfkdaaGreat
open Go.En Go.RowKit
set_option maxRecDepth 10000
set_option maxHeartbeats 4000000
open Go.Nt
open Go.Pz
theorem sv {xs:List (Bool×List Nat)} {n w:Int}:Ctr Tryz.prog 23 [SlK 2 zc xs,isI n,isI w] (isB (iR xs n w)):=by
 refine Ctr.i Tryz.func23 rfl Tryz.ntmps23 fun w0 F0=>.w [0,1,2] rfl (.fact (Has.lenLt (Has.t (t:=0) rfl)) fun lt0=>.fact (Has.rngI (Has.t (t:=1) rfl)) fun lt1=>.fact (Has.rngI (Has.t (t:=2) rfl)) fun lt2=>.sr fun k1=>st (.as (.cB false)) rfl (nkQ k1 (.sq fun k2=>.sr fun k3=>st (.as (.cI 0 rfl)) rfl (nkQ k3 (.block (.loopF [0,1,2] (fun (z:{ i:Nat//i≤xs.length∧i≤100∧∀j,j<i→((xs.getD j (false,[])).2.length:Int)≤w })=>match z with|⟨i,hi⟩=>[(7,isI (i:Int))]) (fun M=>fun (z:{ i:Nat//i≤xs.length∧i≤100∧∀j,j<i→((xs.getD j (false,[])).2.length:Int)≤w })=>match z with|⟨i,hi⟩=>[]) (fun (z:{ i:Nat//i≤xs.length∧i≤100∧∀j,j<i→((xs.getD j (false,[])).2.length:Int)≤w })=>match z with|⟨i,hi⟩=>xs.length-i) (⟨0,Nat.zero_le _,by omega,fun j h=>absurd h (Nat.not_lt_zero _)⟩) (Cv.mem (.c 7 rfl ?_ (.l [0,1,2] rfl)) ?_) ?_))))))
 ·rfl
 ·rfl
 rintro⟨i,hi,h1,hj⟩ K4 hK4
 refine .w [7,0,1,2] rfl (.memEq (M':=[]) rfl (.sq fun k5=>.sr fun k6=>stM rfl (stM rfl (st (.len zz (.t rfl)) rfl (st (.ltI (.t rfl) (.t rfl)) rfl (stM rfl (stT rfl rfl (fun hg=>.mv (.t rfl)) rfl (stT rfl rfl (fun hg=>.ltI (Has.g rfl hg) (.cI 100 rfl)) rfl (st (.pickAnd (.t rfl) (fun h=>Has.g rfl h)) rfl (nkQ k6 (.cd rfl (fun hc1=>?_) (fun hc1=>?_))))))))))))
 ·refine .skip (.nk k5 (.sq fun k7=>.block (.sr fun k8=>stM rfl (stM rfl (st (.ixK zz zE (.t rfl) (.t rfl) zN (by omega) (getD_some (d:=(false,[])) (by omega))) rfl (st (.fieldAddrP (.t rfl) qM qc (Ss':=[_]) rfl) rfl (st (.loadP1 (.t rfl) qc) rfl (st (.len zh (.t rfl)) rfl (stM rfl (st (.gtI (.t rfl) (.t rfl)) rfl (nkQ k8 (.cd rfl (fun hc2=>?_) (fun hc2=>?_)))))))))))))
  ·have hNo:¬((xs.getD i (false,[])).2.length:Int)≤w:=(by simp only[Int.toNat_natCast] at hc2;omega)
   refine .sr fun k9=>st (.as (.cB false)) rfl (nkQ k9 (.ret (.blr (.thr (.thr (.blr (.thr (rt1 (.inl rfl) Tryz.results23 rfl (.tmp (Has.t' rfl ?_) .nil)))))))))
   all_goals (exact zl (zFC (by omega) (by omega) hNo).symm)
  ·have hLe:((xs.getD i (false,[])).2.length:Int)≤w:=(by simp only[Int.toNat_natCast] at hc2;omega)
   refine .skip (.bln (.nk k7 (.region (stM rfl (st (.addI (.t rfl) (.cI 1 rfl) (by omega) (by omega)) rfl (stM rfl (nl (.thn ?_))))))))
   refine hK4 (⟨i+1,by omega,by omega,fun j h=>by rcases Nat.lt_or_ge j i with h2|h2;exact hj j h2;rw[show j=i by omega];exact hLe⟩) _ _ ?_ (Cv.mem (.c 7 rfl ?_ (.l [0,1,2] rfl)) ?_)
   ·show xs.length-(i+1)<xs.length-i;omega
   ·exact zF (by omega)
   ·rfl
 ·refine .exit (.the (.the (.blh (.nk k2 (.w [0,1] rfl (.sr fun k10=>stM rfl (st (.len zz (.t rfl)) rfl (stM rfl (st (.leI (.t rfl) (.t rfl)) rfl (stM rfl (nkQ k10 (.w [6] rfl (.ret (rt1 (.inl rfl) Tryz.results23 rfl (.tmp (Has.t' rfl ?_) .nil)))))))))))))))
  all_goals (exact zl (zAZ (by omega) hj).symm)
end Go.Proofs.YtchbfpcaibfkdaaGreat
namespace Go.Proofs.YtchbfpcaibfkdaaGreat
open Go.En Go.RowKit
set_option maxRecDepth 10000
set_option maxHeartbeats 4000000
open Go.Nt
open Go.Pz
open Go.Mz
open Go.Dt
theorem vk {r c:Int} {xs:List (Bool×List Nat)}:Ctr Tryz.prog 7 [isM r c xs] (isB (xc r c xs.length)):=by
 refine Ctr.i Tryz.func7 rfl Tryz.ntmps7 fun w0 F0=>.w [0] rfl (.sr fun k1=>.box (.t rfl) rfl fun b1=>st (.as (.cB false)) rfl (nkQ k1 (.sr fun k2=>st (.fieldAddr (.t rfl) zY ty3) rfl (st (.load1 (.t rfl) (i:=0) rfl ty3 rfl) rfl (st (.geI (.t rfl) (.cI 0 rfl)) rfl (stM rfl (stT rfl rfl (fun hg=>.fieldAddr (.t rfl) zY ty3) rfl (stT rfl rfl (fun hg=>.load1 (Has.g rfl hg) (i:=0) rfl ty3 rfl) rfl (stT rfl rfl (fun hg=>.leI (Has.g rfl hg) (.cI 64 rfl)) rfl (st (.pickAnd (.t rfl) (fun h=>Has.g rfl h)) rfl (stM rfl (stT rfl rfl (fun hg=>.fieldAddr (.t rfl) zo ty3) rfl (stT rfl rfl (fun hg=>.load1 (Has.g rfl hg) (i:=0) rfl ty3 rfl) rfl (stT rfl rfl (fun hg=>.geI (Has.g rfl hg) (.cI 0 rfl)) rfl (st (.pickAnd (.t rfl) (fun h=>Has.g rfl h)) rfl (stM rfl (stT rfl rfl (fun hg=>.fieldAddr (.t rfl) zo ty3) rfl (stT rfl rfl (fun hg=>.load1 (Has.g rfl hg) (i:=0) rfl ty3 rfl) rfl (stT rfl rfl (fun hg=>.leI (Has.g rfl hg) (.cI 64 rfl)) rfl (st (.pickAnd (.t rfl) (fun h=>Has.g rfl h)) rfl (stM rfl (stT rfl rfl (fun hg=>.fieldAddr (.t rfl) qU zP) rfl (stT rfl rfl (fun hg=>.load1 (Has.g rfl hg) (i:=0) rfl zP rfl) rfl ?_)))))))))))))))))))))))
 refine stT rfl rfl (fun hg=>.len zz (Has.g rfl hg)) rfl (stT rfl rfl (fun hg=>.fieldAddr (.t rfl) zY ty3) rfl (stT rfl rfl (fun hg=>.load1 (Has.g rfl hg) (i:=0) rfl ty3 rfl) rfl (stT rfl rfl (fun hg=>.fieldAddr (.t rfl) zo ty3) rfl (stT rfl rfl (fun hg=>.load1 (Has.g rfl hg) (i:=0) rfl ty3 rfl) rfl ?_))))
 refine stT rfl rfl (fun hg=>have hg':=BP.t hg;OK1.mulI (Has.g rfl hg) (Has.g rfl hg) (by have:=ez ⟨⟨hg'.1.1.1,hg'.1.1.2⟩,hg'.1.2,hg'.2⟩;omega) (by have:=ez ⟨⟨hg'.1.1.1,hg'.1.1.2⟩,hg'.1.2,hg'.2⟩;omega)) rfl ?_
 refine stT rfl rfl (fun hg=>.eqI (Has.g rfl hg) (Has.g rfl hg)) rfl (st (.pickAnd (.t rfl) (fun h=>Has.g rfl h)) rfl (stM rfl (nkQ k2 (.w [2] rfl (.ret (rt1 (.inl rfl) Tryz.results7 rfl (.tmp (Has.t' rfl ?_) .nil)))))))
 all_goals (exact zl (by unfold xc;simp only[Bool.and_assoc]))
theorem vS {r:Int} {C i k:Nat} {xs:List (Bool×List Nat)} (hx:xs.length≤4096) (hl:i*C+k<xs.length):Ctr Tryz.prog 38 [isM r (C:Int) xs,isI (i:Int),isI (k:Int)] (zk (zc (xs.getD (i*C+k) (false,[])))):=by
 refine Ctr.i Tryz.func38 rfl Tryz.ntmps38 fun w0 F0=>.w [0,1,2] rfl (.fact (Has.rngI (Has.t (t:=1) rfl)) fun lt1=>.fact (Has.rngI (Has.t (t:=2) rfl)) fun lt2=>?_)
 have hcp:((i:Int)*(C:Int))=((i*C:Nat):Int):=(Int.natCast_mul i C).symm
 refine .sr fun k1=>.box (.t rfl) rfl fun b1=>.alloc [isB false,SlM isU []] zK (fun _ _=>⟨rfl,nilM _ _,trivial⟩) rfl fun b2=>nkQ k1 (.sr fun k2=>st (.fieldAddr (.t rfl) qU zP) rfl (st (.load1 (.t rfl) (i:=1) rfl zP rfl) rfl (stM rfl (st (.fieldAddr (.t rfl) zo ty3) rfl (st (.load1 (.t rfl) (i:=1) rfl ty3 rfl) rfl (st (.eq (.mulI (.t rfl) (.t rfl) (by omega) (by omega)) ((show isI _=isI ((i*C:Nat):Int) from zF hcp))) rfl (stM rfl (st (.eq (.addI (.t rfl) (.t rfl) (by omega) (by omega)) ((show isI _=isI ((i*C+k:Nat):Int) from zF (by omega)))) rfl (st (.ixK zz zE (.t rfl) (.t rfl) zN (by omega) (getD_some (d:=(false,[])) (by omega))) rfl (st (.loadP (.t rfl) zE rfl (Ss':=[_,_]) rfl) rfl (.store (.t rfl) (.t rfl) (i:=0) rfl zE rfl rfl (Ss':=[_,_]) rfl (M':=[(some _,zC [_,_]),_]) rfl (nkQ k2 (.w [6] rfl (.ret (rt1 (.inl rfl) Tryz.results38 rfl (.cell rfl (i:=0) rfl zE rfl ?_ .nil))))))))))))))))
 all_goals (rfl)
theorem dh {r c n w:Int} {xs:List (Bool×List Nat)}:Ctr Tryz.prog 5 [isM r c xs,isI n,isI w] (isB (decide (r≤n)&&decide (c≤n)&&iR xs 100 w)):=by
 refine Ctr.i Tryz.func5 rfl Tryz.ntmps5 fun w0 F0=>.w [0,1,2] rfl (.fact (Has.rngI (Has.t (t:=1) rfl)) fun lt1=>.fact (Has.rngI (Has.t (t:=2) rfl)) fun lt2=>.sr fun k1=>.box (.t rfl) rfl fun b1=>st (.as (.cB false)) rfl (nkQ k1 (.sr fun k2=>st (.fieldAddr (.t rfl) zY ty3) rfl (st (.load1 (.t rfl) (i:=0) rfl ty3 rfl) rfl (stM rfl (st (.leI (.t rfl) (.t rfl)) rfl (stM rfl (stT rfl rfl (fun hg=>.fieldAddr (.t rfl) zo ty3) rfl (stT rfl rfl (fun hg=>.load1 (Has.g rfl hg) (i:=0) rfl ty3 rfl) rfl (stT rfl rfl (fun hg=>.mv (.t rfl)) rfl (stT rfl rfl (fun hg=>.leI (Has.g rfl hg) (Has.g rfl hg)) rfl (st (.pickAnd (.t rfl) (fun h=>Has.g rfl h)) rfl (stM rfl (stT rfl rfl (fun hg=>.fieldAddr (.t rfl) qU zP) rfl (stT rfl rfl (fun hg=>.load1 (Has.g rfl hg) (i:=0) rfl zP rfl) rfl (stT rfl rfl (fun hg=>.mv (.t rfl)) rfl (stT rfl rfl (fun hg=>.call (sv) (.cons (Has.g rfl hg) (.cons (.cI 100 rfl) (.cons (Has.g rfl hg) .nil)))) rfl (st (.pickAnd (.t rfl) (fun h=>Has.g rfl h)) rfl (stM rfl (nkQ k2 (.w [6] rfl ?_)))))))))))))))))))))
 refine .ret (rt1 (.inl rfl) Tryz.results5 rfl (.tmp (Has.t' rfl ?_) .nil))
 all_goals (rfl)
theorem iM {R C i k:Nat} {xs:List (Bool×List Nat)} (hR:R≤64) (hC:C≤64) (hl:xs.length=R*C) (hi:i<R) (hk:k<C):Ctr Tryz.prog 71 [isM (R:Int) (C:Int) xs,isI (i:Int),isI (k:Int)] (isM ((R:Int)-1) ((C:Int)-1) (wo R C i k xs)):=by
 refine Ctr.i Tryz.func71 rfl Tryz.ntmps71 fun w0 F0=>.w [0,1,2] rfl (.fact (Has.rngI (Has.t (t:=1) rfl)) fun lt1=>.fact (Has.rngI (Has.t (t:=2) rfl)) fun lt2=>?_)
 have hRC:=qT hR hC
 have hRC1:=qT (R:=R-1) (C:=C-1) (by omega) (by omega)
 refine .sr fun k1=>.box (.t rfl) rfl fun b1=>.alloc [isI 0,isI 0,zi] zX (fun _ _=>⟨⟨rfl,by decide,by decide⟩,⟨rfl,by decide,by decide⟩,rfl,trivial⟩) rfl fun b2=>nkQ k1 (.sr fun k2=>st (.fieldAddr (.t rfl) zY ty3) rfl (st (.load1 (.t rfl) (i:=1) rfl ty3 rfl) rfl (st (.subI (.t rfl) (.cI 1 rfl) (by omega) (by omega)) rfl (st (.fieldAddr (.t rfl) zo ty3) rfl (st (.load1 (.t rfl) (i:=1) rfl ty3 rfl) rfl (st (.subI (.t rfl) (.cI 1 rfl) (by omega) (by omega)) rfl (st (.build [isI 0,isI 0,zi] bx zX (fun _ _=>⟨⟨rfl,by decide,by decide⟩,⟨rfl,by decide,by decide⟩,rfl,trivial⟩) (.cons (.t rfl) rfl rfl rfl (.cons (.t rfl) rfl rfl rfl .nil)) (Z'':=[_,_,_]) rfl) rfl (.alloc [isI 0,isI 0,zi] zX (fun _ _=>⟨⟨rfl,by decide,by decide⟩,⟨rfl,by decide,by decide⟩,rfl,trivial⟩) rfl fun b3=>.store (.t rfl) (.t rfl) (i:=0) rfl zL rfl rfl (Ss':=[_,_,_]) rfl (M':=[(some _,zC [_,_,_]),_,_]) rfl (nkQ k2 (.w [1,2,3,6,7] rfl (.sq fun k3=>.sq fun k4=>.cv (Cv.growF (Bool×List Nat) (i:=0) (o:=2) rfl rfl rfl) (.memEq (M':=[zj zc Gr.nil [],_,_,_]) rfl (.region (st (.as (.cI 0 rfl)) rfl (nkQ k4 (.block (.loopF [1,2,3,6,7] (fun (z:{ z:Nat×Gr (Bool×List Nat)//z.1≤R })=>match z with|⟨(r,g),hI⟩=>[(8,isI (r:Int))]) (fun M=>fun (z:{ z:Nat×Gr (Bool×List Nat)//z.1≤R })=>match z with|⟨(r,g),hI⟩=>[zj zc g (qx (woN C i k r 0) (C-1) (woG C i k xs)),(some b3,zC [isI ((R:Int)-1),isI ((C:Int)-1),ze g (qx (woN C i k r 0) (C-1) (woG C i k xs)).length]),(some b2,zC [isI 0,isI 0,zi]),(some b1,zC [isI (R:Int),isI (C:Int),SlK 2 zc xs])]) (fun (z:{ z:Nat×Gr (Bool×List Nat)//z.1≤R })=>match z with|⟨(r,g),hI⟩=>R-r) (⟨(0,Gr.nil),Nat.zero_le _⟩) (Cv.mem (.c 8 rfl ?_ (.l [1,2,3,6,7] rfl)) ?_) ?_)))))))))))))))))
 ·rfl
 ·exact jN (n:=0) (ys:=[]) (by rw[xP,lx]) (show []=qx (woN C i k 0 0) _ _ by rw[lx];rfl)
 rintro⟨⟨r,g⟩,hI⟩ K5 hK5
 refine .w [8,1,2,3,6,7] rfl (.memEq (M':=[zj zc g (qx (woN C i k r 0) (C-1) (woG C i k xs)),(some b3,zC [isI ((R:Int)-1),isI ((C:Int)-1),ze g (qx (woN C i k r 0) (C-1) (woG C i k xs)).length]),(some b2,zC [isI 0,isI 0,zi]),(some b1,zC [isI (R:Int),isI (C:Int),SlK 2 zc xs])]) rfl ?_)
 simp only[] at hI
 refine .sq fun k6=>.sr fun k7=>stM rfl (st (.fieldAddr (.t rfl) zY ty3) rfl (st (.load1 (.t rfl) (i:=3) rfl ty3 rfl) rfl (st (.ltI (.t rfl) (.t rfl)) rfl (nkQ k7 (.cd rfl (fun hc1=>?_) (fun hc1=>?_))))))
 ·refine .skip (.nk k6 (.sq fun k8=>.block (.sr fun k9=>st (.as (.cI 0 rfl)) rfl (nkQ k9 (.block (.loopF [1,2,3,6,7,8,17,18,19,20] (fun (z:{ z:Nat×Gr (Bool×List Nat)//z.1≤C })=>match z with|⟨(c,g2),hK⟩=>[(9,isI (c:Int))]) (fun M=>fun (z:{ z:Nat×Gr (Bool×List Nat)//z.1≤C })=>match z with|⟨(c,g2),hK⟩=>[zj zc g2 (qx (woN C i k r c) (C-1) (woG C i k xs)),(some b3,zC [isI ((R:Int)-1),isI ((C:Int)-1),ze g2 (qx (woN C i k r c) (C-1) (woG C i k xs)).length]),(some b2,zC [isI 0,isI 0,zi]),(some b1,zC [isI (R:Int),isI (C:Int),SlK 2 zc xs])]) (fun (z:{ z:Nat×Gr (Bool×List Nat)//z.1≤C })=>match z with|⟨(c,g2),hK⟩=>C-c) (⟨(0,g),Nat.zero_le _⟩) (Cv.mem (.c 9 rfl ?_ (.l [1,2,3,6,7,8,17,18,19,20] rfl)) ?_) ?_))))))
  ·rfl
  ·rfl
  rintro⟨⟨c,g2⟩,hK⟩ K10 hK10
  refine .w [9,1,2,3,6,7,8,17,18,19,20] rfl (.memEq (M':=[zj zc g2 (qx (woN C i k r c) (C-1) (woG C i k xs)),(some b3,zC [isI ((R:Int)-1),isI ((C:Int)-1),ze g2 (qx (woN C i k r c) (C-1) (woG C i k xs)).length]),(some b2,zC [isI 0,isI 0,zi]),(some b1,zC [isI (R:Int),isI (C:Int),SlK 2 zc xs])]) rfl ?_)
  simp only[] at hK
  refine .sq fun k11=>.sr fun k12=>stM rfl (st (.fieldAddr (.t rfl) zo ty3) rfl (st (.load1 (.t rfl) (i:=3) rfl ty3 rfl) rfl (st (.ltI (.t rfl) (.t rfl)) rfl (nkQ k12 (.cd rfl (fun hc2=>?_) (fun hc2=>?_))))))
  ·refine .skip (.nk k11 (.sq fun k13=>.block (.sr fun k14=>stM rfl (stM rfl (st (.neI (.t rfl) (.t rfl)) rfl (stM rfl (stT rfl rfl (fun hg=>.mv (.t rfl)) rfl (stT rfl rfl (fun hg=>.mv (.t rfl)) rfl (stT rfl rfl (fun hg=>.neI (Has.g rfl hg) (Has.g rfl hg)) rfl (st (.pickAnd (.t rfl) (fun h=>Has.g rfl h)) rfl (nkQ k14 (.cd rfl (fun hc3=>?_) (fun hc3=>?_)))))))))))))
   ·have hrc:=hc3
    have hr:r≠i:=(by omega)
    have hc:c≠k:=(by omega)
    have hpl:=zt (show r<R by omega) (show c<C by omega)
    have hwl:=zGY (R:=R) (c:=c+1) hi hk (show r<R by omega) (show c+1≤C by omega)
    have hwn:=uK (C:=C) hr hc
    refine .dr (.so [] rfl (.fieldAddr (.t rfl) qU zP) (.so [37] rfl (.load1 (.t rfl) (i:=1) rfl zP rfl) (.so [] rfl (.load (.t rfl) (i:=3) rfl zL rfl (Ss':=[_,_,_]) rfl) (.m [] rfl (.m [] rfl (.so [39,40,41] rfl (.call (vS (i:=r) (k:=c) (by omega) (by omega)) (.cons (.t rfl) (.cons (.t rfl) (.cons (.t rfl) .nil)))) (.so [42] rfl (.buildS [isB false,SlM isU []] zz zE zK (fun _ _=>⟨rfl,nilM _ _,trivial⟩) rfl rfl (.cons (.t rfl) rfl rfl rfl .nil) rfl (S:=SlK 2 zc [xs.getD (r*C+c) (false,[])]) rfl) (.fn (n:=7) zW (.w [1,2,3,6,7,8,17,18,19,20,9,23,24,25,26,29,30,31,32,33,34,35,36,37,38,39,40,41,42,43] rfl (.appendGK (fk:=zc) (u:=(false,[])) zN (by decide) (fun _=>inferInstance) zz zE zK (fun _ _=>⟨rfl,nilM _ _,trivial⟩) cT (.t rfl) (i:=0) rfl (.t rfl) (by rw[xP,List.length_singleton];omega) (by simp) rfl fun gr1=>?_))))))))))
    refine .memEq (M':=[zj _ _ _,_,_,_]) rfl (st (.fieldAddr (.t rfl) qU zP) rfl (.store (.t rfl) (.t rfl) (i:=1) rfl zP rfl rfl (Ss':=[_,_,_]) rfl (M':=[_,(some _,zC [_,_,_]),_,_]) rfl (nl (.bln (.nk k13 (.region (stM rfl (st (.addI (.t rfl) (.cI 1 rfl) (by omega) (by omega)) rfl (stM rfl (nl (.thn ?_)))))))))))
    refine hK10 (⟨(c+1,by first|exact gr1|exact g2),by show c+1≤C;omega⟩) _ _ ?_ (Cv.mem (.c 9 rfl ?_ (.l [1,2,3,6,7,8,17,18,19,20] rfl)) ?_)
    ·show C-(c+1)<C-c;omega
    ·exact zF (by omega)
    ·first|exact jN (by rw[xP,xP,hwn];rfl) (by rw[←uJ hr hc (by omega) hk])|exact jN (by rw[ef hno]) (by rw[ef hno])
   ·have hno:¬(r≠i∧c≠k):=(by omega)
    refine .skip (.bln (.nk k13 (.region (stM rfl (st (.addI (.t rfl) (.cI 1 rfl) (by omega) (by omega)) rfl (stM rfl (nl (.thn ?_))))))))
    refine hK10 (⟨(c+1,by first|exact gr1|exact g2),by show c+1≤C;omega⟩) _ _ ?_ (Cv.mem (.c 9 rfl ?_ (.l [1,2,3,6,7,8,17,18,19,20] rfl)) ?_)
    ·show C-(c+1)<C-c;omega
    ·exact zF (by omega)
    ·first|exact jN (by rw[xP,xP,hwn];rfl) (by rw[←uJ hr hc (by omega) hk])|exact jN (by rw[ef hno]) (by rw[ef hno])
  ·refine .exit (.the (.the (.blh (.bln (.nk k8 (.region (stM rfl (st (.addI (.t rfl) (.cI 1 rfl) (by omega) (by omega)) rfl (stM rfl (nl (.thn ?_)))))))))))
   have hkC:c=C:=by omega
   subst hkC
   refine hK5 (⟨(r+1,g2),by show r+1≤R;omega⟩) _ _ ?_ (Cv.mem (.c 8 rfl ?_ (.l [1,2,3,6,7] rfl)) ?_)
   ·show R-(r+1)<R-r;omega
   ·exact zF (by omega)
   ·exact jN (by rw[ly hk]) (by rw[ly hk])
 ·refine .exit (.the (.the (.blh (.nk k3 (.w [6,7] rfl (.sq fun k15=>.cv (Cv.freezeF (k:=2) (i:=0) (j:=0) (o:=2) rfl rfl rfl rfl (aT zN) (wB zN) (Ss':=[_,_,SlK 2 zc (qx (woN C i k r 0) (C-1) (woG C i k xs))]) rfl) (.memEq (M':=[(some _,zC [_,_,SlK 2 zc (qx (woN C i k r 0) (C-1) (woG C i k xs))]),_,_]) rfl (.w [6,7] rfl (.region (st (.load (.t rfl) (i:=0) rfl zL rfl (Ss':=[_,_,_]) rfl) rfl (.store (.t rfl) (.t rfl) (i:=1) rfl zL rfl rfl (Ss':=[_,_,_]) rfl (M':=[_,(some _,zC [_,_,_]),_]) rfl (nkQ k15 (.ret (rt1 (.inl rfl) Tryz.results71 rfl (.cell rfl (i:=1) rfl zL rfl ?_ .nil)))))))))))))))
  all_goals (rw[show r=R by omega,zCM hi];rfl)
theorem iN {n K:Nat} {xs:List (Bool×List Nat)} (hx:Bd (zG xs) K) (hK:K≤10000000) (hR:n+1≤64) (hl:xs.length=(n+1)*(n+1)) (ih:∀ys:List (Bool×List Nat),Bd (zG ys) K→ys.length=n*n→Ctr Tryz.prog 36 [isM (n:Int) (n:Int) ys] (isZ (det n (mf n (zG ys))))):Ctr Tryz.prog 36 [isM ((n+1:Nat):Int) ((n+1:Nat):Int) xs] (isZ (det (n+1) (mf (n+1) (zG xs)))):=by
 refine Ctr.i Tryz.func36 rfl Tryz.ntmps36 fun w0 F0=>.w [0] rfl ?_
 have hRC:=qT hR hR
 obtain⟨A,hA⟩:∃A,A=mf (n+1) (zG xs):=⟨_,rfl⟩
 have hAb:∀i j,(List.length (zA (A i j).natAbs))≤K:=by rw[hA];exact mf_bd hx
 have hnk:n*(K+n)≤63*(10000000+63):=Nat.mul_le_mul (by omega) (by omega)
 rw[←hA]
 refine .sr fun k1=>.box (.t rfl) rfl fun b1=>.alloc [isB false,SlM isU []] zK (fun _ _=>⟨rfl,nilM _ _,trivial⟩) rfl fun b2=>nkQ k1 (.sq fun k2=>.sr fun k3=>st (.fieldAddr (.t rfl) zY ty3) rfl (st (.load1 (.t rfl) (i:=1) rfl ty3 rfl) rfl (st (.eqI (.t rfl) (.cI 0 rfl)) rfl (nkQ k3 (.cd rfl (fun hc1=>?_) (fun hc1=>?_))))))
 ·omega
 ·refine .skip (.nk k2 (.sr fun k4=>st (.call (xC) (.cons (.cI 0 rfl) .nil)) rfl (.alloc [isB false,SlM isU []] zK (fun _ _=>⟨rfl,nilM _ _,trivial⟩) rfl fun b3=>.store (.t rfl) (.t rfl) (i:=0) rfl zE rfl rfl (Ss':=[_,_]) rfl (M':=[(some _,zC [_,_]),_,_]) rfl (nkQ k4 (.w [1,2,3] rfl (.sq fun k5=>.sr fun k6=>st (.as (.cI 0 rfl)) rfl (nkQ k6 (.block (.loopF [1,2,3] (fun (z:{ k:Nat//k≤n+1 })=>match z with|⟨k,hk⟩=>[(4,isI (k:Int))]) (fun M=>fun (z:{ k:Nat//k≤n+1 })=>match z with|⟨k,hk⟩=>[zM b3 (sm k (dtT n A)),(some b2,zC [isB false,SlM isU []]),(some b1,zC [isI ((n+1:Nat):Int),isI ((n+1:Nat):Int),SlK 2 zc xs])]) (fun (z:{ k:Nat//k≤n+1 })=>match z with|⟨k,hk⟩=>n+1-k) (⟨0,Nat.zero_le _⟩) (Cv.mem (.c 4 rfl ?_ (.l [1,2,3] rfl)) ?_) ?_)))))))))
  ·rfl
  ·rfl
  rintro⟨k,hk⟩ K7 hK7
  refine .w [4,1,2,3] rfl (.memEq (M':=[zM b3 (sm k (dtT n A)),(some b2,zC [isB false,SlM isU []]),(some b1,zC [isI ((n+1:Nat):Int),isI ((n+1:Nat):Int),SlK 2 zc xs])]) rfl (.sq fun k8=>.sr fun k9=>stM rfl (st (.fieldAddr (.t rfl) zo ty3) rfl (st (.load1 (.t rfl) (i:=2) rfl ty3 rfl) rfl (st (.ltI (.t rfl) (.t rfl)) rfl (nkQ k9 (.cd rfl (fun hc2=>?_) (fun hc2=>?_))))))))
  ·have hpl:=zt (show 0<n+1 by omega) (show k<n+1 by omega)
   have hxr:=hx.raw (0*(n+1)+k)
   have hA0:A 0 k=cf (zG xs) (0*(n+1)+k):=by rw[hA];rfl
   obtain⟨d,hd⟩:∃d,d=det n fun i j=>A (i+1) (skip k j):=⟨_,rfl⟩
   have hdw:(List.length (zA d.natAbs))≤n*(K+n)+1:=by rw[hd];exact gn (fun _ _=>hAb _ _) n
   have htw:=zBD hAb n k
   have hsw:=ig (zBD hAb n) k
   have hmw:=qA (A 0 k) d
   have haw:=hAb 0 k
   have hng:(List.length (zA (-(A 0 k*d)).natAbs))=(List.length (zA (A 0 k*d).natAbs)):=by rw[Int.natAbs_neg]
   have htd:dtT n A k=sg k*(A 0 k*d):=by rw[hd];rfl
   refine .skip (.nk k8 (.sq fun k10=>.block (.sq fun k11=>.drh [true,true,true] (Ms:=[_,_,_]) rfl (.so [] rfl (.load (.t rfl) (i:=2) rfl zL rfl (Ss':=[_,_,_]) rfl) (.m [] rfl (.so [17,18] rfl (.call (vS (i:=0) (k:=k) (by omega) (by omega)) (.cons (.t rfl) (.cons (.cI 0 rfl) (.cons (.t rfl) .nil)))) (.so [] rfl (.load (.t rfl) (i:=2) rfl zL rfl (Ss':=[_,_,_]) rfl) (.m [] rfl (.so [20,21] rfl (.eq (.call (iM (i:=0) (k:=k) hR hR hl (by omega) (by omega)) (.cons (.t rfl) (.cons (.cI 0 rfl) (.cons (.t rfl) .nil)))) ((show isM _ _ _=isM (n:Int) (n:Int) (wo (n+1) (n+1) 0 k xs) from by rw[show ((n+1:Nat):Int)-1=(n:Int) by omega]))) (.so [22] rfl (.eq (.call (ih (wo (n+1) (n+1) 0 k xs) (wo_bd hx) (zGX _ _ _ _ _)) (.cons (.t rfl) .nil)) ((show isZ _=isZ d from zO (by rw[hd,hA];exact det_wo)))) ?_))))))))))
   refine .so [19,23] rfl (.eq (.call (qE (by omega) (by rw[zB];omega)) (.cons (.t rfl) (.cons (.t rfl) .nil))) ((show isZ _=isZ (A 0 k*d) from zO (by rw[zH,hA0,qb])))) ?_
   refine .als2 (n1:=9) (ds:=[5]) (zs:=[[isB false,SlM isU []]]) rfl (.cons rfl rfl zK (fun _ _=>⟨rfl,nilM _ _,trivial⟩) .nil) (.cons_cons _ (.cons_cons _ (.cons_cons _ .slnil))) (Cs:=[_]) rfl (.fn (n:=9) zW rfl (fun bs hbs=>?_))
   obtain⟨b4,rfl⟩:=dw hbs
   refine .memEq (M':=[_,_,_,_]) rfl (.cv (Cv.wk (.k 1 rfl (.k 2 rfl (.k 3 rfl (.k 4 rfl (.k 11 rfl (.k 12 rfl (.k 13 rfl (.k 14 rfl (.k 17 rfl (.k 18 rfl (.k 19 rfl (.k 20 rfl (.k 21 rfl (.k 22 rfl (.k 23 rfl (.k 24 rfl (.cons (t:=5) (Has.op rfl) .nil)))))))))))))))))) (.store (.t rfl) (.t rfl) (i:=0) rfl zE rfl rfl (Ss':=[_,_]) rfl (M':=[(some _,zC [_,_]),_,_,_]) rfl (nkQ k11 (.sq fun k12=>.sr fun k13=>stM rfl (st (.remI (.t rfl) (.cI 2 rfl) (by omega) (by omega) (by omega)) rfl (st (.eqI (.t rfl) (.cI 1 rfl)) rfl (nkQ k13 (.cd rfl (fun hc3=>?_) (fun hc3=>?_)))))))))
   ·have hsg:sg k = -1:=if_pos (by omega)
    refine .region (st (.load (.t rfl) (i:=0) rfl zE rfl (Ss':=[_,_]) rfl) rfl (st (.eq (.call (vj (by rw[zB];omega)) (.cons (.t rfl) .nil)) ((show isZ _=isZ (-(A 0 k*d)) from zO (by rw[zH])))) rfl ?_))
    refine .store (.t rfl) (.t rfl) (i:=0) rfl zE rfl rfl (Ss':=[_,_]) rfl (M':=[(some _,zC [_,_]),_,_,_]) rfl (nkQ k12 (.region (st (.load (.t rfl) (i:=1) rfl zE rfl (Ss':=[_,_]) rfl) rfl (st (.load (.t rfl) (i:=0) rfl zE rfl (Ss':=[_,_]) rfl) rfl (st (.eq (.call (qz (by rw[zB];omega) (by rw[zB];omega)) (.cons (.t rfl) (.cons (.t rfl) .nil))) ((show isZ _=isZ (sm (k+1) (dtT n A)) from zO (by simp only[zH];exact congrArg _ (by rw[htd,hsg];omega))))) rfl ?_)))))
    refine .store (.t rfl) (.t rfl) (i:=1) rfl zE rfl rfl (Ss':=[_,_]) rfl (M':=[_,(some _,zC [_,_]),_,_]) rfl (nl (.bln (.nk k10 (.region (stM rfl (st (.addI (.t rfl) (.cI 1 rfl) (by omega) (by omega)) rfl (stM rfl (nl (.thn (hK7 (⟨k+1,by omega⟩) _ _ ?_ (Cv.trans (Cv.drop ((.cons _ (.cons_cons _ (.cons_cons _ (.cons_cons _ .slnil)))))) (Cv.mem (.c 4 rfl ?_ (.l [1,2,3] rfl)) ?_))))))))))))
    ·show n+1-(k+1)<n+1-k;omega
    ·exact zF (by omega)
    ·rfl
   ·have hsg:sg k=1:=if_neg (by omega)
    refine .skip (.nk k12 (.region (st (.load (.t rfl) (i:=1) rfl zE rfl (Ss':=[_,_]) rfl) rfl (st (.load (.t rfl) (i:=0) rfl zE rfl (Ss':=[_,_]) rfl) rfl (st (.eq (.call (qz (by rw[zB];omega) (by rw[zB];omega)) (.cons (.t rfl) (.cons (.t rfl) .nil))) ((show isZ _=isZ (sm (k+1) (dtT n A)) from zO (by simp only[zH];exact congrArg _ (by rw[htd,hsg];omega))))) rfl ?_)))))
    refine .store (.t rfl) (.t rfl) (i:=1) rfl zE rfl rfl (Ss':=[_,_]) rfl (M':=[_,(some _,zC [_,_]),_,_]) rfl (nl (.bln (.nk k10 (.region (stM rfl (st (.addI (.t rfl) (.cI 1 rfl) (by omega) (by omega)) rfl (stM rfl (nl (.thn (hK7 (⟨k+1,by omega⟩) _ _ ?_ (Cv.trans (Cv.drop ((.cons _ (.cons_cons _ (.cons_cons _ (.cons_cons _ .slnil)))))) (Cv.mem (.c 4 rfl ?_ (.l [1,2,3] rfl)) ?_))))))))))))
    ·show n+1-(k+1)<n+1-k;omega
    ·exact zF (by omega)
    ·rfl
  ·refine .exit (.the (.the (.blh (.nk k5 (.w [2,3] rfl (.sr fun k14=>st (.load (.t rfl) (i:=0) rfl zE rfl (Ss':=[_,_]) rfl) rfl (.store (.t rfl) (.t rfl) (i:=1) rfl zE rfl rfl (Ss':=[_,_]) rfl (M':=[_,(some _,zC [_,_]),_]) rfl (nkQ k14 (.ret (rt1 (.inl rfl) Tryz.results36 rfl (.cell rfl (i:=1) rfl zE rfl ?_ .nil)))))))))))
   all_goals (exact zO (by rw[show k=n+1 by omega];rfl))
theorem oV {xs:List (Bool×List Nat)}:Ctr Tryz.prog 36 [isM 0 0 xs] (isZ 1):=by
 refine Ctr.i Tryz.func36 rfl Tryz.ntmps36 fun w0 F0=>.w [0] rfl (.sr fun k1=>.box (.t rfl) rfl fun b1=>.alloc [isB false,SlM isU []] zK (fun _ _=>⟨rfl,nilM _ _,trivial⟩) rfl fun b2=>nkQ k1 (.sq fun k2=>.sr fun k3=>st (.fieldAddr (.t rfl) zY ty3) rfl (st (.load1 (.t rfl) (i:=1) rfl ty3 rfl) rfl (st (.eqI (.t rfl) (.cI 0 rfl)) rfl (nkQ k3 (.cd rfl (fun hc1=>?_) (fun hc1=>?_)))))))
 ·refine .sr fun k4=>st (.call (xC) (.cons (.cI 1 rfl) .nil)) rfl (.store (.t rfl) (.t rfl) (i:=0) rfl zE rfl rfl (Ss':=[_,_]) rfl (M':=[(some _,zC [_,_]),_]) rfl (nkQ k4 (.w [1,2] rfl (.ret (.thr (rt1 (.inl rfl) Tryz.results36 rfl (.cell rfl (i:=0) rfl zE rfl ?_ .nil)))))))
  all_goals (rfl)
 ·exact absurd rfl hc1
theorem dg {n K:Nat} {xs:List (Bool×List Nat)} (hx:Bd (zG xs) K) (hK:K≤10000000) (hR:n≤64) (hl:xs.length=n*n):Ctr Tryz.prog 36 [isM (n:Int) (n:Int) xs] (isZ (det n (mf n (zG xs)))):=by
 induction n generalizing xs with
 | zero=>exact oV
 | succ n ih=>exact iN hx hK hR hl fun ys hy hyl=>ih hy (by omega) hyl
end Go.Proofs.YtchbfpcaibfkdaaGreat
namespace Go.Proofs.YtchbfpcaibfkdaaGreat
open Go.En Go.RowKit
set_option maxRecDepth 10000
set_option maxHeartbeats 4000000
open Go.Nt
open Go.Pz
open Go.Mz
open Go.Hn
open Go.Hp
open Go.Dt
theorem aM {r c:Int} {xs:List (Bool×List Nat)}:Ctr Tryz.prog 8 [isM r c xs] (isB (decide (r=0)&&decide (c=0)&&decide ((xs.length:Int)=0))):=by
 refine Ctr.i Tryz.func8 rfl Tryz.ntmps8 fun w0 F0=>.w [0] rfl (.sr fun k1=>.box (.t rfl) rfl fun b1=>st (.as (.cB false)) rfl (nkQ k1 (.sr fun k2=>st (.fieldAddr (.t rfl) zY ty3) rfl (st (.load1 (.t rfl) (i:=0) rfl ty3 rfl) rfl (st (.eqI (.t rfl) (.cI 0 rfl)) rfl (stM rfl (stT rfl rfl (fun hg=>.fieldAddr (.t rfl) zo ty3) rfl (stT rfl rfl (fun hg=>.load1 (Has.g rfl hg) (i:=0) rfl ty3 rfl) rfl (stT rfl rfl (fun hg=>.eqI (Has.g rfl hg) (.cI 0 rfl)) rfl (st (.pickAnd (.t rfl) (fun h=>Has.g rfl h)) rfl (stM rfl (stT rfl rfl (fun hg=>.fieldAddr (.t rfl) qU zP) rfl (stT rfl rfl (fun hg=>.load1 (Has.g rfl hg) (i:=0) rfl zP rfl) rfl (stT rfl rfl (fun hg=>.len zz (Has.g rfl hg)) rfl (stT rfl rfl (fun hg=>.eqI (Has.g rfl hg) (.cI 0 rfl)) rfl (st (.pickAnd (.t rfl) (fun h=>Has.g rfl h)) rfl (stM rfl (nkQ k2 (.w [2] rfl (.ret (rt1 (.inl rfl) Tryz.results8 rfl (.tmp (Has.t' rfl ?_) .nil))))))))))))))))))))))
 all_goals (rfl)
theorem cw {r c:Int} {l:List Int} {K:Nat} (hx:Bd l K) (hK:K≤400000000) (hm:l.length≤1000000):Ctr Tryz.prog 10 [isM r c (l.map nz)] (isB (xc r c l.length)):=by
 refine Ctr.i Tryz.func10 rfl Tryz.ntmps10 fun w0 F0=>.w [0] rfl ?_
 have hll:(l.map nz).length=l.length:=List.length_map _
 refine .sr fun k1=>.box (.t rfl) rfl fun b1=>st (.as (.cB false)) rfl (nkQ k1 (.sq fun k2=>.sr fun k3=>st (.as (.cI 0 rfl)) rfl (nkQ k3 (.block (.loopF [1] (fun (z:{ i:Nat//i≤l.length })=>match z with|⟨i,hi⟩=>[(3,isI (i:Int))]) (fun M=>fun (z:{ i:Nat//i≤l.length })=>match z with|⟨i,hi⟩=>M) (fun (z:{ i:Nat//i≤l.length })=>match z with|⟨i,hi⟩=>l.length-i) (⟨0,Nat.zero_le _⟩) (Cv.mem (.c 3 rfl ?_ (.l [1] rfl)) ?_) ?_)))))
 ·rfl
 ·rfl
 rintro⟨i,hi⟩ K4 hK4
 refine .w [3,1] rfl ?_
 have hbi:=hx i
 refine .sq fun k5=>.sr fun k6=>stM rfl (st (.fieldAddr (.t rfl) qU zP) rfl (st (.load1 (.t rfl) (i:=0) rfl zP rfl) rfl (st (.len zz (.t rfl)) rfl (st (.ltI (.t rfl) (.t rfl)) rfl (nkQ k6 (.cd rfl (fun hc1=>?_) (fun hc1=>?_)))))))
 ·refine .skip (.nk k5 (.sq fun k7=>.block (.sr fun k8=>st (.fieldAddr (.t rfl) qU zP) rfl (st (.load1 (.t rfl) (i:=0) rfl zP rfl) rfl (stM rfl (st (.ixK zz zE (.t rfl) (.t rfl) zN (by omega) (xn (i:=i) (by omega))) rfl (st (.fieldAddrP (.t rfl) qM qc (Ss':=[_]) rfl) rfl (st (.eq (.loadP1 (.t rfl) qc) ((show zD _=zD (zA (cf l i).natAbs) from rfl))) rfl (st (.len zh (.t rfl)) rfl (stM rfl (nkQ k8 (.sr fun k9=>stM rfl (st (.gtI (.t rfl) (.cI 0 rfl)) rfl (stM rfl (stT rfl rfl (fun hg=>.fieldAddr (.t rfl) qU zP) rfl (stT rfl rfl (fun hg=>.load1 (Has.g rfl hg) (i:=0) rfl zP rfl) rfl (stT rfl rfl (fun hg=>.mv (.t rfl)) rfl ?_)))))))))))))))))
  refine stT rfl rfl (fun hg=>have hg':=BP.t hg;OK1.ixK zz zE (Has.g rfl hg) (Has.g rfl hg) zN (by omega) (xn (i:=i) (by omega))) rfl ?_
  refine stT rfl rfl (fun hg=>.fieldAddrP (Has.g rfl hg) qM qc (Ss':=[_]) rfl) rfl (stT rfl rfl (fun hg=>.eq (.loadP1 (Has.g rfl hg) qc) ((show zD _=zD (zA (cf l i).natAbs) from rfl))) rfl (stT rfl rfl (fun hg=>.mv (.t rfl)) rfl ?_))
  refine stT rfl rfl (fun hg=>have hg':=BP.t hg;OK1.subI (Has.g rfl hg) (.cI 1 rfl) (by omega) (by omega)) rfl ?_
  refine stT rfl rfl (fun hg=>have hg':=BP.t hg;OK1.ixP zh zp (Has.g rfl hg) (Has.g rfl hg) (by omega) (getD_some (d:=0) (by omega))) rfl ?_
  refine stT rfl rfl (fun hg=>have hg':=BP.t hg;OK1.eq (.loadP1 (Has.g rfl hg) zp) ((show isU _=isU (dig (cf l i).natAbs ((List.length (zA (cf l i).natAbs))-1)) from zV (by rw[show (((List.length (zA (cf l i).natAbs)):Int)-1).toNat=(List.length (zA (cf l i).natAbs))-1 by omega,qH])))) rfl ?_
  refine stT rfl rfl (fun hg=>.eqU (Has.g rfl hg) (.cU 0 rfl)) rfl (st (.pickAnd (.t rfl) (fun h=>Has.g rfl h)) rfl (stM rfl (stF rfl rfl (fun hg=>.mv (.t rfl)) rfl (stF rfl rfl (fun hg=>.eqI (Has.g rfl hg) (.cI 0 rfl)) rfl (stF rfl rfl (fun hg=>.mv (Has.g rfl hg)) rfl (km rfl rfl (fun hg=>.fieldAddr (.t rfl) qU zP) rfl (km rfl rfl (fun hg=>.load1 (Has.g rfl hg) (i:=0) rfl zP rfl) rfl (km rfl rfl (fun hg=>.mv (.t rfl)) rfl ?_))))))))
  refine km rfl rfl (fun hg=>have hg':=BP.t hg;OK1.ixK zz zE (Has.g rfl hg) (Has.g rfl hg) zN (by omega) (xn (i:=i) (by omega))) rfl ?_
  refine km rfl rfl (fun hg=>.fieldAddrP (Has.g rfl hg) xL ty4 (Ss':=[_,_]) rfl) rfl (km rfl rfl (fun hg=>.eq (.loadP1 (Has.g rfl hg) ty4) ((show isB _=isB (decide (cf l i<0)) from rfl))) rfl (stF rfl rfl (fun hg=>.pickAnd (Has.g rfl hg) (fun h=>Has.g rfl (ga hg h))) rfl (st (.pickOr (.t rfl) (fun h=>Has.g rfl (ng h))) rfl (nkQ k9 (.cd rfl (fun hc2=>?_) (fun hc2=>?_))))))
  ·exact (mS hc2).elim
  ·refine .skip (.bln (.nk k7 (.region (stM rfl (st (.addI (.t rfl) (.cI 1 rfl) (by omega) (by omega)) rfl (stM rfl (nl (.thn (hK4 (⟨i+1,by omega⟩) _ _ ?_ (Cv.mem (.c 3 rfl ?_ (.l [1] rfl)) ?_))))))))))
   ·show l.length-(i+1)<l.length-i;omega
   ·exact zF (by omega)
   ·rfl
 ·refine .exit (.the (.the (.blh (.nk k2 (.w [1] rfl (.sr fun k10=>st (.load (.t rfl) (i:=0) rfl zL rfl (Ss':=[_,_,_]) rfl) rfl (st (.eq (.call (vk) (.cons (.t rfl) .nil)) ((show _=isB (xc r c l.length) from by rw[List.length_map]))) rfl (stM rfl (nkQ k10 (.ret (rt1 (.inl rfl) Tryz.results10 rfl (.tmp (Has.t' rfl ?_) .nil))))))))))))
  all_goals (rfl)
theorem yB {R C K N:Nat} {l:List Int} {ys:List (Bool×List Nat)} (hx:Bd l K) (hy:Bd (zG ys) N) (hK:K≤400000000) (hN:N≤400000000) (hR:R≤64) (hC:C≤64) (hl:l.length=R*C) (hyl:ys.length=R*C) (he:∀j,j<R*C→cf l j=cf (zG ys) j):Ctr Tryz.prog 12 [isM (R:Int) (C:Int) (l.map nz),isI (R:Int),isI (C:Int),SlK 2 zc ys] (isB true):=by
 refine Ctr.i Tryz.func12 rfl Tryz.ntmps12 fun w0 F0=>.w [0,1,2,3] rfl (.fact (Has.rngI (Has.t (t:=1) rfl)) fun lt1=>.fact (Has.rngI (Has.t (t:=2) rfl)) fun lt2=>.fact (Has.lenLt (Has.t (t:=3) rfl)) fun lt3=>?_)
 have hfo:=qK hR hC hl
 have hRC:=qT hR hC
 have hcp:((R:Int)*(C:Int))=((R*C:Nat):Int):=(Int.natCast_mul R C).symm
 have hll:(l.map nz).length=R*C:=by rw[List.length_map];exact hl
 refine .sr fun k1=>.box (.t rfl) rfl fun b1=>st (.as (.cB false)) rfl (nkQ k1 (.sq fun k2=>.sr fun k3=>st (.load (.t rfl) (i:=0) rfl zL rfl (Ss':=[_,_,_]) rfl) rfl (st (.eq (.call (cw hx hK (by omega)) (.cons (.t rfl) .nil)) ((show isB _=isB true from zl (hfo)))) rfl (st (.not (.t rfl)) rfl (stM rfl (stF rfl rfl (fun hg=>.fieldAddr (.t rfl) zY ty3) rfl (stF rfl rfl (fun hg=>.load1 (Has.g rfl hg) (i:=0) rfl ty3 rfl) rfl (stF rfl rfl (fun hg=>.mv (.t rfl)) rfl (stF rfl rfl (fun hg=>.neI (Has.g rfl hg) (Has.g rfl hg)) rfl (st (.pickOr (.t rfl) (fun h=>Has.g rfl (ng h))) rfl (stM rfl (stF rfl rfl (fun hg=>.fieldAddr (.t rfl) zo ty3) rfl (stF rfl rfl (fun hg=>.load1 (Has.g rfl hg) (i:=0) rfl ty3 rfl) rfl (stF rfl rfl (fun hg=>.mv (.t rfl)) rfl (stF rfl rfl (fun hg=>.neI (Has.g rfl hg) (Has.g rfl hg)) rfl (st (.pickOr (.t rfl) (fun h=>Has.g rfl (ng h))) rfl (stM rfl (stF rfl rfl (fun hg=>.mv (.t rfl)) rfl (stF rfl rfl (fun hg=>.len zz (Has.g rfl hg)) rfl (stF rfl rfl (fun hg=>.mv (.t rfl)) rfl (stF rfl rfl (fun hg=>.mv (.t rfl)) rfl ?_)))))))))))))))))))))
 refine stF rfl rfl (fun hg=>have hg':=BP.t hg;OK1.eq (.mulI (Has.g rfl hg) (Has.g rfl hg) (by omega) (by omega)) ((show isI _=isI ((R*C:Nat):Int) from zF hcp))) rfl ?_
 refine stF rfl rfl (fun hg=>.neI (Has.g rfl hg) (Has.g rfl hg)) rfl (st (.pickOr (.t rfl) (fun h=>Has.g rfl (ng h))) rfl (nkQ k3 (.w [3,4,8,32] rfl (.cd rfl (fun hc1=>?_) (fun hc1=>?_)))))
 ·exfalso;simp at hc1;omega
 ·refine .skip (.nk k2 (.sq fun k4=>.sr fun k5=>st (.as (.cI 0 rfl)) rfl (nkQ k5 (.block (.loopF [3,4] (fun (z:{ i:Nat//i≤R*C })=>match z with|⟨i,hi⟩=>[(9,isI (i:Int))]) (fun M=>fun (z:{ i:Nat//i≤R*C })=>match z with|⟨i,hi⟩=>M) (fun (z:{ i:Nat//i≤R*C })=>match z with|⟨i,hi⟩=>R*C-i) (⟨0,Nat.zero_le _⟩) (Cv.mem (.c 9 rfl ?_ (.l [3,4] rfl)) ?_) ?_)))))
  ·rfl
  ·rfl
  rintro⟨i,hi⟩ K6 hK6
  refine .w [9,3,4] rfl (.sq fun k7=>.sr fun k8=>stM rfl (stM rfl (st (.len zz (.t rfl)) rfl (st (.ltI (.t rfl) (.t rfl)) rfl (nkQ k8 (.cd rfl (fun hc2=>?_) (fun hc2=>?_)))))))
  ·have hbi:=hx i
   have hyi:=hy.raw i
   refine .skip (.nk k7 (.sq fun k9=>.block (.sq fun k10=>.dr (.so [] rfl (.fieldAddr (.t rfl) qU zP) (.so [39] rfl (.load1 (.t rfl) (i:=0) rfl zP rfl) (.m [] rfl (.so [40,41] rfl (.ixK zz zE (.t rfl) (.t rfl) zN (by omega) (xn (i:=i) (by omega))) (.so [42] rfl (.loadP (.t rfl) zE rfl (Ss':=[_,_]) rfl) (.m [] rfl (.m [] rfl (.so [44,45] rfl (.ixK zz zE (.t rfl) (.t rfl) zN (by omega) (getD_some (d:=(false,[])) (by omega))) (.so [46] rfl (.loadP (.t rfl) zE rfl (Ss':=[_,_]) rfl) (.fn (n:=9) zW (.w [3,4,9,33,34,35,36,39,40,41,42,43,44,45,46,47] rfl ?_))))))))))))))
   refine st (.eq (.call (bK (by rw[zB];omega) (by show (List.length (zA (val (ys.getD i (false,[])).2)))<_;omega)) (.cons (.t rfl) (.cons (.t rfl) .nil))) ((show isB _=isB true from zl (decide_eq_true (by rw[qN,he i (by omega),qb];rfl))))) rfl ?_
   refine st (.not (.t rfl)) rfl (nkQ k10 (.cd rfl (fun hc3=>?_) (fun hc3=>?_)))
   ·exfalso;simp at hc3
   ·refine .skip (.bln (.nk k9 (.region (stM rfl (st (.addI (.t rfl) (.cI 1 rfl) (by omega) (by omega)) rfl (stM rfl (nl (.thn (hK6 (⟨i+1,by omega⟩) _ _ ?_ (Cv.mem (.c 9 rfl ?_ (.l [3,4] rfl)) ?_))))))))))
    ·show R*C-(i+1)<R*C-i;omega
    ·exact zF (by omega)
    ·rfl
  ·refine .exit (.the (.the (.blh (.nk k4 (.cv (Cv.wk .nil) (.sr fun k11=>st (.as (.cB true)) rfl (nkQ k11 (.ret (rt1 (.inl rfl) Tryz.results12 rfl (.tmp (Has.t' rfl ?_) .nil))))))))))
   all_goals (rfl)
theorem iq {R C D K N:Nat} {xs ys:List (Bool×List Nat)} (hx:Bd (zG xs) K) (hy:Bd (zG ys) N) (hK:K+N≤400000000) (hR:R≤64) (hC:C≤64) (hD:D≤64) (hxl:xs.length=R*C) (hyl:ys.length=C*D):Ctr Tryz.prog 13 [isM (R:Int) (C:Int) xs,isM (C:Int) (D:Int) ys] (isP (tab (R*D) D fun i k=>vI (fun j=>cf (zG xs) (i*C+j)) (fun j=>cf (zG ys) (j*D+k)) C)):=by
 refine Ctr.i Tryz.func13 rfl Tryz.ntmps13 fun w0 F0=>.w [0,1] rfl ?_
 have h1:=qT hR hC
 have h2:=qT hC hD
 have h3:=qT hR hD
 obtain⟨G,hG⟩:∃G:Nat→Nat→Int,G=fun i k=>vI (fun j=>cf (zG xs) (i*C+j)) (fun j=>cf (zG ys) (j*D+k)) C:=⟨_,rfl⟩
 rw[←hG]
 refine .sr fun k1=>.box (.t rfl) rfl fun b1=>.box (.t rfl) rfl fun b2=>st (.as (.cWK (k:=2) (fk:=zc))) rfl (nkQ k1 (.sr fun k2=>.cv (Cv.grow0K (α:=Bool×List Nat) zc) (st (.as (Has.cGr (α:=Bool×List Nat))) rfl (nkQ k2 (.sq fun k3=>.sr fun k4=>st (.as (.cI 0 rfl)) rfl (nkQ k4 (.block (.loopF [2,3,4] (fun (z:{ z:Nat×Gr (Bool×List Nat)//z.1≤R })=>match z with|⟨(i,g),hI⟩=>[(6,isI (i:Int)),(5,ze g ((tab (i*D+0) D G).map nz).length)]) (fun M=>fun (z:{ z:Nat×Gr (Bool×List Nat)//z.1≤R })=>match z with|⟨(i,g),hI⟩=>[zj zc g ((tab (i*D+0) D G).map nz),(some b2,zC [isI (C:Int),isI (D:Int),SlK 2 zc ys]),(some b1,zC [isI (R:Int),isI (C:Int),SlK 2 zc xs])]) (fun (z:{ z:Nat×Gr (Bool×List Nat)//z.1≤R })=>match z with|⟨(i,g),hI⟩=>R-i) (⟨(0,Gr.nil),Nat.zero_le _⟩) (Cv.mem (.c 6 rfl ?_ (.c 5 rfl ?_ (.l [2,3,4] rfl))) ?_) ?_))))))))
 ·rfl
 ·exact jY (by rw[List.length_map,qi,Nat.zero_mul])
 ·exact lR (show []=(tab (0*D+0) D G).map nz by rw[Nat.zero_mul];rfl)
 rintro⟨⟨i,g⟩,hI⟩ K5 hK5
 refine .w [6,5,2,3,4] rfl (.memEq (M':=[zj zc g ((tab (i*D+0) D G).map nz),(some b2,zC [isI (C:Int),isI (D:Int),SlK 2 zc ys]),(some b1,zC [isI (R:Int),isI (C:Int),SlK 2 zc xs])]) rfl ?_)
 simp only[] at hI
 refine .sq fun k6=>.sr fun k7=>stM rfl (st (.fieldAddr (.t rfl) zY ty3) rfl (st (.load1 (.t rfl) (i:=2) rfl ty3 rfl) rfl (st (.ltI (.t rfl) (.t rfl)) rfl (nkQ k7 (.cd rfl (fun hc1=>?_) (fun hc1=>?_))))))
 ·refine .skip (.nk k6 (.sq fun k8=>.block (.sr fun k9=>st (.as (.cI 0 rfl)) rfl (nkQ k9 (.block (.loopF [2,3,4,6,10,11,12,13] (fun (z:{ z:Nat×Gr (Bool×List Nat)//z.1≤D })=>match z with|⟨(k,g2),hK2⟩=>[(7,isI (k:Int)),(5,ze g2 ((tab (i*D+k) D G).map nz).length)]) (fun M=>fun (z:{ z:Nat×Gr (Bool×List Nat)//z.1≤D })=>match z with|⟨(k,g2),hK2⟩=>[zj zc g2 ((tab (i*D+k) D G).map nz),(some b2,zC [isI (C:Int),isI (D:Int),SlK 2 zc ys]),(some b1,zC [isI (R:Int),isI (C:Int),SlK 2 zc xs])]) (fun (z:{ z:Nat×Gr (Bool×List Nat)//z.1≤D })=>match z with|⟨(k,g2),hK2⟩=>D-k) (⟨(0,g),Nat.zero_le _⟩) (Cv.mem (.c 7 rfl ?_ (.c 5 rfl ?_ (.l [2,3,4,6,10,11,12,13] rfl))) ?_) ?_))))))
  ·rfl
  ·rfl
  ·rfl
  rintro⟨⟨k,g2⟩,hK2⟩ K10 hK10
  refine .w [7,5,2,3,4,6,10,11,12,13] rfl (.memEq (M':=[zj zc g2 ((tab (i*D+k) D G).map nz),(some b2,zC [isI (C:Int),isI (D:Int),SlK 2 zc ys]),(some b1,zC [isI (R:Int),isI (C:Int),SlK 2 zc xs])]) rfl ?_)
  simp only[] at hK2
  refine .sq fun k11=>.sr fun k12=>stM rfl (st (.fieldAddr (.t rfl) zo ty3) rfl (st (.load1 (.t rfl) (i:=1) rfl ty3 rfl) rfl (st (.ltI (.t rfl) (.t rfl)) rfl (nkQ k12 (.cd rfl (fun hc2=>?_) (fun hc2=>?_))))))
  ·refine .skip (.nk k11 (.sq fun k13=>.block (.sr fun k14=>st (.call (xC) (.cons (.cI 0 rfl) .nil)) rfl (.alloc [isB false,SlM isU []] zK (fun _ _=>⟨rfl,nilM _ _,trivial⟩) rfl fun b3=>.store (.t rfl) (.t rfl) (i:=0) rfl zE rfl rfl (Ss':=[_,_]) rfl (M':=[(some _,zC [_,_]),_,_,_]) rfl (nkQ k14 (.sq fun k15=>.sr fun k16=>st (.as (.cI 0 rfl)) rfl (nkQ k16 (.block (.loopF [2,3,4,6,10,11,12,13,7,5,16,17,18,19,22,8] (fun (z:{ j:Nat//j≤C })=>match z with|⟨j,hj⟩=>[(9,isI (j:Int))]) (fun M=>fun (z:{ j:Nat//j≤C })=>match z with|⟨j,hj⟩=>[zM b3 (vI (fun j=>cf (zG xs) (i*C+j)) (fun j=>cf (zG ys) (j*D+k)) j),zj zc g2 ((tab (i*D+k) D G).map nz),(some b2,zC [isI (C:Int),isI (D:Int),SlK 2 zc ys]),(some b1,zC [isI (R:Int),isI (C:Int),SlK 2 zc xs])]) (fun (z:{ j:Nat//j≤C })=>match z with|⟨j,hj⟩=>C-j) (⟨0,Nat.zero_le _⟩) (Cv.mem (.c 9 rfl ?_ (.l [2,3,4,6,10,11,12,13,7,5,16,17,18,19,22,8] rfl)) ?_) ?_)))))))))
   ·rfl
   ·rfl
   rintro⟨j,hj⟩ K17 hK17
   refine .w [9,2,3,4,6,10,11,12,13,7,5,16,17,18,19,22,8] rfl (.memEq (M':=[zM b3 (vI (fun j=>cf (zG xs) (i*C+j)) (fun j=>cf (zG ys) (j*D+k)) j),zj zc g2 ((tab (i*D+k) D G).map nz),(some b2,zC [isI (C:Int),isI (D:Int),SlK 2 zc ys]),(some b1,zC [isI (R:Int),isI (C:Int),SlK 2 zc xs])]) rfl ?_)
   have hds:=jC (f:=fun j=>cf (zG xs) (i*C+j)) (g:=fun j=>cf (zG ys) (j*D+k)) (K:=K) (L:=N) (fun j=>hx _) (fun j=>hy _) j
   obtain⟨s,hs⟩:∃s,s=vI (fun j=>cf (zG xs) (i*C+j)) (fun j=>cf (zG ys) (j*D+k)) j:=⟨_,rfl⟩
   rw[←hs] at hds
   refine .sq fun k18=>.sr fun k19=>stM rfl (st (.fieldAddr (.t rfl) zo ty3) rfl (st (.load1 (.t rfl) (i:=3) rfl ty3 rfl) rfl (st (.ltI (.t rfl) (.t rfl)) rfl (nkQ k19 (.cd rfl (fun hc3=>?_) (fun hc3=>?_))))))
   ·have hj2:j<C:=(by omega)
    have hp1:=zt (show i<R by omega) hj2
    have hp2:=zt hj2 (show k<D by omega)
    have hxr:=hx.raw (i*C+j)
    have hyr:=hy.raw (j*D+k)
    have hfk:=hx (i*C+j)
    have hgk:=hy (j*D+k)
    have hmm:=qA (cf (zG xs) (i*C+j)) (cf (zG ys) (j*D+k))
    refine .skip (.nk k18 (.sq fun k20=>.block (.dr (.so [] rfl (.load (.t rfl) (i:=0) rfl zE rfl (Ss':=[_,_]) rfl) (.so [] rfl (.load (.t rfl) (i:=3) rfl zL rfl (Ss':=[_,_,_]) rfl) (.m [] rfl (.m [] rfl (.so [30,31,32] rfl (.call (vS (i:=i) (k:=j) (by omega) (by omega)) (.cons (.t rfl) (.cons (.t rfl) (.cons (.t rfl) .nil)))) (.so [] rfl (.load (.t rfl) (i:=2) rfl zL rfl (Ss':=[_,_,_]) rfl) (.m [] rfl (.m [] rfl (.so [34,35,36] rfl (.call (vS (i:=j) (k:=k) (by omega) (by omega)) (.cons (.t rfl) (.cons (.t rfl) (.cons (.t rfl) .nil)))) (.so [33,37] rfl (.eq (.call (qE (by omega) (by omega)) (.cons (.t rfl) (.cons (.t rfl) .nil))) ((show isZ _=isZ (cf (zG xs) (i*C+j)*cf (zG ys) (j*D+k)) from zO (by rw[qb,qb])))) (.fn (n:=10) zW (.w [2,3,4,6,10,11,12,13,7,5,16,17,18,19,22,8,9,23,24,25,26,29,30,31,32,33,34,35,36,37,38] rfl (st (.eq (.call (qz (by rw[zB,←hs];omega) (by rw[zB];omega)) (.cons (.t rfl) (.cons (.t rfl) .nil))) ((show isZ _=isZ (vI (fun j=>cf (zG xs) (i*C+j)) (fun j=>cf (zG ys) (j*D+k)) (j+1)) from zO (by simp only[zH];rfl)))) rfl ?_))))))))))))))))
    refine .store (.t rfl) (.t rfl) (i:=0) rfl zE rfl rfl (Ss':=[_,_]) rfl (M':=[(some _,zC [_,_]),_,_,_]) rfl (nl (.bln (.nk k20 (.region (stM rfl (st (.addI (.t rfl) (.cI 1 rfl) (by omega) (by omega)) rfl (stM rfl (nl (.thn (hK17 (⟨j+1,by omega⟩) _ _ ?_ (Cv.mem (.c 9 rfl ?_ (.l [2,3,4,6,10,11,12,13,7,5,16,17,18,19,22,8] rfl)) ?_)))))))))))
    ·show C-(j+1)<C-j;omega
    ·exact zF (by omega)
    ·rfl
   ·have hjC:j=C:=(by omega)
    refine .exit (.the (.the (.blh (.nk k15 (.region (stM rfl (st (.eq (.load (.t rfl) (i:=0) rfl zE rfl (Ss':=[_,_]) rfl) ((show _=zk (zc (nz (G i k))) from zO (by rw[hG,hjC])))) rfl (st (.buildS [isB false,SlM isU []] zz zE zK (fun _ _=>⟨rfl,nilM _ _,trivial⟩) rfl rfl (.cons (.t rfl) rfl rfl rfl .nil) rfl (S:=SlK 2 zc [nz (G i k)]) rfl) rfl (.appendGK (fk:=zc) (u:=(false,[])) zN (by decide) (fun _=>inferInstance) zz zE zK (fun _ _=>⟨rfl,nilM _ _,trivial⟩) cT (.t rfl) (i:=1) rfl (.t rfl) (by have hpl:=zt (show i<R by omega) (show k<D by omega);rw[List.length_map,qi];show i*D+k+1≤_;omega) (by simp) rfl fun gr1=>?_)))))))))
    refine .memEq (M':=[_,zj _ _ _,_,_]) rfl (stM rfl (nl (.bln (.nk k13 (.region (stM rfl (st (.addI (.t rfl) (.cI 1 rfl) (by omega) (by omega)) rfl (stM rfl (nl (.thn ?_))))))))))
    refine hK10 (⟨(k+1,gr1),by show k+1≤D;omega⟩) _ _ ?_ (Cv.trans (Cv.drop ((.cons _ (.cons_cons _ (.cons_cons _ (.cons_cons _ .slnil)))))) (Cv.mem (.c 7 rfl ?_ (.c 5 rfl ?_ (.l [2,3,4,6,10,11,12,13] rfl))) ?_))
    ·show D-(k+1)<D-k;omega
    ·exact zF (by omega)
    ·exact jY (by rw[←ao G (show k<D by omega),List.map_append,List.length_append];rfl)
    ·exact lR (by rw[←ao G (show k<D by omega),List.map_append];rfl)
  ·refine .exit (.the (.the (.blh (.bln (.nk k8 (.region (stM rfl (st (.addI (.t rfl) (.cI 1 rfl) (by omega) (by omega)) rfl (stM rfl (nl (.thn ?_)))))))))))
   have hkD:k=D:=by omega
   refine hK5 (⟨(i+1,g2),by show i+1≤R;omega⟩) _ _ ?_ (Cv.mem (.c 6 rfl ?_ (.c 5 rfl ?_ (.l [2,3,4] rfl))) ?_)
   ·show R-(i+1)<R-i;omega
   ·exact zF (by omega)
   ·exact jY (by rw[hkD,ap])
   ·exact lR (by rw[hkD,ap])
 ·refine .exit (.the (.the (.blh (.nk k3 (.w [4,5] rfl (.sq fun k21=>.cv (Cv.freezeGK (t:=5) (i:=0) (ys:=(tab (i*D+0) D G).map nz) zN rfl rfl rfl) (.memEq (M':=[_,_]) rfl (.w [4,5] rfl (.region (stM rfl (stM rfl (nkQ k21 (.ret (rt1 (.inl rfl) Tryz.results13 rfl (.tmp (Has.t' rfl ?_) .nil)))))))))))))))
  all_goals (exact wM (by rw[Nat.add_zero,show i=R by omega]))
end Go.Proofs.YtchbfpcaibfkdaaGreat
