/- The law GramReduces, as it is stated, of the given program, for every input; no condition. -/
import Derived.Test.YtchbfpcaibfkdaaGreatQGramReduces5
import Derived.Deep.SlicePairs
import Derived.Test.YtchbfpcaibfkdaaGreatRows
set_option linter.unusedVariables false
namespace Go.Proofs.YtchbfpcaibfkdaaGreat
open Go.En Go.RowKit
set_option maxRecDepth 10000
set_option maxHeartbeats 4000000
open Go.Nt
open Go.Pz
open Go.Mz
open Go.Hn
open Go.Hp
open Go.Dt
theorem xZ {r c:Int} {l:List Int}:Ctr Tryz.prog 26 [isM r c (l.map nz),isI 0] (isM r c (l.map nz)):=by
 refine Ctr.i Tryz.func26 rfl Tryz.ntmps26 fun w0 F0=>.w [0,1] rfl (.fact (Has.rngI (Has.t (t:=1) rfl)) fun lt1=>.sr fun k1=>.box (.t rfl) rfl fun b1=>.alloc [isI 0,isI 0,zi] zX (fun _ _=>⟨⟨rfl,by decide,by decide⟩,⟨rfl,by decide,by decide⟩,rfl,trivial⟩) rfl fun b2=>nkQ k1 (.sr fun k2=>st (.load (.t rfl) (i:=1) rfl zL rfl (Ss':=[_,_,_]) rfl) rfl (.store (.t rfl) (.t rfl) (i:=0) rfl zL rfl rfl (Ss':=[_,_,_]) rfl (M':=[(some _,zC [_,_,_]),_]) rfl (nkQ k2 (.ret (rt1 (.inl rfl) Tryz.results26 rfl (.cell rfl (i:=0) rfl zL rfl ?_ .nil)))))))
 all_goals (rfl)
theorem rq {R C K:Nat} {xs:List (Bool×List Nat)} (hx:Bd (zG xs) K) (hK:K≤100000000) (hR:R≤64) (hC:C≤64) (hl:xs.length=R*C):Ctr Tryz.prog 28 [isM (R:Int) (C:Int) xs] (zZ [xW R R (gmL R C (zG xs)),isI 0]):=by
 refine Ctr.i Tryz.func28 rfl Tryz.ntmps28 fun w0 F0=>.w [0] rfl ?_
 have hTb:Bd (tab (C*R) R fun i k=>cf (zG xs) (k*C+i)) K:=xr fun i k=>hx _
 refine .sr fun k1=>.box (.t rfl) rfl fun b1=>.alloc [isI 0,isI 0,zi] zX (fun _ _=>⟨⟨rfl,by decide,by decide⟩,⟨rfl,by decide,by decide⟩,rfl,trivial⟩) rfl fun b2=>st (.as (.cI 0 rfl)) rfl (nkQ k1 (.sr fun k2=>st (.load (.t rfl) (i:=1) rfl zL rfl (Ss':=[_,_,_]) rfl) rfl (st (.call (ai hx (by omega) hR hC hl) (.cons (.t rfl) .nil)) rfl (stM rfl (st (.ext (.t rfl) rfl) rfl (st (.ext (.t rfl) rfl) rfl (.alloc [isI 0,isI 0,zi] zX (fun _ _=>⟨⟨rfl,by decide,by decide⟩,⟨rfl,by decide,by decide⟩,rfl,trivial⟩) rfl fun b3=>.store (.t rfl) (.t rfl) (i:=0) rfl zL rfl rfl (Ss':=[_,_,_]) rfl (M':=[(some _,zC [_,_,_]),_,_]) rfl (stM rfl (nkQ k2 (.w [1,2,3,4,5] rfl (.sq fun k3=>.sr fun k4=>stM rfl (st (.neI (.t rfl) (.cI 0 rfl)) rfl (nkQ k4 (.cd rfl (fun hc1=>?_) (fun hc1=>?_)))))))))))))))
 ·exfalso;omega
 ·refine .skip (.nk k3 (.sr fun k5=>st (.load (.t rfl) (i:=2) rfl zL rfl (Ss':=[_,_,_]) rfl) rfl (st (.load (.t rfl) (i:=0) rfl zL rfl (Ss':=[_,_,_]) rfl) rfl (st (.eq (.call (fS (R:=R) (C:=C) (D:=R) (K:=K) (L:=K) hx (by rw[zQ];exact hTb) (by omega) hR hC hR hl (by rw[List.length_map,qi])) (.cons (.t rfl) (.cons (.t rfl) .nil))) ((show _=zZ [xW R R (gmL R C (zG xs)),isI 0] from by rw[zQ,zAK (zAJ (zG xs))]))) rfl ?_))))
  refine st (.ext (.t rfl) rfl) rfl (st (.ext (.t rfl) rfl) rfl (.store (.t rfl) (.t rfl) (i:=1) rfl zL rfl rfl (Ss':=[_,_,_]) rfl (M':=[_,(some _,zC [_,_,_]),_]) rfl (stM rfl (nkQ k5 (.w [2,3] rfl (.ret (rtN (.inl rfl) Tryz.results28 rfl rfl (.cell rfl (i:=1) rfl zL rfl ?_ (.tmp (Has.t' rfl ?_) .nil)))))))))
  ·rfl
  ·rfl
theorem kx {R C:Nat} {xs:List (Bool×List Nat)} (hR:R≤64) (hC:C≤64) (hl:xs.length=R*C):Ctr Tryz.prog 40 [isM (R:Int) (C:Int) xs] (isM (C:Int) (R:Int) (qx (C*R) R (trG C xs))):=by
 refine Ctr.i Tryz.func40 rfl Tryz.ntmps40 fun w0 F0=>.w [0] rfl ?_
 have hRC:=qT hR hC
 have hCR:=qT hC hR
 refine .sr fun k1=>.box (.t rfl) rfl fun b1=>.alloc [isI 0,isI 0,zi] zX (fun _ _=>⟨⟨rfl,by decide,by decide⟩,⟨rfl,by decide,by decide⟩,rfl,trivial⟩) rfl fun b2=>nkQ k1 (.sr fun k2=>st (.fieldAddr (.t rfl) zo ty3) rfl (st (.load1 (.t rfl) (i:=1) rfl ty3 rfl) rfl (st (.fieldAddr (.t rfl) zY ty3) rfl (st (.load1 (.t rfl) (i:=1) rfl ty3 rfl) rfl (st (.build [isI 0,isI 0,zi] bx zX (fun _ _=>⟨⟨rfl,by decide,by decide⟩,⟨rfl,by decide,by decide⟩,rfl,trivial⟩) (.cons (.t rfl) rfl rfl rfl (.cons (.t rfl) rfl rfl rfl .nil)) (Z'':=[_,_,_]) rfl) rfl (.alloc [isI 0,isI 0,zi] zX (fun _ _=>⟨⟨rfl,by decide,by decide⟩,⟨rfl,by decide,by decide⟩,rfl,trivial⟩) rfl fun b3=>.store (.t rfl) (.t rfl) (i:=0) rfl zL rfl rfl (Ss':=[_,_,_]) rfl (M':=[(some _,zC [_,_,_]),_,_]) rfl (nkQ k2 (.w [1,2,3] rfl (.sq fun k3=>.sq fun k4=>.cv (Cv.growF (Bool×List Nat) (i:=0) (o:=2) rfl rfl rfl) (.memEq (M':=[zj zc Gr.nil [],_,_,_]) rfl (.region (st (.as (.cI 0 rfl)) rfl (nkQ k4 (.block (.loopF [1,2,3] (fun (z:{ z:Nat×Gr (Bool×List Nat)//z.1≤C })=>match z with|⟨(i,g),hI⟩=>[(4,isI (i:Int))]) (fun M=>fun (z:{ z:Nat×Gr (Bool×List Nat)//z.1≤C })=>match z with|⟨(i,g),hI⟩=>[zj zc g (qx (i*R+0) R (trG C xs)),(some b3,zC [isI (C:Int),isI (R:Int),ze g (qx (i*R+0) R (trG C xs)).length]),(some b2,zC [isI 0,isI 0,zi]),(some b1,zC [isI (R:Int),isI (C:Int),SlK 2 zc xs])]) (fun (z:{ z:Nat×Gr (Bool×List Nat)//z.1≤C })=>match z with|⟨(i,g),hI⟩=>C-i) (⟨(0,Gr.nil),Nat.zero_le _⟩) (Cv.mem (.c 4 rfl ?_ (.l [1,2,3] rfl)) ?_) ?_)))))))))))))))
 ·rfl
 ·exact jN (n:=0) (ys:=[]) (by rw[xP,Nat.zero_mul]) (show []=qx (0*R+0) R (trG C xs) by rw[Nat.zero_mul];rfl)
 rintro⟨⟨i,g⟩,hI⟩ K5 hK5
 refine .w [4,1,2,3] rfl (.memEq (M':=[zj zc g (qx (i*R+0) R (trG C xs)),(some b3,zC [isI (C:Int),isI (R:Int),ze g (qx (i*R+0) R (trG C xs)).length]),(some b2,zC [isI 0,isI 0,zi]),(some b1,zC [isI (R:Int),isI (C:Int),SlK 2 zc xs])]) rfl ?_)
 simp only[] at hI
 refine .sq fun k6=>.sr fun k7=>stM rfl (st (.fieldAddr (.t rfl) zo ty3) rfl (st (.load1 (.t rfl) (i:=3) rfl ty3 rfl) rfl (st (.ltI (.t rfl) (.t rfl)) rfl (nkQ k7 (.cd rfl (fun hc1=>?_) (fun hc1=>?_))))))
 ·refine .skip (.nk k6 (.sq fun k8=>.block (.sr fun k9=>st (.as (.cI 0 rfl)) rfl (nkQ k9 (.block (.loopF [1,2,3,4,11,12,13,14] (fun (z:{ z:Nat×Gr (Bool×List Nat)//z.1≤R })=>match z with|⟨(k,g2),hK2⟩=>[(5,isI (k:Int))]) (fun M=>fun (z:{ z:Nat×Gr (Bool×List Nat)//z.1≤R })=>match z with|⟨(k,g2),hK2⟩=>[zj zc g2 (qx (i*R+k) R (trG C xs)),(some b3,zC [isI (C:Int),isI (R:Int),ze g2 (qx (i*R+k) R (trG C xs)).length]),(some b2,zC [isI 0,isI 0,zi]),(some b1,zC [isI (R:Int),isI (C:Int),SlK 2 zc xs])]) (fun (z:{ z:Nat×Gr (Bool×List Nat)//z.1≤R })=>match z with|⟨(k,g2),hK2⟩=>R-k) (⟨(0,g),Nat.zero_le _⟩) (Cv.mem (.c 5 rfl ?_ (.l [1,2,3,4,11,12,13,14] rfl)) ?_) ?_))))))
  ·rfl
  ·rfl
  rintro⟨⟨k,g2⟩,hK2⟩ K10 hK10
  refine .w [5,1,2,3,4,11,12,13,14] rfl (.memEq (M':=[zj zc g2 (qx (i*R+k) R (trG C xs)),(some b3,zC [isI (C:Int),isI (R:Int),ze g2 (qx (i*R+k) R (trG C xs)).length]),(some b2,zC [isI 0,isI 0,zi]),(some b1,zC [isI (R:Int),isI (C:Int),SlK 2 zc xs])]) rfl ?_)
  simp only[] at hK2
  refine .sq fun k11=>.sr fun k12=>stM rfl (st (.fieldAddr (.t rfl) zY ty3) rfl (st (.load1 (.t rfl) (i:=3) rfl ty3 rfl) rfl (st (.ltI (.t rfl) (.t rfl)) rfl (nkQ k12 (.cd rfl (fun hc2=>?_) (fun hc2=>?_))))))
  ·have hpl:=zt (show k<R by omega) (show i<C by omega)
   have hpq:=zt (show i<C by omega) (show k<R by omega)
   refine .skip (.nk k11 (.sq fun k13=>.block (.dr (.so [] rfl (.fieldAddr (.t rfl) qU zP) (.so [23] rfl (.load1 (.t rfl) (i:=1) rfl zP rfl) (.so [] rfl (.load (.t rfl) (i:=3) rfl zL rfl (Ss':=[_,_,_]) rfl) (.m [] rfl (.m [] rfl (.so [25,26,27] rfl (.call (vS (i:=k) (k:=i) (by omega) (by omega)) (.cons (.t rfl) (.cons (.t rfl) (.cons (.t rfl) .nil)))) (.so [28] rfl (.buildS [isB false,SlM isU []] zz zE zK (fun _ _=>⟨rfl,nilM _ _,trivial⟩) rfl rfl (.cons (.t rfl) rfl rfl rfl .nil) rfl (S:=SlK 2 zc [xs.getD (k*C+i) (false,[])]) rfl) (.fn (n:=7) zW (.w [1,2,3,4,11,12,13,14,5,17,18,19,20,23,24,25,26,27,28,29] rfl (.appendGK (fk:=zc) (u:=(false,[])) zN (by decide) (fun _=>inferInstance) zz zE zK (fun _ _=>⟨rfl,nilM _ _,trivial⟩) cT (.t rfl) (i:=0) rfl (.t rfl) (by rw[xP,List.length_singleton];omega) (by simp) rfl fun gr1=>?_)))))))))))))
   refine .memEq (M':=[zj _ _ _,_,_,_]) rfl (st (.fieldAddr (.t rfl) qU zP) rfl (.store (.t rfl) (.t rfl) (i:=1) rfl zP rfl rfl (Ss':=[_,_,_]) rfl (M':=[_,(some _,zC [_,_,_]),_,_]) rfl (nl (.bln (.nk k13 (.region (stM rfl (st (.addI (.t rfl) (.cI 1 rfl) (by omega) (by omega)) rfl (stM rfl (nl (.thn ?_)))))))))))
   refine hK10 (⟨(k+1,gr1),by show k+1≤R;omega⟩) _ _ ?_ (Cv.mem (.c 5 rfl ?_ (.l [1,2,3,4,11,12,13,14] rfl)) ?_)
   ·show R-(k+1)<R-k;omega
   ·exact zF (by omega)
   ·exact jN (by rw[←bQ (trG C xs) (show k<R by omega),List.length_append];rfl) (bQ (trG C xs) (show k<R by omega))
  ·refine .exit (.the (.the (.blh (.bln (.nk k8 (.region (stM rfl (st (.addI (.t rfl) (.cI 1 rfl) (by omega) (by omega)) rfl (stM rfl (nl (.thn ?_)))))))))))
   have hkR:k=R:=by omega
   refine hK5 (⟨(i+1,g2),by show i+1≤C;omega⟩) _ _ ?_ (Cv.mem (.c 4 rfl ?_ (.l [1,2,3] rfl)) ?_)
   ·show C-(i+1)<C-i;omega
   ·exact zF (by omega)
   ·exact jN (by rw[hkR,ic]) (by rw[hkR,ic])
 ·refine .exit (.the (.the (.blh (.nk k3 (.w [2,3] rfl (.sq fun k14=>.cv (Cv.freezeF (k:=2) (i:=0) (j:=0) (o:=2) rfl rfl rfl rfl (aT zN) (wB zN) (Ss':=[_,_,SlK 2 zc (qx (i*R+0) R (trG C xs))]) rfl) (.memEq (M':=[(some _,zC [_,_,SlK 2 zc (qx (i*R+0) R (trG C xs))]),_,_]) rfl (.w [2,3] rfl (.region (st (.load (.t rfl) (i:=0) rfl zL rfl (Ss':=[_,_,_]) rfl) rfl (.store (.t rfl) (.t rfl) (i:=1) rfl zL rfl rfl (Ss':=[_,_,_]) rfl (M':=[_,(some _,zC [_,_,_]),_]) rfl (nkQ k14 (.ret (rt1 (.inl rfl) Tryz.results40 rfl (.cell rfl (i:=1) rfl zL rfl ?_ .nil)))))))))))))))
  all_goals (rw[show i=C by omega,Nat.add_zero])
theorem yr {R C K:Nat} {xs:List (Bool×List Nat)} (hx:Bd (zG xs) K) (hK:K≤100000000) (hR:R≤64) (hC:C≤64) (hl:xs.length=R*C):Ctr Tryz.prog 16 [isM (R:Int) (C:Int) xs] (xW R R (gmL R C (zG xs))):=by
 refine Ctr.i Tryz.func16 rfl Tryz.ntmps16 fun w0 F0=>.w [0] rfl (.sr fun k1=>.box (.t rfl) rfl fun b1=>.alloc [isI 0,isI 0,zi] zX (fun _ _=>⟨⟨rfl,by decide,by decide⟩,⟨rfl,by decide,by decide⟩,rfl,trivial⟩) rfl fun b2=>nkQ k1 (.sq fun k2=>.dr (.so [] rfl (.fieldAddr (.t rfl) zY ty3) (.so [3] rfl (.load1 (.t rfl) (i:=1) rfl ty3 rfl) (.so [] rfl (.fieldAddr (.t rfl) zY ty3) (.so [5] rfl (.load1 (.t rfl) (i:=1) rfl ty3 rfl) (.so [] rfl (.load (.t rfl) (i:=1) rfl zL rfl (Ss':=[_,_,_]) rfl) (.so [] rfl (.load (.t rfl) (i:=1) rfl zL rfl (Ss':=[_,_,_]) rfl) (.so [8] rfl (.call (kx hR hC hl) (.cons (.t rfl) .nil)) (.so [7,9] rfl (.eq (.call (iq (R:=R) (C:=C) (D:=R) (K:=K) (N:=K) hx (zHB hx) (by omega) hR hC hR hl (xP _ _ _)) (.cons (.t rfl) (.cons (.t rfl) .nil))) ((show _=isP (gmL R C (zG xs)) from wM (by rw[mB,zAK (zAJ (zG xs))])))) (.fn (n:=8) zW (.w [2,4,6,10] rfl (st (.build [isI 0,isI 0,zi] bx zX (fun _ _=>⟨⟨rfl,by decide,by decide⟩,⟨rfl,by decide,by decide⟩,rfl,trivial⟩) (.cons (.t rfl) rfl rfl rfl (.cons (.t rfl) rfl rfl rfl (.cons (.t rfl) rfl rfl rfl .nil))) (Z'':=[_,_,_]) rfl) rfl (.store (.t rfl) (.t rfl) (i:=0) rfl zL rfl rfl (Ss':=[_,_,_]) rfl (M':=[(some _,zC [_,_,_]),_]) rfl (nkQ k2 (.ret (rt1 (.inl rfl) Tryz.results16 rfl (.cell rfl (i:=0) rfl zL rfl ?_ .nil))))))))))))))))))
 all_goals (rfl)
end Go.Proofs.YtchbfpcaibfkdaaGreat
namespace Go.Proofs.YtchbfpcaibfkdaaGreat
open Go.En Go.RowKit
set_option maxRecDepth 10000
set_option maxHeartbeats 4000000
open Go.Nt
open Go.Pz
open Go.Mz
open Go.Hn
open Go.Hp
open Go.Dt
open Go.Ll
theorem eO {R C K:Nat} {xs:List (Bool×List Nat)} (hx:Bd (zG xs) K) (hK:K≤280) (hR:R≤4) (hC:C≤4) (hl:xs.length=R*C) {m n:Bool} {ps qs:List Nat} (hpw:(List.length (zA (val ps)))≤1000) (hqw:(List.length (zA (val qs)))≤1000) (hmy:(decide (0<sgn (zv n qs))&&decide (0<ql (zv m ps*4) (zv n qs))&&decide (ql (zv m ps) (zv n qs)<0))=true) (hq:0<zv n qs) (hpq:zv m ps<zv n qs):CtrX Tryz.prog 6 [isM (R:Int) (C:Int) xs,zk [isB m,zD ps],zk [isB n,zD qs]] ([]) (fun S M=>∃(c:Nat) (ds':List Int) (ls' us':List Row) (k:Nat) (Ml Wl:List Int),S=zZ [xW R C Ml,xW R R Wl,isI (IntKind.i64.wrap (c:Int)),isI 0]∧M=[]∧GR R C (zG xs) (zv m ps) (zv n qs) c ds' ls' us' k Ml Wl):=by
 refine CtrX.i Tryz.func6 rfl Tryz.ntmps6 fun w0 F0=>.w [0,1,2] rfl (.fact (Has.okZ (Has.t (t:=1) rfl)) fun okz1=>.fact (Has.okZ (Has.t (t:=2) rfl)) fun okz2=>?_)
 have hPR:=jS (R:=R) (C:=C) (L:=zG xs)
 obtain⟨P,hP⟩:∃P,P=rkL R C (zG xs):=⟨_,rfl⟩
 rw[←hP] at hPR
 have hh1:(K+4)*(R+2)^C≤368064:=Nat.le_trans (Nat.mul_le_mul (show K+4≤284 by omega) (Nat.le_trans (Nat.pow_le_pow_left (show R+2≤6 by omega) C) (Nat.pow_le_pow_right (by decide) hC))) (by decide)
 have hR64:R≤64:=by omega
 have hC64:C≤64:=by omega
 have hP64:P≤64:=by omega
 obtain⟨Hl,hHl⟩:∃l,l=hL R C (zG xs):=⟨_,rfl⟩
 have hHn:(Hl.map nz).length=R*C:=by rw[List.length_map,hHl];exact pE hx
 have hHb:Bd (zG (Hl.map nz)) 368064:=by rw[zQ,hHl];exact (zGJ hx).mono hh1
 obtain⟨Ul,hUl⟩:∃l,l=uL R C (zG xs):=⟨_,rfl⟩
 have hUn:(Ul.map nz).length=R*R:=by rw[List.length_map,hUl];exact uR hx
 have hUb:Bd (zG (Ul.map nz)) 368064:=by rw[zQ,hUl];exact (uS hx).mono hh1
 obtain⟨Ll,hLl⟩:∃l,l=dy R C (zG xs):=⟨_,rfl⟩
 have hLt:Ll=tab (P*C) C fun i k=>cf Hl ((0+i)*C+k):=by rw[hLl,hP,hHl];rfl
 have hLn:(Ll.map nz).length=P*C:=by rw[List.length_map,hLt,qi]
 have hLb:Bd (zG (Ll.map nz)) (4*K+25):=by rw[zQ,hLl];exact dx hx hR
 obtain⟨Gl,hGl⟩:∃l,l=gmL P C Ll:=⟨_,rfl⟩
 have hGn:(Gl.map nz).length=P*P:=by rw[List.length_map,hGl,lT]
 have hGb:Bd (zG (Gl.map nz)) (8*K+54):=by rw[zQ,hGl];exact (zAL (by rw[zQ] at hLb;exact hLb)).mono (by omega)
 have hGi:∀i k,i<P→k<P→cf (zG (Gl.map nz)) (i*P+k)=ip C (xw R C (zG xs) i) (xw R C (zG xs) k):=fun i k hi hk=>by rw[zQ,hGl,zGL hi hk,hLl]
 obtain⟨U0,hU0⟩:∃l,l=tab (P*R) R fun i k=>cf Ul ((0+i)*R+k):=⟨_,rfl⟩
 have hU0n:(U0.map nz).length=P*R:=by rw[List.length_map,hU0,qi]
 have hU0b:Bd (zG (U0.map nz)) 368064:=by rw[zQ] at hUb;rw[zQ,hU0];exact xr fun i k=>hUb _
 obtain⟨Zl,hZl⟩:∃l,l=tab ((R-P)*C) C fun i k=>cf Hl ((P+i)*C+k):=⟨_,rfl⟩
 have hZn:(Zl.map nz).length=(R-P)*C:=by rw[List.length_map,hZl,qi]
 have hZb:Bd (zG (Zl.map nz)) 2000000:=by rw[zQ] at hHb;rw[zQ,hZl];exact xr fun i k=>Nat.le_trans (hHb _) (by decide)
 obtain⟨Nl,hNl⟩:∃l,l=tab ((R-P)*R) R fun i k=>cf Ul ((P+i)*R+k):=⟨_,rfl⟩
 have hNn:(Nl.map nz).length=(R-P)*R:=by rw[List.length_map,hNl,qi]
 have hNb:Bd (zG (Nl.map nz)) 2000000:=by rw[zQ] at hUb;rw[zQ,hNl];exact xr fun i k=>Nat.le_trans (hUb _) (by decide)
 refine .sr fun k1=>.box (.t rfl) rfl fun b1=>.box (.t rfl) rfl fun b2=>.box (.t rfl) rfl fun b3=>.alloc [isI 0,isI 0,zi] zX (fun _ _=>⟨⟨rfl,by decide,by decide⟩,⟨rfl,by decide,by decide⟩,rfl,trivial⟩) rfl fun b4=>.alloc [isI 0,isI 0,zi] zX (fun _ _=>⟨⟨rfl,by decide,by decide⟩,⟨rfl,by decide,by decide⟩,rfl,trivial⟩) rfl fun b5=>st (.as (.cI 0 rfl)) rfl (st (.as (.cI 0 rfl)) rfl (nkQ k1 (.sr fun k2=>st (.load (.t rfl) (i:=4) rfl zL rfl (Ss':=[_,_,_]) rfl) rfl ?_)))
 refine st (.eq (.call (eM hx (by omega) hR64 hC64 hl) (.cons (.t rfl) .nil)) ((show _=zZ [xW R C Hl,xW R R Ul,isI 0] from by rw[hHl,hUl];rfl))) rfl ?_
 refine stM rfl (st (.ext (.t rfl) rfl) rfl (st (.ext (.t rfl) rfl) rfl (st (.ext (.t rfl) rfl) rfl (.alloc [isI 0,isI 0,zi] zX (fun _ _=>⟨⟨rfl,by decide,by decide⟩,⟨rfl,by decide,by decide⟩,rfl,trivial⟩) rfl fun b6=>.alloc [isI 0,isI 0,zi] zX (fun _ _=>⟨⟨rfl,by decide,by decide⟩,⟨rfl,by decide,by decide⟩,rfl,trivial⟩) rfl fun b7=>.store (.t rfl) (.t rfl) (i:=1) rfl zL rfl rfl (Ss':=[_,_,_]) rfl (M':=[_,(some _,zC [_,_,_]),_,_,_,_,_]) rfl (.store (.t rfl) (.t rfl) (i:=0) rfl zL rfl rfl (Ss':=[_,_,_]) rfl (M':=[(some _,zC [_,_,_]),_,_,_,_,_,_]) rfl (stM rfl (nkQ k2 (.w [4,5,6,7,8,9,10,11,12] rfl (.sq fun k3=>.sr fun k4=>stM rfl (st (.neI (.t rfl) (.cI 0 rfl)) rfl (nkQ k4 (.cd rfl (fun hc1=>?_) (fun hc1=>?_)))))))))))))
 ·exfalso;omega
 ·refine .skip (.nk k3 (.sr fun k5=>st (.load (.t rfl) (i:=1) rfl zL rfl (Ss':=[_,_,_]) rfl) rfl (st (.call (gV (K:=368064) hHb (by decide) hR64 hC64 hHn) (.cons (.t rfl) .nil)) rfl (st (.eq (.len wr (.t rfl)) ((show isI _=isI (P:Int) from zF (by rw[ju,zQ,hHl,hP])))) rfl (stM rfl (nkQ k5 (.w [4,5,6,7,8,9,10,11,12,13] rfl (.sr fun k6=>st (.load (.t rfl) (i:=1) rfl zL rfl (Ss':=[_,_,_]) rfl) rfl (stM rfl (st (.eq (.call (wj (lo:=0) (hi:=P) (K:=368064) hHb (by decide) hR64 hC64 hHn (Nat.zero_le _) hPR) (.cons (.t rfl) (.cons (.cI 0 rfl) (.cons (.t rfl) .nil)))) ((show _=zZ [xW P C Ll,isI 0] from by rw[zQ,hLt,Nat.sub_zero]))) rfl (st (.ext (.t rfl) rfl) rfl (st (.ext (.t rfl) rfl) rfl (st (.call xZ (.cons (.t rfl) (.cons (.t rfl) .nil))) rfl (.alloc [isI 0,isI 0,zi] zX (fun _ _=>⟨⟨rfl,by decide,by decide⟩,⟨rfl,by decide,by decide⟩,rfl,trivial⟩) rfl fun b8=>.store (.t rfl) (.t rfl) (i:=0) rfl zL rfl rfl (Ss':=[_,_,_]) rfl (M':=[(some _,zC [_,_,_]),_,_,_,_,_,_,_]) rfl (nkQ k6 (.w [4,5,6,7,8,9,10,11,12,13,14] rfl (.sr fun k7=>st (.load (.t rfl) (i:=0) rfl zL rfl (Ss':=[_,_,_]) rfl) rfl (st (.eq (.call (rq (R:=P) (C:=C) (K:=4*K+25) hLb (by omega) hP64 hC64 hLn) (.cons (.t rfl) .nil)) ((show _=zZ [xW P P Gl,isI 0] from by rw[zQ,hGl]))) rfl (st (.ext (.t rfl) rfl) rfl (st (.ext (.t rfl) rfl) rfl (st (.call xZ (.cons (.t rfl) (.cons (.t rfl) .nil))) rfl (.alloc [isI 0,isI 0,zi] zX (fun _ _=>⟨⟨rfl,by decide,by decide⟩,⟨rfl,by decide,by decide⟩,rfl,trivial⟩) rfl fun b9=>.store (.t rfl) (.t rfl) (i:=0) rfl zL rfl rfl (Ss':=[_,_,_]) rfl (M':=[(some _,zC [_,_,_]),_,_,_,_,_,_,_,_]) rfl (nkQ k7 (.w [4,5,6,7,8,9,10,11,12,13,14,15] rfl (.sr fun k8=>st (.load (.t rfl) (i:=0) rfl zL rfl (Ss':=[_,_,_]) rfl) rfl ?_)))))))))))))))))))))))))
  refine st (.load (.t rfl) (i:=7) rfl zE rfl (Ss':=[_,_]) rfl) rfl (st (.load (.t rfl) (i:=6) rfl zE rfl (Ss':=[_,_]) rfl) rfl (.callX (mq (n0:=C) (R:=P) (K:=8*K+54) (A:=xw R C (zG xs)) hGb (by omega) hGn hGi (bE hx hR hC) (fun t ht=>fD hx t (by rw[←hP];exact ht)) (by omega) hpw hqw hmy hq hpq) (List.Perm.refl _) (.cons (.t rfl) (.cons (.t rfl) (.cons (.t rfl) .nil))) rfl ?_))
  rintro _ _ ⟨c,ds',ls',us',k,rfl,rfl,hPk,hS⟩
  rw[hP] at hS
  have hSz:=SZ.made (K:=300*(8*K+54)+2000) (fD (R:=R) (C:=C) hx) (mC (Nat.le_trans jS hR) (bE hx hR hC)).2.2
  have hub:=hS.ub hSz
  have hur:=hS.hur
  have hul:=hS.ul
  rw[←hP] at hur hul
  obtain⟨Vl,hVl⟩:∃l,l=us'.flatMap Prod.snd:=⟨_,rfl⟩
  rw[←hVl]
  have hVn:(Vl.map nz).length=P*P:=by rw[List.length_map,hVl,xa hur,hul]
  have hVb:Bd (zG (Vl.map nz)) 700000:=by rw[zQ,hVl];exact (rv hur hub).mono (by omega)
  obtain⟨Rw,hRw⟩:∃l,l=tab (P*C) C fun i k=>vI (fun j=>cf Vl (i*P+j)) (fun j=>cf Ll (j*C+k)) P:=⟨_,rfl⟩
  have hRn:(Rw.map nz).length=P*C:=by rw[List.length_map,hRw,qi]
  have hVb':=hVb
  rw[zQ] at hVb'
  have hRb:Bd (zG (Rw.map nz)) 2000000:=by rw[zQ,hRw];exact xr fun i k=>Nat.le_trans (jC (K:=700000) (L:=4*K+25) (fun _=>hVb' _) (fun _=>by have:=hLb;rw[zQ] at this;exact this _) P) (by omega)
  obtain⟨By,hBy⟩:∃l,l=tab (P*R) R fun i k=>vI (fun j=>cf Vl (i*P+j)) (fun j=>cf U0 (j*R+k)) P:=⟨_,rfl⟩
  have hBn:(By.map nz).length=P*R:=by rw[List.length_map,hBy,qi]
  have hBb:Bd (zG (By.map nz)) 2000000:=by rw[zQ,hBy];exact xr fun i k=>Nat.le_trans (jC (K:=700000) (L:=368064) (fun _=>hVb' _) (fun _=>by have:=hU0b;rw[zQ] at this;exact this _) P) (by omega)
  refine stM rfl (st (.ext (.t rfl) rfl) rfl (st (.ext (.t rfl) rfl) rfl (st (.ext (.t rfl) rfl) rfl (.alloc [isI 0,isI 0,zi] zX (fun _ _=>⟨⟨rfl,by decide,by decide⟩,⟨rfl,by decide,by decide⟩,rfl,trivial⟩) rfl fun b10=>.store (.t rfl) (.t rfl) (i:=0) rfl zL rfl rfl (Ss':=[_,_,_]) rfl (M':=[(some _,zC [_,_,_]),_,_,_,_,_,_,_,_,_]) rfl (stM rfl (stM rfl (nkQ k8 (.w [6,7,8,9,10,11,12,13,14,16,17] rfl (.sq fun k9=>.sr fun k10=>stM rfl (st (.neI (.t rfl) (.cI 0 rfl)) rfl (nkQ k10 (.cd rfl (fun hc2=>?_) (fun hc2=>?_)))))))))))))
  ·exfalso;omega
  ·refine .skip (.nk k9 (.sr fun k11=>st (.load (.t rfl) (i:=0) rfl zL rfl (Ss':=[_,_,_]) rfl) rfl (st (.load (.t rfl) (i:=2) rfl zL rfl (Ss':=[_,_,_]) rfl) rfl (st (.eq (.call (fS (R:=P) (C:=P) (D:=C) (K:=700000) (L:=4*K+25) hVb hLb (by omega) hP64 hP64 hC64 hVn hLn) (.cons (.t rfl) (.cons (.t rfl) .nil))) ((show _=zZ [xW P C Rw,isI 0] from by rw[zQ,zQ,hRw]))) rfl (st (.ext (.t rfl) rfl) rfl (st (.ext (.t rfl) rfl) rfl (st (.call xZ (.cons (.t rfl) (.cons (.t rfl) .nil))) rfl (.alloc [isI 0,isI 0,zi] zX (fun _ _=>⟨⟨rfl,by decide,by decide⟩,⟨rfl,by decide,by decide⟩,rfl,trivial⟩) rfl fun b11=>.store (.t rfl) (.t rfl) (i:=0) rfl zL rfl rfl (Ss':=[_,_,_]) rfl (M':=[(some _,zC [_,_,_]),_,_,_,_,_,_,_,_,_,_]) rfl (nkQ k11 (.w [6,7,8,9,10,11,13,16,17,18] rfl (.sq fun k12=>.drh [true,true,true,true,true,true,true,true,true,true,true] (Ms:=[_,_,_,_,_,_,_,_,_,_,_]) rfl (.so [] rfl (.load (.t rfl) (i:=1) rfl zL rfl (Ss':=[_,_,_]) rfl) (.so [] rfl (.load (.t rfl) (i:=4) rfl zL rfl (Ss':=[_,_,_]) rfl) (.m [] rfl (.so [67,68] rfl (.eq (.call (wj (lo:=0) (hi:=P) (K:=368064) hUb (by decide) hR64 hR64 hUn (Nat.zero_le _) hPR) (.cons (.t rfl) (.cons (.cI 0 rfl) (.cons (.t rfl) .nil)))) ((show _=zZ [xW P R U0,isI 0] from by rw[zQ,hU0,Nat.sub_zero]))) (.so [69] rfl (.ext (.t rfl) rfl) (.so [69] rfl (.ext (.t rfl) rfl) (.so [70,71] rfl (.call xZ (.cons (.t rfl) (.cons (.t rfl) .nil))) (.so [66,72] rfl (.eq (.call (fS (R:=P) (C:=P) (D:=R) (K:=700000) (L:=368064) hVb hU0b (by omega) hP64 hP64 hR64 hVn hU0n) (.cons (.t rfl) (.cons (.t rfl) .nil))) ((show _=zZ [xW P R By,isI 0] from by rw[zQ,zQ,hBy]))) (.so [73] rfl (.ext (.t rfl) rfl) (.so [73] rfl (.ext (.t rfl) rfl) (.so [74,75] rfl (.call xZ (.cons (.t rfl) (.cons (.t rfl) .nil))) (.als2 (n1:=12) (ds:=[19]) (zs:=[[isI 0,isI 0,zi]]) rfl (.cons rfl rfl zX (fun _ _=>⟨⟨rfl,by decide,by decide⟩,⟨rfl,by decide,by decide⟩,rfl,trivial⟩) .nil) (.cons_cons _ (.cons_cons _ (.cons_cons _ (.cons_cons _ (.cons_cons _ (.cons_cons _ (.cons_cons _ (.cons_cons _ (.cons_cons _ (.cons_cons _ (.cons_cons _ .slnil))))))))))) (Cs:=[_]) rfl (.fn (n:=12) zW rfl (fun bs hbs=>?_)))))))))))))))))))))))))
   obtain⟨b12,rfl⟩:=dw hbs
   refine .memEq (M':=[_,_,_,_,_,_,_,_,_,_,_,_]) rfl (.cv (Cv.wk (.k 6 rfl (.k 7 rfl (.k 8 rfl (.k 9 rfl (.k 10 rfl (.k 11 rfl (.k 13 rfl (.k 17 rfl (.k 18 rfl (.k 76 rfl (.cons (t:=19) (Has.op rfl) .nil)))))))))))) (.store (.t rfl) (.t rfl) (i:=0) rfl zL rfl rfl (Ss':=[_,_,_]) rfl (M':=[(some _,zC [_,_,_]),_,_,_,_,_,_,_,_,_,_,_]) rfl (nkQ k12 (.sr fun k13=>st (.load (.t rfl) (i:=6) rfl zL rfl (Ss':=[_,_,_]) rfl) rfl (stM rfl (st (.fieldAddr (.t rfl) zY ty3) rfl (st (.load1 (.t rfl) (i:=6) rfl ty3 rfl) rfl (st (.eq (.call (wj (lo:=P) (hi:=R) (K:=368064) hHb (by decide) hR64 hC64 hHn hPR (Nat.le_refl _)) (.cons (.t rfl) (.cons (.t rfl) (.cons (.t rfl) .nil)))) ((show _=zZ [xW (R-P) C Zl,isI 0] from by rw[zQ,hZl]))) rfl (st (.ext (.t rfl) rfl) rfl (st (.ext (.t rfl) rfl) rfl (st (.call xZ (.cons (.t rfl) (.cons (.t rfl) .nil))) rfl (.alloc [isI 0,isI 0,zi] zX (fun _ _=>⟨⟨rfl,by decide,by decide⟩,⟨rfl,by decide,by decide⟩,rfl,trivial⟩) rfl fun b13=>.store (.t rfl) (.t rfl) (i:=0) rfl zL rfl rfl (Ss':=[_,_,_]) rfl (M':=[(some _,zC [_,_,_]),_,_,_,_,_,_,_,_,_,_,_,_]) rfl (nkQ k13 (.w [6,7,8,9,11,13,17,18,19,20] rfl (.sr fun k14=>st (.load (.t rfl) (i:=6) rfl zL rfl (Ss':=[_,_,_]) rfl) rfl (stM rfl (st (.fieldAddr (.t rfl) zY ty3) rfl (st (.load1 (.t rfl) (i:=6) rfl ty3 rfl) rfl (st (.eq (.call (wj (lo:=P) (hi:=R) (K:=368064) hUb (by decide) hR64 hR64 hUn hPR (Nat.le_refl _)) (.cons (.t rfl) (.cons (.t rfl) (.cons (.t rfl) .nil)))) ((show _=zZ [xW (R-P) R Nl,isI 0] from by rw[zQ,hNl]))) rfl (st (.ext (.t rfl) rfl) rfl (st (.ext (.t rfl) rfl) rfl (st (.call xZ (.cons (.t rfl) (.cons (.t rfl) .nil))) rfl (.alloc [isI 0,isI 0,zi] zX (fun _ _=>⟨⟨rfl,by decide,by decide⟩,⟨rfl,by decide,by decide⟩,rfl,trivial⟩) rfl fun b14=>.store (.t rfl) (.t rfl) (i:=0) rfl zL rfl rfl (Ss':=[_,_,_]) rfl (M':=[(some _,zC [_,_,_]),_,_,_,_,_,_,_,_,_,_,_,_,_]) rfl (nkQ k14 (.w [6,7,8,9,17,18,19,20,21] rfl (.sq fun k15=>.drh [true,true,true,true,true,true,true,true,true,false,false,true,true,true] (Ms:=[_,_,_,_,_,_,_,_,_,_,_,_]) rfl (.so [] rfl (.load (.t rfl) (i:=1) rfl zL rfl (Ss':=[_,_,_]) rfl) ?_)))))))))))))))))))))))))))
   refine .so [] rfl (.load (.t rfl) (i:=3) rfl zL rfl (Ss':=[_,_,_]) rfl) (.so [93,94] rfl (.eq (.call (fR (R:=R-P) (R':=P) (C:=C) (K:=2000000) hZb hRb (by decide) (by omega) hC64 hZn hRn) (.cons (.t rfl) (.cons (.t rfl) .nil))) ((show _=zZ [xW R C (fa (R-P) P C Zl Rw),isI 0] from by rw[zQ,zQ,Nat.sub_add_cancel hPR]))) (.so [95] rfl (.ext (.t rfl) rfl) (.so [95] rfl (.ext (.t rfl) rfl) (.so [96,97] rfl (.call xZ (.cons (.t rfl) (.cons (.t rfl) .nil))) (.so [] rfl (.load (.t rfl) (i:=0) rfl zL rfl (Ss':=[_,_,_]) rfl) (.so [] rfl (.load (.t rfl) (i:=2) rfl zL rfl (Ss':=[_,_,_]) rfl) (.so [99,100] rfl (.eq (.call (fR (R:=R-P) (R':=P) (C:=R) (K:=2000000) hNb hBb (by decide) (by omega) hR64 hNn hBn) (.cons (.t rfl) (.cons (.t rfl) .nil))) ((show _=zZ [xW R R (fa (R-P) P R Nl By),isI 0] from by rw[zQ,zQ,Nat.sub_add_cancel hPR]))) (.so [101] rfl (.ext (.t rfl) rfl) (.so [101] rfl (.ext (.t rfl) rfl) (.so [102,103] rfl (.call xZ (.cons (.t rfl) (.cons (.t rfl) .nil))) (.m [] rfl (.mid2 (.cons_cons _ (.cons_cons _ (.cons_cons _ (.cons_cons _ (.cons_cons _ (.cons_cons _ (.cons_cons _ (.cons_cons _ (.cons_cons _ (.cons _ (.cons _ (.cons_cons _ (.cons_cons _ (.cons_cons _ .slnil)))))))))))))) (.st0 [98] rfl rfl (by kernel_rfl) (by kernel_rfl) (StS.store (.t rfl) (.t rfl) (i:=10) rfl zL rfl rfl (Ss':=[_,_,_]) rfl (M':=[_,_,_,_,_,_,_,_,_,_,(some _,zC [_,_,_]),_,_,_]) rfl) (.cons_cons _ (.cons_cons _ (.cons_cons _ (.cons_cons _ (.cons_cons _ (.cons_cons _ (.cons_cons _ (.cons_cons _ (.cons_cons _ (.cons _ (.cons _ (.cons_cons _ (.cons_cons _ (.cons_cons _ .slnil)))))))))))))) (.st0 [104] rfl rfl (by kernel_rfl) (by kernel_rfl) (StS.store (.t rfl) (.t rfl) (i:=9) rfl zL rfl rfl (Ss':=[_,_,_]) rfl (M':=[_,_,_,_,_,_,_,_,_,(some _,zC [_,_,_]),_,_,_,_]) rfl) (.cons_cons _ (.cons_cons _ (.cons_cons _ (.cons_cons _ (.cons_cons _ (.cons_cons _ (.cons_cons _ (.cons_cons _ (.cons_cons _ (.cons _ (.cons _ (.cons_cons _ (.cons_cons _ (.cons_cons _ .slnil)))))))))))))) (.fin0 (n:=15) zW rfl (by kernel_rfl) (by kernel_rfl) (by kernel_rfl) (.w [6,7,8,9,105] rfl (stM rfl (st (.as (.cI 0 rfl)) rfl (nkQ k15 (.ret (fp (.cons _ (.cons _ (.cons _ (.cons _ (.cons _ (.cons _ (.cons _ (.cons _ (.cons _ (.cons _ (.cons _ (.cons _ (.cons _ (.cons _ .slnil)))))))))))))) (.inl rfl) Tryz.results6 rfl rfl (.cell rfl (i:=10) rfl zL rfl rfl (.cell rfl (i:=9) rfl zL rfl rfl (.tmp (.t rfl) (.tmp (.t rfl) .nil)))) ?_)))))))))))))))))))))
   exact⟨c,ds',ls',us',k,_,_,rfl,rfl,⟨by rw[←hP];exact hPk,hS,by rw[←hP,hZl,hRw,hVl,hLl,hHl],by rw[←hP,hNl,hBy,hVl,hU0,hUl]⟩⟩
end Go.Proofs.YtchbfpcaibfkdaaGreat
namespace Go.Proofs.YtchbfpcaibfkdaaGreat
open Go.En Go.RowKit
set_option maxRecDepth 10000
set_option maxHeartbeats 4000000
open Go.Nt
open Go.Pz
open Go.Mz
open Go.Dt
theorem aw {m:Int}:Ctr Tryz.prog 105 [isI m,isI 0] (SlM wA (zU 0 0)):=by
 refine Ctr.i Tryz.func105 rfl Tryz.ntmps105 fun w0 F0=>.w [0,1] rfl (.fact (Has.rngI (Has.t (t:=0) rfl)) fun lt0=>.fact (Has.rngI (Has.t (t:=1) rfl)) fun lt1=>.sr fun k1=>st (.as (.cW (f:=isI))) rfl (nkQ k1 (.sq fun k2=>.sr fun k3=>stM rfl (st (.eqI (.t rfl) (.cI 0 rfl)) rfl (nkQ k3 (.cd rfl (fun hc1=>?_) (fun hc1=>?_)))))))
 ·refine .sr fun k4=>st (.buildS [zi] fh oH oC (fun _ _=>⟨rfl,trivial⟩) rfl rfl (.cons (.cW (f:=isI)) rfl rfl rfl .nil) rfl (S:=SlM wA [[]]) rfl) rfl (stM rfl (nkQ k4 (.ret (.thr (rt1 (.inl rfl) Tryz.results105 rfl (.tmp (Has.t' rfl ?_) .nil))))))
  all_goals (rfl)
 ·exact absurd rfl hc1
theorem av {m n:Nat} (hm:m<n+1) (hb:n≤64):CtrX Tryz.prog 105 [isI (m:Int),isI ((n+1:Nat):Int)] ([]) (fun S M=>∃gr:Gr (List Nat),S=ze gr (zU (m) (n+1)).length∧M=[grM wA gr (zU (m) (n+1))]):=by
 refine CtrX.i Tryz.func105 rfl Tryz.ntmps105 fun w0 F0=>.w [0,1] rfl (.fact (Has.rngI (Has.t (t:=0) rfl)) fun lt0=>.fact (Has.rngI (Has.t (t:=1) rfl)) fun lt1=>.sr fun k1=>st (.as (.cW (f:=fun l=>zD l))) rfl (nkQ k1 (.sq fun k2=>.sr fun k3=>stM rfl (st (.eqI (.t rfl) (.cI 0 rfl)) rfl (nkQ k3 (.cd rfl (fun hc1=>?_) (fun hc1=>?_)))))))
 ·exfalso;omega
 ·refine .skip (.nk k2 (.sq fun k4=>.sr fun k5=>stM rfl (stM rfl (st (.ltI (.t rfl) (.t rfl)) rfl (nkQ k5 (.cd rfl (fun hc2=>?_) (fun hc2=>?_)))))))
  ·refine .sr fun k6=>.cv (Cv.grow0 (α:=List Nat) wA) (st (.as (Has.cGr (α:=List Nat))) rfl (nkQ k6 (.w [0,1,4] rfl (.ret (.thr (zDF (.inl rfl) Tryz.results105 rfl (.tmp (.t rfl) .nil) ?_))))))
   exact⟨Gr.nil,by rw[vh hm];rfl,by rw[vh hm]⟩
  ·exfalso;omega
theorem fw {m n:Nat} (hm:n≤m) (hb:m≤16) (ihO:CtrX Tryz.prog 105 [isI (m:Int),isI ((n+1:Nat):Int)] [] (fun S M=>∃gr:Gr (List Nat),S=ze gr (zU (m) (n+1)).length∧M=[grM wA gr (zU (m) (n+1))])) (ihL:Ctr Tryz.prog 105 [isI (m:Int),isI (n:Int)] (SlM wA (zU m n))):CtrX Tryz.prog 105 [isI ((m+1:Nat):Int),isI ((n+1:Nat):Int)] ([]) (fun S M=>∃gr:Gr (List Nat),S=ze gr (zU (m+1) (n+1)).length∧M=[grM wA gr (zU (m+1) (n+1))]):=by
 refine CtrX.i Tryz.func105 rfl Tryz.ntmps105 fun w0 F0=>.w [0,1] rfl (.fact (Has.rngI (Has.t (t:=0) rfl)) fun lt0=>.fact (Has.rngI (Has.t (t:=1) rfl)) fun lt1=>?_)
 have hlu:=zFO m n
 have hcl:=vi m n
 have h2m:=Nat.pow_le_pow_right (show 0<2 by decide) hb
 refine .sr fun k1=>st (.as (.cW (f:=fun l=>zD l))) rfl (nkQ k1 (.sq fun k2=>.sr fun k3=>stM rfl (st (.eqI (.t rfl) (.cI 0 rfl)) rfl (nkQ k3 (.cd rfl (fun hc1=>?_) (fun hc1=>?_))))))
 ·exfalso;omega
 ·refine .skip (.nk k2 (.sq fun k4=>.sr fun k5=>stM rfl (stM rfl (st (.ltI (.t rfl) (.t rfl)) rfl (nkQ k5 (.cd rfl (fun hc2=>?_) (fun hc2=>?_)))))))
  ·exfalso;omega
  ·refine .skip (.nk k4 (.w [0,1,4] rfl (.sr fun k6=>stM rfl (st (.eq (.subI (.t rfl) (.cI 1 rfl) (by omega) (by omega)) ((show isI _=isI (m:Int) from zF (by omega)))) rfl (stM rfl (.callX ihO (List.Perm.refl _) (.cons (.t rfl) (.cons (.t rfl) .nil)) rfl ?_))))))
   rintro _ _ ⟨g0,rfl,rfl⟩
   refine .memEq (M':=[grM wA g0 (zU m (n+1))]) (List.append_nil _) (stM rfl (nkQ k6 (.sr fun k7=>stM rfl (st (.eq (.subI (.t rfl) (.cI 1 rfl) (by omega) (by omega)) ((show isI _=isI (m:Int) from zF (by omega)))) rfl (stM rfl (st (.eq (.subI (.t rfl) (.cI 1 rfl) (by omega) (by omega)) ((show isI _=isI (n:Int) from zF (by omega)))) rfl (st (.call ihL (.cons (.t rfl) (.cons (.t rfl) .nil))) rfl (stM rfl (nkQ k7 (.w [0,4,5,6] rfl (.sq fun k8=>.sr fun k9=>st (.as (.cI 0 rfl)) rfl (nkQ k9 (.block (.loopF [0,4,6] (fun (z:{ z:Nat×Gr (List Nat)//z.1≤(zU m n).length })=>match z with|⟨(i,g),hI⟩=>[(7,isI (i:Int)),(5,ze g (chU m n i).length)]) (fun M=>fun (z:{ z:Nat×Gr (List Nat)//z.1≤(zU m n).length })=>match z with|⟨(i,g),hI⟩=>[grM wA g (chU m n i)]) (fun (z:{ z:Nat×Gr (List Nat)//z.1≤(zU m n).length })=>match z with|⟨(i,g),hI⟩=>(zU m n).length-i) (⟨(0,g0),Nat.zero_le _⟩) (Cv.mem (.c 7 rfl ?_ (.c 5 rfl ?_ (.l [0,4,6] rfl))) ?_) ?_))))))))))))))
   ·rfl
   ·exact jY (by rw[na])
   ·exact gY (na _ _).symm
   rintro⟨⟨i,g⟩,hI⟩ K10 hK10
   refine .w [7,5,0,4,6] rfl (.memEq (M':=[grM wA g (chU m n i)]) rfl ?_)
   simp only[] at hI
   refine .sq fun k11=>.sr fun k12=>stM rfl (stM rfl (st (.len fh (.t rfl)) rfl (st (.ltI (.t rfl) (.t rfl)) rfl (nkQ k12 (.cd rfl (fun hc3=>?_) (fun hc3=>?_))))))
   ·obtain⟨Y,hY⟩:∃Y,(zU m n)[i]?=some Y:=⟨_,List.getElem?_eq_getElem (by omega)⟩
    have hYl:=(vJ m n Y (List.mem_of_getElem? hY)).1
    have hpY:=ju Y
    have hlui:=hlu i
    refine .skip (.nk k11 (.sq fun k13=>.block (.sr fun k14=>.cv (Cv.grow0 (α:=Int) isI) (st (.as (Has.cGr (α:=Int))) rfl (nkQ k14 (.sr fun k15=>stM rfl (stM rfl (stM rfl (st (.ixP fh oH (.t rfl) (.t rfl) (by omega) hY) rfl (st (.loadP1 (.t rfl) oH) rfl (.appendG0 (f:=isI) (u:=0) wr ty3 bz (fun _ _=>⟨⟨rfl,by decide,by decide⟩,trivial⟩) (fun _=>inferInstance) by3 (.t rfl) (i:=0) rfl (.t rfl) (by simp only[List.length_nil];omega) rfl fun gr1=>?_)))))))))))
    refine .memEq (M':=[grM _ _ _,_]) rfl (stM rfl (nkQ k15 (.sr fun k16=>stM rfl (stM rfl (st (.eq (.subI (.t rfl) (.cI 1 rfl) (by omega) (by omega)) ((show isI _=isI (m:Int) from zF (by omega)))) rfl (st (.buildS [isI 0] wr ty3 bz (fun _ _=>⟨⟨rfl,by decide,by decide⟩,trivial⟩) rfl rfl (.cons (.t rfl) rfl rfl rfl .nil) rfl (S:=SlM isI [(m:Int)]) rfl) rfl (.appendG (f:=isI) (u:=0) wr ty3 bz (fun _ _=>⟨⟨rfl,by decide,by decide⟩,trivial⟩) (fun _=>inferInstance) by3 (.t rfl) (i:=0) rfl (.t rfl) (by simp only[List.length_append,List.length_nil,List.length_cons];omega) (by simp) rfl fun gr2=>?_)))))))
    refine .memEq (M':=[grM _ _ _,_]) rfl (.cv (Cv.freezeGn (t:=40) (i:=0) (ys:=pv Y++[(m:Int)]) rfl rfl rfl (by simp)) ?_)
    refine .memEq (M':=[_]) rfl (.w [0,4,6,7,5,24,25,26,27,31,32,33,34,37,38,39,40] rfl (stM rfl (nkQ k16 (.region (stM rfl (st (.eq (.mv (.t rfl)) ((show _=wA (Y++[m]) from qJ (lB _ _)))) rfl (st (.buildS [zi] fh oH oC (fun _ _=>⟨rfl,trivial⟩) rfl rfl (.cons (.t rfl) rfl rfl rfl .nil) rfl (S:=SlM wA [Y++[m]]) rfl) rfl (.appendG (f:=wA) (u:=([]:List Nat)) fh oH oC (fun _ _=>⟨nilM _ _,trivial⟩) (fun _=>inferInstance) by50 (.t rfl) (i:=0) rfl (.t rfl) (by show (chU m n i).length+1≤_;omega) (by simp) rfl fun gr3=>?_))))))))
    refine .memEq (M':=[grM _ _ _]) rfl (stM rfl (nl (.bln (.nk k13 (.region (stM rfl (st (.addI (.t rfl) (.cI 1 rfl) (by omega) (by omega)) rfl (stM rfl (nl (.thn ?_))))))))))
    refine hK10 (⟨(i+1,gr3),by show i+1≤_;omega⟩) _ _ ?_ (Cv.mem (.c 7 rfl ?_ (.c 5 rfl ?_ (.l [0,4,6] rfl))) ?_)
    ·show (zU m n).length-(i+1)<(zU m n).length-i;omega
    ·exact zF (by omega)
    ·exact jY (by rw[←nb hY,List.length_append])
    ·exact gY (nb hY)
   ·refine .exit (.the (.the (.blh (.nk k8 (.w [4,5] rfl (.sr fun k17=>stM rfl (stM rfl (nkQ k17 (.ret (zDF (.inl rfl) Tryz.results105 rfl (.tmp (.t rfl) .nil) (⟨g,by rw[sM hm (by omega)],by rw[sM hm (by omega)]⟩)))))))))))
theorem jt : ∀m:Nat,m≤16→∀n:Nat,n≤64→CtrX Tryz.prog 105 [isI (m:Int),isI ((n+1:Nat):Int)] [] (fun S M=>∃gr:Gr (List Nat),S=ze gr (zU m (n+1)).length∧M=[grM wA gr (zU m (n+1))])
  | 0,_,n,hn=>av (Nat.succ_pos _) hn
  | m+1,hm,n,hn=>by
    by_cases h:m+1<n+1
    · exact av h hn
    · refine fw (by omega) (by omega) (jt m (by omega) n hn) ?_
      cases n with
      | zero=>rw[vp];exact aw
      | succ n=>exact (jt m (by omega) n (by omega)).freeze
theorem iO {m n:Nat} (hm:m≤16) (hn:n≤64):Ctr Tryz.prog 105 [isI (m:Int),isI (n:Int)] (SlM wA (zU m n)):=by
 cases n with
 | zero=>rw[vp];exact aw
 | succ n=>exact (jt m hm n (by omega)).freeze
end Go.Proofs.YtchbfpcaibfkdaaGreat
namespace Go.Proofs.YtchbfpcaibfkdaaGreat
open Go.Hp Go.En Go.RowKit
set_option maxRecDepth 10000
set_option maxHeartbeats 4000000
open Go.Nt
open Go.Pz
open Go.Mz
open Go.Dt
theorem fv {R C:Nat} {xs:List (Bool×List Nat)} {rs cs:List Nat} (hR:R≤64) (hC:C≤64) (hl:xs.length=R*C) (hr:∀x∈rs,x<R) (hc:∀x∈cs,x<C) (hrl:rs.length≤64) (hcl:cs.length≤64):Ctr Tryz.prog 76 [isM (R:Int) (C:Int) xs,wA rs,wA cs] (isM (rs.length:Int) (cs.length:Int) (qx (rs.length*cs.length) cs.length (ptG C xs rs cs))):=by
 refine Ctr.i Tryz.func76 rfl Tryz.ntmps76 fun w0 F0=>.w [0,1,2] rfl ?_
 have hRC:=qT hR hC
 have hrc:=qT hrl hcl
 have hprs:=ju rs
 have hpcs:=ju cs
 refine .sr fun k1=>.box (.t rfl) rfl fun b1=>.alloc [isI 0,isI 0,zi] zX (fun _ _=>⟨⟨rfl,by decide,by decide⟩,⟨rfl,by decide,by decide⟩,rfl,trivial⟩) rfl fun b2=>nkQ k1 (.sr fun k2=>stM rfl (st (.eq (.len wr (.t rfl)) ((show isI _=isI (rs.length:Int) from zF (by rw[hprs])))) rfl (stM rfl (st (.eq (.len wr (.t rfl)) ((show isI _=isI (cs.length:Int) from zF (by rw[hpcs])))) rfl (st (.build [isI 0,isI 0,zi] bx zX (fun _ _=>⟨⟨rfl,by decide,by decide⟩,⟨rfl,by decide,by decide⟩,rfl,trivial⟩) (.cons (.t rfl) rfl rfl rfl (.cons (.t rfl) rfl rfl rfl .nil)) (Z'':=[_,_,_]) rfl) rfl (.alloc [isI 0,isI 0,zi] zX (fun _ _=>⟨⟨rfl,by decide,by decide⟩,⟨rfl,by decide,by decide⟩,rfl,trivial⟩) rfl fun b3=>.store (.t rfl) (.t rfl) (i:=0) rfl zL rfl rfl (Ss':=[_,_,_]) rfl (M':=[(some _,zC [_,_,_]),_,_]) rfl (nkQ k2 (.w [1,2,3,6,7] rfl (.sq fun k3=>.sq fun k4=>.cv (Cv.growF (Bool×List Nat) (i:=0) (o:=2) rfl rfl rfl) (.memEq (M':=[zj zc Gr.nil [],_,_,_]) rfl (.region (st (.as (.cI 0 rfl)) rfl (nkQ k4 (.block (.loopF [1,2,3,6,7] (fun (z:{ z:Nat×Gr (Bool×List Nat)//z.1≤rs.length })=>match z with|⟨(i,g),hI⟩=>[(8,isI (i:Int))]) (fun M=>fun (z:{ z:Nat×Gr (Bool×List Nat)//z.1≤rs.length })=>match z with|⟨(i,g),hI⟩=>[zj zc g (qx (i*cs.length+0) cs.length (ptG C xs rs cs)),(some b3,zC [isI (rs.length:Int),isI (cs.length:Int),ze g (qx (i*cs.length+0) cs.length (ptG C xs rs cs)).length]),(some b2,zC [isI 0,isI 0,zi]),(some b1,zC [isI (R:Int),isI (C:Int),SlK 2 zc xs])]) (fun (z:{ z:Nat×Gr (Bool×List Nat)//z.1≤rs.length })=>match z with|⟨(i,g),hI⟩=>rs.length-i) (⟨(0,Gr.nil),Nat.zero_le _⟩) (Cv.mem (.c 8 rfl ?_ (.l [1,2,3,6,7] rfl)) ?_) ?_)))))))))))))))
 ·rfl
 ·exact jN (n:=0) (ys:=[]) (by rw[xP,Nat.zero_mul]) (show []=qx (0*cs.length+0) _ _ by rw[Nat.zero_mul];rfl)
 rintro⟨⟨i,g⟩,hI⟩ K5 hK5
 refine .w [8,1,2,3,6,7] rfl (.memEq (M':=[zj zc g (qx (i*cs.length+0) cs.length (ptG C xs rs cs)),(some b3,zC [isI (rs.length:Int),isI (cs.length:Int),ze g (qx (i*cs.length+0) cs.length (ptG C xs rs cs)).length]),(some b2,zC [isI 0,isI 0,zi]),(some b1,zC [isI (R:Int),isI (C:Int),SlK 2 zc xs])]) rfl ?_)
 simp only[] at hI
 refine .sq fun k6=>.sr fun k7=>stM rfl (stM rfl (st (.eq (.len wr (.t rfl)) ((show isI _=isI (rs.length:Int) from zF (by rw[hprs])))) rfl (st (.ltI (.t rfl) (.t rfl)) rfl (nkQ k7 (.cd rfl (fun hc1=>?_) (fun hc1=>?_))))))
 ·refine .skip (.nk k6 (.sq fun k8=>.block (.sr fun k9=>st (.as (.cI 0 rfl)) rfl (nkQ k9 (.block (.loopF [1,2,3,6,7,8,15,16,17,18] (fun (z:{ z:Nat×Gr (Bool×List Nat)//z.1≤cs.length })=>match z with|⟨(k,g2),hK⟩=>[(9,isI (k:Int))]) (fun M=>fun (z:{ z:Nat×Gr (Bool×List Nat)//z.1≤cs.length })=>match z with|⟨(k,g2),hK⟩=>[zj zc g2 (qx (i*cs.length+k) cs.length (ptG C xs rs cs)),(some b3,zC [isI (rs.length:Int),isI (cs.length:Int),ze g2 (qx (i*cs.length+k) cs.length (ptG C xs rs cs)).length]),(some b2,zC [isI 0,isI 0,zi]),(some b1,zC [isI (R:Int),isI (C:Int),SlK 2 zc xs])]) (fun (z:{ z:Nat×Gr (Bool×List Nat)//z.1≤cs.length })=>match z with|⟨(k,g2),hK⟩=>cs.length-k) (⟨(0,g),Nat.zero_le _⟩) (Cv.mem (.c 9 rfl ?_ (.l [1,2,3,6,7,8,15,16,17,18] rfl)) ?_) ?_))))))
  ·rfl
  ·rfl
  rintro⟨⟨k,g2⟩,hK⟩ K10 hK10
  refine .w [9,1,2,3,6,7,8,15,16,17,18] rfl (.memEq (M':=[zj zc g2 (qx (i*cs.length+k) cs.length (ptG C xs rs cs)),(some b3,zC [isI (rs.length:Int),isI (cs.length:Int),ze g2 (qx (i*cs.length+k) cs.length (ptG C xs rs cs)).length]),(some b2,zC [isI 0,isI 0,zi]),(some b1,zC [isI (R:Int),isI (C:Int),SlK 2 zc xs])]) rfl ?_)
  simp only[] at hK
  refine .sq fun k11=>.sr fun k12=>stM rfl (stM rfl (st (.eq (.len wr (.t rfl)) ((show isI _=isI (cs.length:Int) from zF (by rw[hpcs])))) rfl (st (.ltI (.t rfl) (.t rfl)) rfl (nkQ k12 (.cd rfl (fun hc2=>?_) (fun hc2=>?_))))))
  ·have h1:=hr _ (vV (show i<rs.length by omega))
   have h2:=hc _ (vV (show k<cs.length by omega))
   have hpl:=zt h1 h2
   have hpl2:=zt (show i<rs.length by omega) (show k<cs.length by omega)
   refine .skip (.nk k11 (.sq fun k13=>.block (.dry zW (.u 0 rfl (.fieldAddr (.t rfl) qU zP) (.u 3 rfl (.mv (.t rfl)) (.u 4 rfl (.mv (.t rfl)) (.u 7 rfl (.mv (.t rfl)) (.u 8 rfl (.mv (.t rfl)) (.go [] (.so 1 [] rfl (.load1 (.t rfl) (i:=1) rfl zP rfl) (.so 2 [] rfl (.load (.t rfl) (i:=3) rfl zL rfl (Ss':=[_,_,_]) rfl) (.so 5 [] rfl (.ixP wr ty3 (.t rfl) (.t rfl) (by omega) (rO (show i<rs.length by omega))) (.so 6 [32] rfl (.loadP1 (.t rfl) ty3) (.so 9 [] rfl (.ixP wr ty3 (.t rfl) (.t rfl) (by omega) (rO (show k<cs.length by omega))) (.so 10 [36] rfl (.loadP1 (.t rfl) ty3) (.so 11 [29,33,37] rfl (.eq (.call (vS (i:=rs.getD i 0) (k:=cs.getD k 0) (by omega) (by omega)) (.cons (.t rfl) (.cons (.t rfl) (.cons (.t rfl) .nil)))) ((show _=zk (zc (ptG C xs rs cs i k)) from rfl))) (.so 12 [38] rfl (.buildS [isB false,SlM isU []] zz zE zK (fun _ _=>⟨rfl,nilM _ _,trivial⟩) rfl rfl (.cons (.t rfl) rfl rfl rfl .nil) rfl (S:=SlK 2 zc [ptG C xs rs cs i k]) rfl) (.fn [13,14,15] (.w [1,2,3,6,7,8,15,16,17,18,9,21,22,23,24,27,30,31,34,35,28,29,32,33,36,37,38,39] rfl (.appendGK (fk:=zc) (u:=(false,[])) zN (by decide) (fun _=>inferInstance) zz zE zK (fun _ _=>⟨rfl,nilM _ _,trivial⟩) cT (.t rfl) (i:=0) rfl (.t rfl) (by rw[xP,List.length_singleton];omega) (by simp) rfl fun gr1=>?_))))))))))))))))))))
   refine .memEq (M':=[zj _ _ _,_,_,_]) rfl (st (.fieldAddr (.t rfl) qU zP) rfl (.store (.t rfl) (.t rfl) (i:=1) rfl zP rfl rfl (Ss':=[_,_,_]) rfl (M':=[_,(some _,zC [_,_,_]),_,_]) rfl (nl (.bln (.nk k13 (.region (stM rfl (st (.addI (.t rfl) (.cI 1 rfl) (by omega) (by omega)) rfl (stM rfl (nl (.thn ?_)))))))))))
   refine hK10 (⟨(k+1,gr1),by show k+1≤cs.length;omega⟩) _ _ ?_ (Cv.mem (.c 9 rfl ?_ (.l [1,2,3,6,7,8,15,16,17,18] rfl)) ?_)
   ·show cs.length-(k+1)<cs.length-k;omega
   ·exact zF (by omega)
   ·exact jN (by rw[←bQ _ (show k<cs.length by omega),List.length_append]) (by rw[←bQ _ (show k<cs.length by omega)])
  ·refine .exit (.the (.the (.blh (.bln (.nk k8 (.region (stM rfl (st (.addI (.t rfl) (.cI 1 rfl) (by omega) (by omega)) rfl (stM rfl (nl (.thn ?_)))))))))))
   have hkC:k=cs.length:=by omega
   refine hK5 (⟨(i+1,g2),by show i+1≤rs.length;omega⟩) _ _ ?_ (Cv.mem (.c 8 rfl ?_ (.l [1,2,3,6,7] rfl)) ?_)
   ·show rs.length-(i+1)<rs.length-i;omega
   ·exact zF (by omega)
   ·exact jN (by rw[hkC,Nat.succ_mul,Nat.add_zero]) (by rw[hkC,Nat.succ_mul,Nat.add_zero])
 ·refine .exit (.the (.the (.blh (.nk k3 (.w [6,7] rfl (.sq fun k14=>.cv (Cv.freezeF (k:=2) (i:=0) (j:=0) (o:=2) rfl rfl rfl rfl (aT zN) (wB zN) (Ss':=[_,_,SlK 2 zc (qx (i*cs.length+0) cs.length (ptG C xs rs cs))]) rfl) (.memEq (M':=[(some _,zC [_,_,SlK 2 zc (qx (i*cs.length+0) cs.length (ptG C xs rs cs))]),_,_]) rfl (.w [6,7] rfl (.region (st (.load (.t rfl) (i:=0) rfl zL rfl (Ss':=[_,_,_]) rfl) rfl (.store (.t rfl) (.t rfl) (i:=1) rfl zL rfl rfl (Ss':=[_,_,_]) rfl (M':=[_,(some _,zC [_,_,_]),_]) rfl (nkQ k14 (.ret (rt1 (.inl rfl) Tryz.results76 rfl (.cell rfl (i:=1) rfl zL rfl ?_ .nil)))))))))))))))
  all_goals (rw[Nat.add_zero,show i=rs.length by omega])
theorem oU {R C K:Nat} {xs:List (Bool×List Nat)} (hx:Bd (zG xs) K) (hK:K≤10000) (hR:R≤16) (hC:C≤16) (hl:xs.length=R*C) {cols:List Nat} (hc:∀x∈cols,x<C) (hcl:cols.length≤64):Ctr Tryz.prog 75 [isM (R:Int) (C:Int) xs,wA cols] (isB (ae (mf C (zG xs)) R cols)):=by
 refine Ctr.i Tryz.func75 rfl Tryz.ntmps75 fun w0 F0=>.w [0,1] rfl ?_
 have hpc:=ju cols
 have hchl:=vi R cols.length
 have h2m:=Nat.pow_le_pow_right (show 0<2 by decide) hR
 refine .sr fun k1=>.box (.t rfl) rfl fun b1=>st (.as (.cB false)) rfl (nkQ k1 (.sr fun k2=>st (.fieldAddr (.t rfl) zY ty3) rfl (st (.load1 (.t rfl) (i:=0) rfl ty3 rfl) rfl (stM rfl (st (.eq (.len wr (.t rfl)) ((show isI _=isI (cols.length:Int) from zF (by rw[hpc])))) rfl (st (.call (iO hR hcl) (.cons (.t rfl) (.cons (.t rfl) .nil))) rfl (stM rfl (nkQ k2 (.w [1,2,4,5] rfl (.sq fun k3=>.sr fun k4=>st (.as (.cI 0 rfl)) rfl (nkQ k4 (.block (.loopF [1,2,5] (fun (z:{ i:Nat//i≤(zU R cols.length).length∧∀j,j<i→mn (mf C (zG xs)) ((zU R cols.length).getD j []) cols=0 })=>match z with|⟨i,hI⟩=>[(6,isI (i:Int))]) (fun M=>fun (z:{ i:Nat//i≤(zU R cols.length).length∧∀j,j<i→mn (mf C (zG xs)) ((zU R cols.length).getD j []) cols=0 })=>match z with|⟨i,hI⟩=>M) (fun (z:{ i:Nat//i≤(zU R cols.length).length∧∀j,j<i→mn (mf C (zG xs)) ((zU R cols.length).getD j []) cols=0 })=>match z with|⟨i,hI⟩=>(zU R cols.length).length-i) (⟨0,Nat.zero_le _,fun j hj=>absurd hj (Nat.not_lt_zero _)⟩) (Cv.mem (.c 6 rfl ?_ (.l [1,2,5] rfl)) ?_) ?_)))))))))))))
 ·rfl
 ·rfl
 rintro⟨i,hi,hq⟩ K5 hK5
 refine .w [6,1,2,5] rfl (.sq fun k6=>.sr fun k7=>stM rfl (stM rfl (st (.len fh (.t rfl)) rfl (st (.ltI (.t rfl) (.t rfl)) rfl (nkQ k7 (.cd rfl (fun hc1=>?_) (fun hc1=>?_)))))))
 ·have hil:i<(zU R cols.length).length:=(by omega)
  have hYmem:((zU R cols.length).getD i [])∈zU R cols.length:=by rw[List.getD,List.getElem?_eq_getElem hil];exact List.getElem_mem _
  have hYs:=vJ R cols.length ((zU R cols.length).getD i []) hYmem
  obtain⟨hYl,hYm⟩:=hYs
  have hdw:=zGF (C:=C) hx ((zU R cols.length).getD i []) cols
  have hK2:((zU R cols.length).getD i []).length*(K+((zU R cols.length).getD i []).length)≤64*(10000+64):=Nat.mul_le_mul (by omega) (by omega)
  refine .skip (.nk k6 (.sq fun k8=>.block (.sq fun k9=>.dr (.so [] rfl (.load (.t rfl) (i:=0) rfl zL rfl (Ss':=[_,_,_]) rfl) (.m [] rfl (.m [] rfl (.so [19,20] rfl (.ixP fh oH (.t rfl) (.t rfl) (by omega) (getD_some (d:=[]) (by omega))) (.so [21] rfl (.eq (.loadP1 (.t rfl) oH) ((show _=wA ((zU R cols.length).getD i []) from rfl))) (.m [] rfl (.fn (n:=6) zW (.w [1,2,5,6,12,13,14,15,18,19,20,21,22,23] rfl (st (.eq (.call (fv (by omega) (by omega) hl hYm hc (by omega) hcl) (.cons (.t rfl) (.cons (.t rfl) (.cons (.t rfl) .nil)))) ((show _=isM (cols.length:Int) (cols.length:Int) (qx (cols.length*cols.length) cols.length (ptG C xs ((zU R cols.length).getD i []) cols)) from by rw[hYl]))) rfl (st (.eq (.call (dg (K:=K) (zGE hx _) (by omega) hcl (xP _ _ _)) (.cons (.t rfl) .nil)) ((show _=isZ (mn (mf C (zG xs)) ((zU R cols.length).getD i []) cols) from zO (zGD hYl)))) rfl (st (.eq (.call (qC (by rw[zB];omega)) (.cons (.t rfl) .nil)) ((show _=isI (sgn (mn (mf C (zG xs)) ((zU R cols.length).getD i []) cols)) from zF (by rw[zH])))) rfl ?_))))))))))))))
  refine st (.neI (.t rfl) (.cI 0 rfl)) rfl (nkQ k9 (.cd rfl (fun hc2=>?_) (fun hc2=>?_)))
  ·have hne:mn (mf C (zG xs)) ((zU R cols.length).getD i []) cols≠0:=fun e=>hc2 ((xQ _).2 e)
   refine .sr fun k10=>st (.as (.cB true)) rfl (nkQ k10 (.ret (.blr (.thr (.thr (.blr (.thr (rt1 (.inl rfl) Tryz.results75 rfl (.tmp (Has.t' rfl ?_) .nil)))))))))
   all_goals (exact zl (si hYmem hne))
  ·have heq:mn (mf C (zG xs)) ((zU R cols.length).getD i []) cols=0:=(xQ _).1 hc2
   refine .skip (.bln (.nk k8 (.region (stM rfl (st (.addI (.t rfl) (.cI 1 rfl) (by omega) (by omega)) rfl (stM rfl (nl (.thn ?_))))))))
   refine hK5 (⟨i+1,by omega,fun j hj=>by rcases Nat.lt_or_ge j i with h|h;exact hq j h;obtain rfl:j=i:=(by omega);exact heq⟩) _ _ ?_ (Cv.mem (.c 6 rfl ?_ (.l [1,2,5] rfl)) ?_)
   ·show (zU R cols.length).length-(i+1)<(zU R cols.length).length-i;omega
   ·exact zF (by omega)
   ·rfl
 ·refine .exit (.the (.the (.blh (.nk k3 (.cv (Cv.wk .nil) (.sr fun k11=>st (.as (.cB false)) rfl (nkQ k11 (.ret (rt1 (.inl rfl) Tryz.results75 rfl (.tmp (Has.t' rfl ?_) .nil))))))))))
  all_goals (exact zl (uZ fun j hj=>hq j (by omega)))
theorem ky {R C K:Nat} {xs:List (Bool×List Nat)} (hx:Bd (zG xs) K) (hK:K≤10000) (hR:R≤16) (hC:C≤16) (hl:xs.length=R*C):Ctr Tryz.prog 39 [isM (R:Int) (C:Int) xs] (wA (pivs (mf C (zG xs)) R C)):=by
 refine Ctr.i Tryz.func39 rfl Tryz.ntmps39 fun w0 F0=>.w [0] rfl (.sr fun k1=>.box (.t rfl) rfl fun b1=>st (.as (.cW (f:=isI))) rfl (nkQ k1 (.sr fun k2=>st (.as (.cW (f:=isI))) rfl (nkQ k2 (.sq fun k3=>.sr fun k4=>st (.as (.cI 0 rfl)) rfl (nkQ k4 (.block (.loopF [1,2] (fun (z:{ k:Nat//k≤C })=>match z with|⟨k,hk⟩=>[(4,isI (k:Int)),(3,wA (pivs (mf C (zG xs)) R k))]) (fun M=>fun (z:{ k:Nat//k≤C })=>match z with|⟨k,hk⟩=>M) (fun (z:{ k:Nat//k≤C })=>match z with|⟨k,hk⟩=>C-k) (⟨0,Nat.zero_le _⟩) (Cv.mem (.c 4 rfl ?_ (.c 3 rfl ?_ (.l [1,2] rfl))) ?_) ?_))))))))
 ·rfl
 ·rfl
 ·rfl
 rintro⟨k,hk⟩ K5 hK5
 refine .w [4,3,1,2] rfl ?_
 obtain⟨hpk,hpl⟩:=rP (mf C (zG xs)) R k
 have hpv:=ju (pivs (mf C (zG xs)) R k)
 refine .sq fun k6=>.sr fun k7=>stM rfl (st (.fieldAddr (.t rfl) zo ty3) rfl (st (.load1 (.t rfl) (i:=0) rfl ty3 rfl) rfl (st (.ltI (.t rfl) (.t rfl)) rfl (nkQ k7 (.cd rfl (fun hc1=>?_) (fun hc1=>?_))))))
 ·refine .skip (.nk k6 (.sq fun k8=>.block (.sr fun k9=>.cv (Cv.grow0 (α:=Int) isI) (st (.as (Has.cGr (α:=Int))) rfl (nkQ k9 (.sr fun k10=>stM rfl (stM rfl (.appendG0 (f:=isI) (u:=0) wr ty3 bz (fun _ _=>⟨⟨rfl,by decide,by decide⟩,trivial⟩) (fun _=>inferInstance) by3 (.t rfl) (i:=0) rfl (.t rfl) (by simp only[List.length_nil];omega) rfl fun gr1=>?_))))))))
  refine .memEq (M':=[grM _ _ _,_]) rfl (stM rfl (nkQ k10 (.sr fun k11=>stM rfl (stM rfl (st (.buildS [isI 0] wr ty3 bz (fun _ _=>⟨⟨rfl,by decide,by decide⟩,trivial⟩) rfl rfl (.cons (.t rfl) rfl rfl rfl .nil) rfl (S:=SlM isI [(k:Int)]) rfl) rfl (.appendG (f:=isI) (u:=0) wr ty3 bz (fun _ _=>⟨⟨rfl,by decide,by decide⟩,trivial⟩) (fun _=>inferInstance) by3 (.t rfl) (i:=0) rfl (.t rfl) (by simp only[List.length_append,List.length_nil,List.length_cons];omega) (by simp) rfl fun gr2=>?_))))))
  refine .memEq (M':=[grM _ _ _,_]) rfl (.cv (Cv.freezeGn (t:=18) (i:=0) (ys:=pv (pivs (mf C (zG xs)) R k)++[(k:Int)]) rfl rfl rfl (by simp)) ?_)
  refine .memEq (M':=[_]) rfl (.w [1,2,4,3,6,7,8,9,13,16,17,18] rfl (stM rfl (nkQ k11 (.sr fun k12=>st (.load (.t rfl) (i:=0) rfl zL rfl (Ss':=[_,_,_]) rfl) rfl (st (.eq (.mv (.t rfl)) ((show _=wA ((pivs (mf C (zG xs)) R k)++[k]) from qJ (lB _ _)))) rfl ?_)))))
  refine st (.call (oU hx hK hR hC hl (cols:=(pivs (mf C (zG xs)) R k)++[k]) (fun x hx'=>by rcases List.mem_append.1 hx' with h|h;exact Nat.lt_trans (hpk x h) (by omega);rw[List.mem_singleton.1 h];omega) (by rw[List.length_append];show _+1≤_;omega)) (.cons (.t rfl) (.cons (.t rfl) .nil))) rfl ?_
  refine nkQ k12 (.cd rfl (fun hc2=>?_) (fun hc2=>?_))
  ·have HS:=hc2
   refine .region (st (.eq (.mv (.t rfl)) ((show _=wA ((pivs (mf C (zG xs)) R k)++[k]) from qJ (lB _ _)))) rfl (stM rfl (nl (.bln (.nk k8 (.region (stM rfl (st (.addI (.t rfl) (.cI 1 rfl) (by omega) (by omega)) rfl (stM rfl (nl (.thn (hK5 (⟨k+1,by omega⟩) _ _ ?_ (Cv.mem (.c 4 rfl ?_ (.c 3 rfl ?_ (.l [1,2] rfl))) ?_)))))))))))))
   ·show C-(k+1)<C-k;omega
   ·exact zF (by omega)
   ·exact qJ (congrArg pv (if_pos HS).symm)
   ·rfl
  ·have HS:¬ae (mf C (zG xs)) R ((pivs (mf C (zG xs)) R k)++[k])=true:=by simpa using hc2
   refine .skip (.bln (.nk k8 (.region (stM rfl (st (.addI (.t rfl) (.cI 1 rfl) (by omega) (by omega)) rfl (stM rfl (nl (.thn (hK5 (⟨k+1,by omega⟩) _ _ ?_ (Cv.mem (.c 4 rfl ?_ (.c 3 rfl ?_ (.l [1,2] rfl))) ?_))))))))))
   ·show C-(k+1)<C-k;omega
   ·exact zF (by omega)
   ·exact qJ (congrArg pv (if_neg HS).symm)
   ·rfl
 ·refine .exit (.the (.the (.blh (.nk k3 (.w [2,3] rfl (.sr fun k13=>stM rfl (stM rfl (nkQ k13 (.ret (rt1 (.inl rfl) Tryz.results39 rfl (.tmp (Has.t' rfl ?_) .nil)))))))))))
  all_goals (rw[show k=C by omega])
end Go.Proofs.YtchbfpcaibfkdaaGreat
namespace Go.En
open Go.RowKit Go.Pz Go.Mz
section
variable {E : Env} {P : Program} {Γ : Ctx} {M : Mem} {Q : Exit → Act → World → Prop} {c : Code}
def exZ (p:List Int→Prop):VP:=⟨fun w F v=>∃l,p l∧(SlK 2 zc (l.map nz)).h w F v,fun w w' F F' v h a b=>by
 obtain⟨l,h1,h2⟩:=h;exact⟨l,h1,(SlK 2 zc (l.map nz)).mono _ _ _ _ _ h2 a b⟩⟩
def exI : VP:=⟨fun w F v=>∃z,(isI z).h w F v,fun w w' F F' v h a b=>by
 obtain⟨z,h⟩:=h;exact⟨z,(isI z).mono _ _ _ _ _ h a b⟩⟩
instance {p:List Int→Prop}:One (exZ p):=⟨fun w F v h=>by
 obtain⟨l,_,h⟩:=h;exact One.one (S:=SlK 2 zc (l.map nz)) w F v h⟩
instance {p:List Int→Prop}:Shape (exZ p) [exZ p]:=.of_one inferInstance
instance : One exI:=⟨fun w F v h=>by
 obtain⟨z,h⟩:=h;exact One.one (S:=isI z) w F v h⟩
instance : Shape exI [exI]:=.of_one inferInstance
theorem CtrX.toEx {f:FuncId} {args:List VP} {R:VP→Mem→Prop} {S:VP} (h:CtrX P f args [] R) (hR:∀S' M',R S' M'→∀w F v,S'.h w F v→S.h w F v):Ctr P f args S:=
 ⟨h.1,fun w F vs hF hargs=>(h.2 w F vs hF ⟨List.Pairwise.nil,by simp⟩ hargs).mono (by
  rintro e w' ⟨v,S',M',F',rfl,hr,hk,hsub,hnew,hv,_⟩
  exact⟨v,rfl,hk,S.mono _ _ _ _ _ (hR S' M' hr _ _ _ hv) (fun _ _=>rfl) hnew⟩)⟩
theorem zBB {A B:VP} {p:List Int→Prop} {l:List Int} (hl:p l):∀w F v,(zk [A,B,SlK 2 zc (l.map nz)]).h w F v→(zk [A,B,exZ p]).h w F v:=fun w F v h=>by
 obtain⟨vs,e,h⟩:=h
 match vs,h with
 | [x,y,z],⟨h1,h2,h3,_⟩=>exact⟨[x,y,z],e,h1,h2,⟨l,hl,h3⟩,trivial⟩
theorem zFD {A A' B B':VP} {z:Int} {D:VP} (hA:∀w F v,A.h w F v→A'.h w F v) (hB:∀w F v,B.h w F v→B'.h w F v):∀w F v,(zZ [A,B,isI z,D]).h w F v→(zZ [A',B',exI,D]).h w F v:=fun w F v h=>by
 obtain⟨vs,e,h⟩:=h
 match vs,h with
 | [x,y,t,u],⟨h1,h2,h3,h4,_⟩=>exact⟨[x,y,t,u],e,hA _ _ _ h1,hB _ _ _ h2,⟨z,h3⟩,h4,trivial⟩
theorem Tri.opZ {b:Nat} {A B:VP} {p:List Int→Prop} {M0:Mem} (h:∀l,p l→Tri E P c Γ ((some b,zC [A,B,SlK 2 zc (l.map nz)])::M0) Q):Tri E P c Γ ((some b,zC [A,B,exZ p])::M0) Q:=by
 intro a w F s
 obtain⟨h1,h2,h3,o,h4,vs,T,e,hv⟩:=s.mem.each b _ List.mem_cons_self
 obtain⟨x,y,z,rfl,g1,g2,l,hl,g3⟩:∃x y z,vs=[x,y,z]∧A.h w F x∧B.h w F y∧∃l,p l∧(SlK 2 zc (l.map nz)).h w F z:=by
  match vs,hv with
  | [x,y,z],⟨g1,g2,⟨l,hl,g3⟩,_⟩=>exact⟨x,y,z,rfl,g1,g2,l,hl,g3⟩
 refine h l hl a w F { s with mem:=⟨?_,fun k C hk=>?_⟩ }
 ·have:=List.pairwise_cons.1 s.mem.apart
  exact List.pairwise_cons.2 ⟨fun q hq=>this.1 q hq,this.2⟩
 ·rcases List.mem_cons.1 hk with e'|hk
  ·cases e'
   exact⟨h1,h2,h3,o,h4,[x,y,z],T,e,g1,g2,g3,trivial⟩
  ·exact s.mem.each k C (List.mem_cons_of_mem _ hk)
end
end Go.En
namespace Go.En
open Go.RowKit Go.Nt Go.Pz
abbrev rc (p:(Bool×List Nat)×Bool×List Nat):List VP:=[isB p.1.1,zD p.1.2,isB p.2.1,zD p.2.2]
theorem vB : ∀p,(rc p).length=4:=fun _=>rfl
abbrev nq (q:Rat):(Bool×List Nat)×Bool×List Nat:=(nz q.num,nz (q.den:Int))
abbrev ah (L:List Rat):VP:=SlK 4 rc (L.map nq)
def qf (L:List Rat) (i:Nat):Rat:=L.getD i 0
theorem qf_at {L:List Rat} {i:Nat} (h:i<L.length):L[i]?=some (qf L i):=by unfold qf;rw[List.getD,List.getElem?_eq_getElem h];rfl
theorem getQ {L:List Rat} {i:Nat} (h:i<L.length):(L.map nq)[i]?=some (nq (qf L i)):=by rw[List.getElem?_map,qf_at h];rfl
theorem yL {f:Nat→Rat} {n i:Nat} (h:i<n):qf ((List.range n).map f) i=f i:=by unfold qf;rw[List.getD,List.getElem?_map,List.getElem?_range h];rfl
section
variable {E : Env} {P : Program} {Γ : Ctx} {M : Mem} {ty : TypeId} {pos : String} {after : Array Edge} {gd : Option (Nat × Bool)} {d : Option Tmp}
 {ops : Array Oper} {Q : Exit → Act → World → Prop} {rest : List Oper} {T T' : TypeId} {x y : Operand} {α : Type} {fk : α → List VP} {xs : List α} {k : Nat}
end
end Go.En
namespace Go.Gs
open Go.En Go.Pz Go.Nt Go.Mz Go.Hp Go.Dt Go.Br
theorem zBV (s:BS) (c:Nat):∃s',zCE c s s':=by
 by_cases h:∀(j:Nat) (r:List Int),s.ps.length≤j→s.rows[j]?=some r→cf r c=0
 ·exact⟨s,.inl ⟨rfl,h⟩⟩
 ·obtain⟨i,r,h1,h2,h3⟩:∃(i:Nat) (r:List Int),s.ps.length≤i∧s.rows[i]?=some r∧cf r c≠0:=
   Classical.byContradiction fun hn=>h fun j r g1 g2=>Classical.byContradiction fun g3=>hn ⟨j,r,g1,g2,g3⟩
  have hi:=aP h2
  obtain⟨t,ht⟩:∃t,s.rows[s.ps.length]?=some t:=⟨_,List.getElem?_eq_getElem (by omega)⟩
  obtain⟨sw,hsw⟩:∃sw,sw=if i=s.ps.length then s.rows else (s.rows.set i t).set s.ps.length r:=⟨_,rfl⟩
  have hl:sw.length=s.rows.length:=by rw[hsw];split <;> simp
  refine⟨⟨sw.mapIdx fun j row=>if s.ps.length<j then clrL r row c s.last else row,s.ps++[c],cf r c,if i=s.ps.length then s.odd else !s.odd⟩,.inr ⟨i,r,t,sw,h1,h2,ht,h3,hsw,?_,fun j=>?_,rfl,rfl,rfl⟩⟩
  ·rw[List.length_mapIdx,hl]
  ·rw[List.getElem?_mapIdx]
   split
   ·rename_i e;simp[e]
   ·rename_i e;simp[e]
theorem sP (s0:BS):∀c,∃s,BRun s0 c s
  | 0=>⟨s0,.zero⟩
  | c+1=>by
    obtain⟨s,h⟩:=sP s0 c
    obtain⟨s',h'⟩:=zBV s c
    exact⟨s',h.step h'⟩
theorem bi_ex (R C:Nat) (L:List Int):∃s q,BI (mf C L) R C C s q∧s.ps=pivs (mf C L) R C:=by
 have h0:=BI.start (mf C L) (R:=R) (C:=C) (L:=L) fun i k _ _=>rfl
 obtain⟨s,h⟩:=sP ⟨rowsOf R C L,[],1,false⟩ C
 obtain⟨q,hq⟩:=h0.all h (Nat.le_refl _)
 exact⟨s,q,hq,h0.pivs rfl h (Nat.le_refl _)⟩
end Go.Gs
namespace Go.Ll
open Go.Dt Go.Hp Go.Pz Go.En Go.Nt Go.Mz Go.Hn Go.Gs Go.Tr
theorem yQ {f:Nat→Int}:∀{t:Nat},(∀i,i<t→0<f i)→0<pd t f
 | 0,_=>(by decide:(0:Int)<1)
 | t+1,h=>Int.mul_pos (yQ fun i hi=>h i (by omega)) (h t (by omega))
theorem sz {R C K:Nat} {L:List Int} (hb:Bd L K):(pivs (mf C L) R C).length=rkL R C L:=by
 obtain⟨s,q,hB,hp⟩:=bi_ex R C L
 rw[←hp]
 obtain⟨rs,hrs⟩:∃rs,rs=(q.take s.ps.length).reverse:=⟨_,rfl⟩
 obtain⟨cs,hcs⟩:∃cs,cs=s.ps.reverse:=⟨_,rfl⟩
 have hrl:rs.length=s.ps.length:=by rw[hrs,List.length_reverse,List.length_take,hB.hq];have:=hB.hps;omega
 have hcl:cs.length=s.ps.length:=by rw[hcs,List.length_reverse]
 have hD:mn (mf C L) rs cs≠0:=by rw[hrs,hcs,←hB.hl];exact hB.h0
 have hrR:∀i,i<rs.length→rs.getD i 0<R:=fun i hi=>by
  have h2:=vV hi
  rw[hrs,List.mem_reverse,←hrs] at h2
  exact hB.lt _ (List.mem_of_mem_take h2)
 have hcC:∀j,j<cs.length→cs.getD j 0<C:=fun j hj=>by
  have h2:=vV hj
  rw[hcs,List.mem_reverse,←hcs] at h2
  exact List.mem_range.1 (hB.psl.subset h2)
 have hE:=mz (R:=R) (C:=C) hb
 refine Nat.le_antisymm ?_ ?_
 ·refine Nat.le_of_not_lt fun hlt=>hD ?_
  obtain⟨t,ht⟩:∃t,rs.length=t+1:=⟨rs.length-1,by omega⟩
  have hV:∀i,∃c:Nat→Int,i<rs.length→∀k,k<C→mf C L (rs.getD i 0) k=Dt.sm (rkL R C L) fun m=>c m*xw R C L m k:=fun i=>by
   by_cases hi:i<rs.length
   ·obtain⟨c,hc⟩:=hE.1 _ (hrR i hi)
    exact⟨c,fun _=>hc⟩
   ·exact⟨fun _=>0,fun h=>absurd h hi⟩
  unfold mn
  rw[ht]
  refine la (D:=1) (by decide) (e:=fun i r=>if r<rkL R C L then Classical.choose (hV i) r else 0) (V:=fun r j=>xw R C L r (cs.getD j 0)) fun i j hi hj=>?_
  rw[Int.one_mul]
  show mf C L (rs.getD i 0) (cs.getD j 0)=_
  rw[Classical.choose_spec (hV i) (by omega) _ (hcC j (by omega))]
  have hz:∀r,rkL R C L≤r→r<t→(fun r=>(if r<rkL R C L then Classical.choose (hV i) r else 0)*xw R C L r (cs.getD j 0)) r=0:=fun r h1 _=>by
   show (if r<rkL R C L then _ else 0)*_=_
   rw[if_neg (by omega),Int.zero_mul]
  rw[ko (P:=rkL R C L) (R:=t) (by omega) hz]
  exact zS fun r hr=>by rw[if_pos hr]
 ·refine Nat.le_of_not_lt fun hlt=>?_
  have h0:∀i k,i<R→k<C→mn (mf C L) (i::rs) (k::cs)=0:=fun i k hi hk=>by
   have hm:i∈q:=hB.pm.mem_iff.2 (List.mem_range.2 hi)
   obtain⟨j,hj,he⟩:=List.getElem_of_mem hm
   rcases Nat.lt_or_ge j s.ps.length with g|g
   ·refine yd _ ?_ k
    rw[hrs,List.mem_reverse]
    exact List.mem_of_getElem? (i:=j) (by rw[List.getElem?_take,if_pos g,List.getElem?_eq_getElem hj,he])
   ·obtain⟨r,hr⟩:∃r,s.rows[j]?=some r:=⟨_,List.getElem?_eq_getElem (by rw[hB.hR,←hB.hq];exact hj)⟩
    have h1:=hB.row j r g hr k hk
    have h2:q.getD j 0=i:=by rw[List.getD_eq_getElem?_getD,List.getElem?_eq_getElem hj,he];rfl
    rw[hB.zero j r g hr k hk,h2,←hrs,←hcs] at h1
    exact h1.symm
  have hzero:det (rs.length+1) (fun m j=>xw R C L m (fc C (xw R C L j)))=0:=by
   have hV:∀m,∃c:Nat→Int,m<rkL R C L→∀k,k<C→xw R C L m k=Dt.sm R fun i=>c i*mf C L i k:=fun m=>by
    by_cases hm:m<rkL R C L
    ·obtain⟨c,hc⟩:=hE.2 m hm
     exact⟨c,fun _=>hc⟩
    ·exact⟨fun _=>0,fun h=>absurd h hm⟩
   refine la (D:=mn (mf C L) rs cs) hD (e:=fun m r => -(Dt.sm R fun i=>Classical.choose (hV m) i*ec (mf C L) rs cs i r)) (V:=fun r j=>mf C L (rs.getD r 0) (fc C (xw R C L j))) fun m j hm hj=>?_
   have hk:=dH hb j (show j<rkL R C L by omega)
   rw[Classical.choose_spec (hV m) (by omega) _ hk,←xf]
   obtain⟨k,hkk⟩:∃k,k=fc C (xw R C L j):=⟨_,rfl⟩
   rw[←hkk] at hk⊢
   obtain⟨c,hc⟩:∃c,c=Classical.choose (hV m):=⟨_,rfl⟩
   rw[←hc]
   have e1:(Dt.sm R fun i=>mn (mf C L) rs cs*(c i*mf C L i k))=Dt.sm R fun i=>Dt.sm rs.length fun r => -(c i*ec (mf C L) rs cs i r*mf C L (rs.getD r 0) k):=zS fun i hi=>by
    have h1:=h0 i k hi hk
    rw[dq] at h1
    have h2:(Dt.sm rs.length fun r => -(c i*ec (mf C L) rs cs i r*mf C L (rs.getD r 0) k)) = -(c i)*Dt.sm rs.length fun r=>ec (mf C L) rs cs i r*mf C L (rs.getD r 0) k:=by
     rw[←xf]
     exact zS fun r _=>by grind
    rw[h2]
    generalize (Dt.sm rs.length fun r=>ec (mf C L) rs cs i r*mf C L (rs.getD r 0) k)=S at*
    grind
   rw[e1,cm]
   refine zS fun r _=>?_
   have h3:(Dt.sm R fun i => -(c i*ec (mf C L) rs cs i r*mf C L (rs.getD r 0) k))=(-(mf C L (rs.getD r 0) k))*Dt.sm R fun i=>c i*ec (mf C L) rs cs i r:=by
    rw[←xf]
    exact zS fun i _=>by grind
   rw[h3];grind
  rw[kR _ _ fun i j hji hi=>?_] at hzero
  ·have:=yQ (f:=fun i=>xw R C L i (fc C (xw R C L i))) (t:=rs.length+1) fun i hi=>(bh hb i (show i<rkL R C L by omega) (dH hb i (show i<rkL R C L by omega))).2.1
   omega
  ·exact (bh hb).later hji (show i<rkL R C L by omega) (dH hb j (show j<rkL R C L by omega)) (Nat.le_refl _)
structure BS (R C K:Nat) (L Bl:List Int):Prop where
 len:Bl.length=rkL R C L*C
 bd:Bd Bl (32*K+241)
 eqv:Eqv (rkL R C L) R C (mf C Bl) (mf C L)
end Go.Ll
namespace Go.Proofs.YtchbfpcaibfkdaaGreat
open Go.En Go.RowKit
set_option maxRecDepth 10000
set_option maxHeartbeats 4000000
open Go.Nt
open Go.Pz
open Go.Mz
open Go.Hn
open Go.Hp
open Go.Dt
open Go.Ll
theorem zHS : rkL 2 1 (zG ([1,1].map nz))=1:=by
 show (jw 1 (mf 1 (hL 2 1 (zG ([1,1].map nz)))) 2).length=1
 rw[zQ,hL11]
 have:=congrArg List.length gm11_p
 rwa [ju] at this
theorem tn : Ctr Tryz.prog 6 [isM 2 1 ([1,1].map nz),isZ 3,isZ 4] (zZ [zk [isI 2,isI 1,exZ (fun l=>Bd l 300∧l.length=2*1∧cf l (0*1+0)=0∧cf l (1*1+0)≠0)],zk [isI 2,isI 2,exZ fun _=>True],exI,isI 0]):=by
 have hb11:Bd (zG ([1,1].map nz)) 1:=by rw[zQ];exact gm11_b
 have h3:(List.length (zA (3:Int).natAbs))≤1:=qL (by decide)
 have h4:(List.length (zA (4:Int).natAbs))≤1:=qL (by decide)
 refine (eO (R:=2) (C:=1) (K:=1) (xs:=[1,1].map nz) hb11 (by decide) (by decide) (by decide) rfl (by rw[zB];omega) (by rw[zB];omega) (by simp only[zH];decide) (by rw[zH];decide) (by simp only[zH];decide)).toEx ?_
 rintro _ _ ⟨c,ds',ls',us',k,Ml,Wl,rfl,rfl,hG⟩
 refine zFD (zBB ⟨(hG.bd hb11 (by decide) (by decide)).mono (by decide),hG.len,hG.zero hb11 (i:=0) (j:=0) (by rw[zHS];decide) (by decide),?_⟩) (zBB trivial)
 obtain⟨j,hj,hne⟩:=hG.nz (i:=0) (by rw[zHS];decide)
 obtain rfl:j=0:=by omega
 rw[zHS] at hne
 exact hne
theorem vG  : Ctr Tryz.prog 4 [] (isB true):=by
 refine Ctr.i Tryz.func4 rfl Tryz.ntmps4 fun w0 F0=>.cv (Cv.wk .nil) (.sr fun k1=>st (.as (.cB false)) rfl (nkQ k1 (.sr fun k2=>st (.buildS [isI 0,isI 0] zHL ty2 zero2 (fun _ _=>⟨⟨rfl,by decide,by decide⟩,⟨rfl,by decide,by decide⟩,trivial⟩) rfl rfl (.cons (.cI 1 rfl) rfl rfl rfl (.cons (.cI 1 rfl) rfl rfl rfl .nil)) rfl (S:=SlM isI [_,_]) rfl) rfl (st (.eq (.call (zCH (R:=2) (C:=1) (l:=[1,1]) (by decide) (by decide) rfl (by decide)) (.cons (.cI 2 rfl) (.cons (.cI 1 rfl) (.cons (.t rfl) .nil)))) ((show _=zZ [xW 2 1 [1,1],isI 0] from by rw[gm11_t]))) rfl (stM rfl (st (.ext (.t rfl) rfl) rfl (st (.ext (.t rfl) rfl) rfl (.alloc [isI 0,isI 0,zi] zX (fun _ _=>⟨⟨rfl,by decide,by decide⟩,⟨rfl,by decide,by decide⟩,rfl,trivial⟩) rfl fun b1=>.store (.t rfl) (.t rfl) (i:=0) rfl zL rfl rfl (Ss':=[_,_,_]) rfl (M':=[(some _,zC [_,_,_])]) rfl (stM rfl (nkQ k2 (.w [0,1] rfl (.sq fun k3=>.drh [true] (Ms:=[_]) rfl (.so [] rfl (.load (.t rfl) (i:=0) rfl zL rfl (Ss':=[_,_,_]) rfl) (.so [] rfl (.call (xC) (.cons (.cI 3 rfl) .nil)) (.so [] rfl (.call (xC) (.cons (.cI 4 rfl) .nil)) (.so [13,14,15] rfl (.call tn (.cons (.t rfl) (.cons (.t rfl) (.cons (.t rfl) .nil)))) (.m [16] rfl (.so [12] rfl (.ext (.t rfl) rfl) (.so [12] rfl (.ext (.t rfl) rfl) (.so [12] rfl (.ext (.t rfl) rfl) (.so [12] rfl (.ext (.t rfl) rfl) (.als2 (n1:=11) (ds:=[3,4]) (zs:=[[isI 0,isI 0,zi],[isI 0,isI 0,zi]]) rfl (.cons rfl rfl zX (fun _ _=>⟨⟨rfl,by decide,by decide⟩,⟨rfl,by decide,by decide⟩,rfl,trivial⟩) (.cons rfl rfl zX (fun _ _=>⟨⟨rfl,by decide,by decide⟩,⟨rfl,by decide,by decide⟩,rfl,trivial⟩) .nil)) (.cons_cons _ .slnil) (Cs:=[_,_]) rfl ?_))))))))))))))))))))))
 refine .new [17] 0 (Ss':=[_,_,_]) (Cs':=[zC [_,_,_],_]) rfl (by kernel_rfl) (by kernel_rfl) rfl rfl rfl (by kernel_rfl) rfl (.t rfl) zL rfl rfl rfl rfl (.new [18] 1 (Ss':=[_,_,_]) (Cs':=[_,zC [_,_,_]]) rfl (by kernel_rfl) (by kernel_rfl) rfl rfl rfl (by kernel_rfl) rfl (.t rfl) zL rfl rfl rfl rfl (.asg [19] rfl rfl (by kernel_rfl) (by kernel_rfl) (by kernel_rfl) (.o rfl (.as (.t rfl))) (.cons_cons _ .slnil) (.fn (n:=14) zW rfl (fun bs hbs=>?_))))
 obtain⟨b2,b3,rfl⟩:=len2 hbs
 refine .memEq (M':=[_,_,_]) rfl (.cv (Cv.wk (.k 0 rfl (.k 20 rfl (.cons (t:=3) (Has.op rfl) (.cons (t:=4) (Has.op rfl) .nil))))) (stM rfl (nkQ k3 (.sq fun k4=>.opZ fun Ml hMl0=>?_))))
 obtain⟨hMb',hMl1,e0,e1⟩:=hMl0
 have hMb:Bd (zG (Ml.map nz)) 300:=by rw[zQ];exact hMb'
 have hMl:(Ml.map nz).length=2*1:=by rw[List.length_map];exact hMl1
 refine .region (stM rfl (st (.eqI (.t rfl) (.cI 0 rfl)) rfl (stM rfl (stT rfl rfl (fun hg=>.fieldAddr (.t rfl) zY ty3) rfl (stT rfl rfl (fun hg=>.load1 (Has.g rfl hg) (i:=0) rfl ty3 rfl) rfl (stT rfl rfl (fun hg=>.eqI (Has.g rfl hg) (.cI 2 rfl)) rfl (st (.pickAnd (.t rfl) (fun h=>Has.g rfl h)) rfl (stM rfl (stT rfl rfl (fun hg=>.fieldAddr (.t rfl) zY ty3) rfl (stT rfl rfl (fun hg=>.load1 (Has.g rfl hg) (i:=1) rfl ty3 rfl) rfl (stT rfl rfl (fun hg=>.eqI (Has.g rfl hg) (.cI 2 rfl)) rfl (st (.pickAnd (.t rfl) (fun h=>Has.g rfl h)) rfl (stM rfl (stT rfl rfl (fun hg=>.load (.t rfl) (i:=0) rfl zL rfl (Ss':=[_,_,_]) rfl) rfl ?_))))))))))))))
 refine stT rfl rfl (fun hg=>have hg':=BP.t hg;OK1.eq (.call (cY (R:=2) (C:=1) (i:=0) (k:=0) (K:=300) (xs:=Ml.map nz) hMb (by decide) (by decide) (by decide) hMl (by decide) (by decide)) (.cons (Has.g rfl hg) (.cons (.cI 0 rfl) (.cons (.cI 0 rfl) .nil)))) ((show _=isZ (cf Ml (0*1+0)) from zO (by rw[zQ])))) rfl ?_
 refine stT rfl rfl (fun hg=>have hg':=BP.t hg;OK1.eq (.call (qC (by rw[zB];have:=hMb' (0*1+0);omega)) (.cons (Has.g rfl hg) .nil)) ((show isI _=isI 0 from zF (by rw[zH,e0];rfl)))) rfl ?_
 refine stT rfl rfl (fun hg=>.eqI (Has.g rfl hg) (.cI 0 rfl)) rfl (st (.pickAnd (.t rfl) (fun h=>Has.g rfl h)) rfl (stM rfl (stT rfl rfl (fun hg=>.load (.t rfl) (i:=0) rfl zL rfl (Ss':=[_,_,_]) rfl) rfl ?_)))
 refine stT rfl rfl (fun hg=>have hg':=BP.t hg;OK1.eq (.call (cY (R:=2) (C:=1) (i:=1) (k:=0) (K:=300) (xs:=Ml.map nz) hMb (by decide) (by decide) (by decide) hMl (by decide) (by decide)) (.cons (Has.g rfl hg) (.cons (.cI 1 rfl) (.cons (.cI 0 rfl) .nil)))) ((show _=isZ (cf Ml (1*1+0)) from zO (by rw[zQ])))) rfl ?_
 refine stT rfl rfl (fun hg=>have hg':=BP.t hg;OK1.eq (.call (qC (by rw[zB];have:=hMb' (1*1+0);omega)) (.cons (Has.g rfl hg) .nil)) ((show isI _=isI (sgn (cf Ml (1*1+0))) from zF (by rw[zH])))) rfl ?_
 refine stT rfl rfl (fun hg=>.neI (Has.g rfl hg) (.cI 0 rfl)) rfl (st (.eq (.pickAnd (.t rfl) (fun h=>Has.g rfl h)) ((show isB _=isB true from zl (by simp[xQ,e1])))) rfl (stM rfl (nkQ k4 (.w [0] rfl (.ret (rt1 (.inl rfl) Tryz.results4 rfl (.tmp (Has.t' rfl ?_) .nil)))))))
 all_goals (rfl)
theorem mN {R C K:Nat} {xs:List (Bool×List Nat)} (hx:Bd (zG xs) K) (hK:K≤10000) (hR:R≤16) (hC:C≤16) (hl:xs.length=R*C):Ctr Tryz.prog 14 [isM (R:Int) (C:Int) xs] (isI (rkL R C (zG xs):Int)):=by
 refine Ctr.i Tryz.func14 rfl Tryz.ntmps14 fun w0 F0=>.w [0] rfl (.sr fun k1=>.box (.t rfl) rfl fun b1=>st (.as (.cI 0 rfl)) rfl (nkQ k1 (.sr fun k2=>st (.load (.t rfl) (i:=0) rfl zL rfl (Ss':=[_,_,_]) rfl) rfl (st (.call (ky hx hK hR hC hl) (.cons (.t rfl) .nil)) rfl (st (.len wr (.t rfl)) rfl (stM rfl (nkQ k2 (.w [2] rfl (.ret (rt1 (.inl rfl) Tryz.results14 rfl (.tmp (Has.t' rfl ?_) .nil)))))))))))
 all_goals (exact zF (by rw[ju,sz hx]))
theorem eW {r c:Int} {xs:List (Bool×List Nat)} {m n:Bool} {ps qs:List Nat} (hf:xc r c xs.length=false):Ctr Tryz.prog 6 [isM r c xs,zk [isB m,zD ps],zk [isB n,zD qs]] (zZ [nD,nD,isI 0,isI 2]):=by
 refine Ctr.i Tryz.func6 rfl Tryz.ntmps6 fun w0 F0=>.w [0,1,2] rfl (.fact (Has.okZ (Has.t (t:=1) rfl)) fun okz1=>.fact (Has.okZ (Has.t (t:=2) rfl)) fun okz2=>.sr fun k1=>.box (.t rfl) rfl fun b1=>.box (.t rfl) rfl fun b2=>.box (.t rfl) rfl fun b3=>.alloc [isI 0,isI 0,SlK 2 zc ([]:List (Bool×List Nat))] zX (fun _ _=>⟨⟨rfl,by decide,by decide⟩,⟨rfl,by decide,by decide⟩,vm,trivial⟩) rfl fun b4=>.alloc [isI 0,isI 0,SlK 2 zc ([]:List (Bool×List Nat))] zX (fun _ _=>⟨⟨rfl,by decide,by decide⟩,⟨rfl,by decide,by decide⟩,vm,trivial⟩) rfl fun b5=>st (.as (.cI 0 rfl)) rfl (st (.as (.cI 0 rfl)) rfl (nkQ k1 (.sr fun k2=>st (.load (.t rfl) (i:=4) rfl zL rfl (Ss':=[_,_,_]) rfl) rfl (st (.call (eV hf) (.cons (.t rfl) .nil)) rfl (stM rfl (st (.ext (.t rfl) rfl) rfl (st (.ext (.t rfl) rfl) rfl (st (.ext (.t rfl) rfl) rfl (.alloc [isI 0,isI 0,SlK 2 zc ([]:List (Bool×List Nat))] zX (fun _ _=>⟨⟨rfl,by decide,by decide⟩,⟨rfl,by decide,by decide⟩,vm,trivial⟩) rfl fun b6=>.alloc [isI 0,isI 0,SlK 2 zc ([]:List (Bool×List Nat))] zX (fun _ _=>⟨⟨rfl,by decide,by decide⟩,⟨rfl,by decide,by decide⟩,vm,trivial⟩) rfl fun b7=>.store (.t rfl) (.t rfl) (i:=1) rfl zL rfl rfl (Ss':=[_,_,_]) rfl (M':=[_,(some _,zC [_,_,_]),_,_,_,_,_]) rfl (.store (.t rfl) (.t rfl) (i:=0) rfl zL rfl rfl (Ss':=[_,_,_]) rfl (M':=[(some _,zC [_,_,_]),_,_,_,_,_,_]) rfl (stM rfl (nkQ k2 (.w [4,5,6,7,8,9,10,11,12] rfl (.sq fun k3=>.sr fun k4=>stM rfl ?_)))))))))))))))
 refine st (.neI (.t rfl) (.cI 0 rfl)) rfl (nkQ k4 (.cd rfl (fun hc1=>?_) (fun hc1=>?_)))
 ·refine .sr fun k5=>st (.build [isI 0,isI 0,SlK 2 zc ([]:List (Bool×List Nat))] bx zX (fun _ _=>⟨⟨rfl,by decide,by decide⟩,⟨rfl,by decide,by decide⟩,vm,trivial⟩) .nil (Z'':=[_,_,_]) rfl) rfl (st (.build [isI 0,isI 0,SlK 2 zc ([]:List (Bool×List Nat))] bx zX (fun _ _=>⟨⟨rfl,by decide,by decide⟩,⟨rfl,by decide,by decide⟩,vm,trivial⟩) .nil (Z'':=[_,_,_]) rfl) rfl (stM rfl (.store (.t rfl) (.t rfl) (i:=3) rfl zL rfl rfl (Ss':=[_,_,_]) rfl (M':=[_,_,_,(some _,zC [_,_,_]),_,_,_]) rfl (.store (.t rfl) (.t rfl) (i:=2) rfl zL rfl rfl (Ss':=[_,_,_]) rfl (M':=[_,_,(some _,zC [_,_,_]),_,_,_,_]) rfl (st (.as (.cI 0 rfl)) rfl (stM rfl (nkQ k5 (.w [4,5,6,7,8,9,10,11,12] rfl (.ret (.thr (rtN (.inl rfl) Tryz.results6 rfl rfl (.cell rfl (i:=3) rfl zL rfl ?_ (.cell rfl (i:=2) rfl zL rfl ?_ (.tmp (Has.t' rfl ?_) (.tmp (Has.t' rfl ?_) .nil)))))))))))))))
  ·rfl
  ·rfl
  ·rfl
  ·rfl
 ·exfalso;omega
end Go.Proofs.YtchbfpcaibfkdaaGreat
namespace Go.Ll
open Go.Dt Go.Hp Go.Pz Go.En Go.Nt Go.Mz
variable {n m R : Nat} {A A' B V : zI} {d d' : Nat → Int} {w w' : zI}
/-! ### rows that are short beside what is left of the last one -/
theorem rJ (h:OD n m A d w) {i:Nat} (hi:i<m) {X Y:Int} (hX:0≤X) (hB:∀t,t≤i→d (t+1)*X≤Y*d t) (hr:∀j,j<i→lo n A w i j*lo n A w i j≤d (j+1)*d (j+1)):∀q t,t+q=i→ip n (vP n A d w i t) (vP n A d w i t)*X≤pP d t*pP d t*(((q+1:Nat):Int)*Y)
  | 0,t,e=>by
    obtain rfl:t=i:=by omega
    have x1:=uO h hi
    have hp:=h.pos t (by omega)
    have h2:pP d t*pP d t*(d (t+1)*X)≤pP d t*pP d t*(Y*d t):=Int.mul_le_mul_of_nonneg_left (hB t (Nat.le_refl _)) (xE _)
    rw[show (((0+1:Nat):Int))*Y=Y by show 1*Y=Y;omega]
    refine Int.le_of_mul_le_mul_left (a:=d t) ?_ hp
    have e1:d t*(ip n (vP n A d w t t) (vP n A d w t t)*X)=pP d t*pP d t*(d (t+1)*X):=by rw[←Int.mul_assoc,x1];grind
    have e2:d t*(pP d t*pP d t*Y)=pP d t*pP d t*(Y*d t):=by grind
    omega
  | q+1,t,e=>by
    have ih:=rJ h hi hX hB hr q (t+1) (by omega)
    have x1:=zFW h i (t:=t) (by omega)
    have h0:=h.pos t (by omega)
    have h1:=h.pos (t+1) (by omega)
    have hlo:=hr t (by omega)
    have hDt:=hB t (by omega)
    have hpp:=xE (pP d t)
    have b1:lo n A w i t*lo n A w i t*X≤d t*d (t+1)*Y:=by
      have c1:lo n A w i t*lo n A w i t*X≤d (t+1)*d (t+1)*X:=Int.mul_le_mul_of_nonneg_right hlo hX
      have c2:d (t+1)*(d (t+1)*X)≤d (t+1)*(Y*d t):=Int.mul_le_mul_of_nonneg_left hDt (by omega)
      have e1:d (t+1)*d (t+1)*X=d (t+1)*(d (t+1)*X):=Int.mul_assoc _ _ _
      have e2:d t*d (t+1)*Y=d (t+1)*(Y*d t):=by grind
      omega
    have hE:=Int.mul_pos h0 h1
    have ePP:pP d (t+1)=d t*d (t+1)*pP d t:=rfl
    rw[ePP] at ih
    generalize d t*d (t+1)=E at*
    generalize ip n (vP n A d w i t) (vP n A d w i t)=x at*
    generalize ip n (vP n A d w i (t+1)) (vP n A d w i (t+1))=y at*
    generalize lo n A w i t*lo n A w i t=l2 at*
    generalize pP d t=p at*
    have b2:E*(p*p)*(l2*X)≤E*(p*p)*(E*Y):=Int.mul_le_mul_of_nonneg_left b1 (Int.mul_nonneg (by omega) hpp)
    have b4:E*E*(x*X)≤E*E*(p*p*(((q+1+1:Nat):Int)*Y)):=by
      have z1:E*E*(p*p*(((q+1+1:Nat):Int)*Y))=E*p*(E*p)*(((q+1:Nat):Int)*Y)+E*(p*p)*(E*Y):=by
        rw[show ((q+1+1:Nat):Int)=((q+1:Nat):Int)+1 by omega];grind
      have z2:E*E*(x*X)=y*X+E*(p*p)*(l2*X):=by
        have:E*E*x*X=(y+E*(p*p*l2))*X:=by rw[x1]
        grind
      omega
    exact Int.le_of_mul_le_mul_left b4 (Int.mul_pos hE hE)
theorem OD.shortB (h:OD n m A d w) {i:Nat} (hi:i<m) {X Y:Int} (hX:0≤X) (hB:∀t,t≤i→d (t+1)*X≤Y*d t) (hr:∀j,j<i→lo n A w i j*lo n A w i j≤d (j+1)*d (j+1)):ip n (A i) (A i)*X≤((i+1:Nat):Int)*Y:=by
 have:=rJ h hi hX hB hr i 0 (by omega)
 have e:pP d 0*pP d 0*(((i+1:Nat):Int)*Y)=((i+1:Nat):Int)*Y:=by show 1*1*_=_;omega
 rw[e] at this
 exact this
theorem sG {t:Nat} (hp:∀i,i≤t+1→0<d i) (h:∀i,i<t→d (i+1)*d (i+1)≤4*(d i*d (i+2))):∀q i,i+q=t→d (i+1)*d t≤4^q*(d (t+1)*d i)
  | 0,i,e=>by
    obtain rfl:i=t:=by omega
    rw[Int.pow_zero];omega
  | q+1,i,e=>by
    have ih:=sG hp h q (i+1) (by omega)
    have h1:=h i (by omega)
    have p1:=hp (i+1) (by omega)
    have p0:=hp i (by omega)
    have pt:=hp t (by omega)
    refine Int.le_of_mul_le_mul_left (a:=d (i+1)) ?_ p1
    have a1:d (i+1)*d (i+1)*d t≤4*(d i*d (i+2))*d t:=Int.mul_le_mul_of_nonneg_right h1 (by omega)
    have a2:4*d i*(d (i+1+1)*d t)≤4*d i*(4^q*(d (t+1)*d (i+1))):=Int.mul_le_mul_of_nonneg_left ih (by omega)
    have e1:d (i+1)*(d (i+1)*d t)=d (i+1)*d (i+1)*d t:=(Int.mul_assoc _ _ _).symm
    have e2:4*(d i*d (i+2))*d t=4*d i*(d (i+1+1)*d t):=by grind
    have e3:d (i+1)*(4^(q+1)*(d (t+1)*d i))=4*d i*(4^q*(d (t+1)*d (i+1))):=by rw[Int.pow_succ];grind
    omega
theorem pow4 {q:Nat} (h:q≤3):(4:Int)^q≤64:=by
 rcases q with _|_|_|_|q
 ·decide
 ·decide
 ·decide
 ·decide
 ·omega
theorem OD.tidy (h:OD n m A d w) {t:Nat} (ht:t<m):∀q,q≤t→∃A',OD n m A' d w∧(∀r,r≠t→A' r=A r)∧Eqv (t+1) (t+1) n A' A∧∀j,t-q≤j→j<t→lo n A' w t j*lo n A' w t j≤d (j+1)*d (j+1)
  | 0,_=>⟨A,h,fun _ _=>rfl,Eqv.refl _ _ _,fun j h1 h2=>absurd h2 (by omega)⟩
  | q+1,hq=>by
    obtain⟨A1,g1,g2,g3,g4⟩:=OD.tidy h ht q (by omega)
    obtain⟨k,hk⟩:∃k,k=t-(q+1):=⟨_,rfl⟩
    have hkt:k<t:=by omega
    refine⟨lsM A1 t k (vR (lo n A1 w t k) (d (k+1))),g1.less hkt _,fun r hr=>?_,(lL (by omega) hkt _).trans g3,fun j h1 h2=>?_⟩
    · rw[show lsM A1 t k (vR (lo n A1 w t k) (d (k+1))) r=A1 r by unfold lsM;rw[if_neg hr]];exact g2 r hr
    · rw[rb]
      rcases Nat.lt_or_ge k j with e|e
      · have z:lo n A1 w k j=0:=g1.ort j k (by omega) e
        rw[z,Int.mul_zero,Int.sub_zero]
        exact g4 j (by omega) h2
      · obtain rfl:j=k:=by omega
        have z:lo n A1 w j j=d (j+1):=g1.nx j (by omega)
        have hd:=h.pos (j+1) (by omega)
        have h4:=de (lo n A1 w t j) hd
        rw[z]
        generalize lo n A1 w t j-vR (lo n A1 w t j) (d (j+1))*d (j+1)=x at*
        generalize d (j+1)=D at*
        have:=Int.mul_nonneg (show 0≤D-x by omega) (show 0≤D+x by omega)
        grind
/-! ### dual vectors, told by their products with a frame -/
def enc (c:Nat→Int):Nat→Nat
 | 0=>0
 | m+1=>(c m+16).toNat+33*enc c m
theorem zBC {c:Nat→Int}:∀{m:Nat},(∀i,i<m → -16≤c i∧c i≤16)→enc c m<33^m
  | 0,_=>show 0<33^0 from Nat.pow_pos (by decide)
  | m+1,h=>by
    have ih:=zBC (c:=c) (m:=m) fun i hi=>h i (by omega)
    have h1:=h m (by omega)
    show (c m+16).toNat+33*enc c m<_
    rw[Nat.pow_succ];omega
theorem sD {c c':Nat→Int}:∀{m:Nat},(∀i,i<m → -16≤c i∧c i≤16)→(∀i,i<m → -16≤c' i∧c' i≤16)→enc c m=enc c' m→∀i,i<m→c i=c' i
  | 0,_,_,_,i,hi=>absurd hi (Nat.not_lt_zero _)
  | m+1,h,h',e,i,hi=>by
    have h1:=h m (by omega)
    have h2:=h' m (by omega)
    have e:(c m+16).toNat+33*enc c m=(c' m+16).toNat+33*enc c' m:=e
    rcases Nat.lt_or_ge i m with g|g
    · exact sD (fun i hi=>h i (by omega)) (fun i hi=>h' i (by omega)) (by omega) i g
    · obtain rfl:i=m:=by omega
      omega
def Cod (n m:Nat) (V:zI) (Dm:Int) (x:Nat) (e:Int):Prop:=∃(c:Nat→Int) (W:Nat→Int),(∀i,i<m → -16≤c i∧c i≤16)∧enc c m=x∧SpZ m n V W∧(∀i,i<m→ip n W (V i)=c i*Dm)∧ip n W W=e*Dm
theorem Cod.uniq {Dm:Int} {x:Nat} {e e':Int} (hD:0<Dm) (h:Cod n m V Dm x e) (h':Cod n m V Dm x e'):e=e':=by
 obtain⟨c,W,h1,h2,h3,h4,h5⟩:=h
 obtain⟨c',W',g1,g2,g3,g4,g5⟩:=h'
 have hc:=sD h1 g1 (h2.trans g2.symm)
 have hz:=jg (h3.comb 1 (-1) g3) fun r hr=>by rw[qp,h4 r hr,g4 r hr,hc r hr];omega
 have hw:∀k,k<n→W k=W' k:=fun k hk=>by have:=hz k hk;omega
 have:e*Dm=e'*Dm:=by rw[←h5,←g5,qY (v:=W) hw,zf n W',qY (v:=W') hw]
 exact Int.eq_of_mul_eq_mul_right (by omega) this
theorem dk : ∀{N:Nat} {l:List Nat},l.Nodup→(∀x∈l,x<N)→l.length≤N
  | 0,l,_,h=>by
    cases l with
    | nil=>exact Nat.le_refl _
    | cons a l=>exact absurd (h a List.mem_cons_self) (Nat.not_lt_zero _)
  | N+1,l,hn,h=>by
    by_cases e:N∈l
    · have h1:=dk (N:=N) (l:=l.erase N) (hn.erase N) fun x hx=>by
        have h2:=(hn.mem_erase_iff).1 hx
        have:=h x h2.2
        omega
      have h3:=List.length_erase_of_mem e
      have h4:=List.length_pos_of_mem e
      omega
    · have h1:=dk (N:=N) hn fun x hx=>by
        have h2:=h x hx
        have h3:x≠N:=fun e2=>e (e2▸hx)
        omega
      omega
structure Frm (n t:Nat) (A:zI) (d:Nat→Int) (V:zI):Prop where
 eqv:Eqv (t+1) (t+1) n V A
 sh:∀i,i≤t→ip n (V i) (V i)*d t≤256*d (t+1)
def PI (n E t:Nat) (A:zI) (d:Nat→Int) (c:Nat):Prop:=
 d t*2^c≤2^E∨∃(V:zI) (us:List Nat),Frm n t A d V∧us.Nodup∧(∀x∈us,x<33^(t+1)∧∃e,d t≤e∧Cod n (t+1) V (d (t+1)) x e)∧c≤E+1+us.length
theorem eJ {a b:Nat} (h:(2:Int)^a≤2^b):a≤b:=by
 have h1:((2^a:Nat):Int)≤((2^b:Nat):Int):=by rw[Int.natCast_pow,Int.natCast_pow];exact h
 exact (Nat.pow_le_pow_iff_right (by decide)).1 (Int.ofNat_le.1 h1)
theorem gA (a:Nat):(0:Int)<2^a:=Int.pow_pos (by decide)
theorem PI.le {E t c:Nat} (h:PI n E t A d c) (hd:0<d t):c≤E+1+33^(t+1):=by
 rcases h with h|⟨V,us,_,h2,h3,h4⟩
 ·have h1:1*(2:Int)^c≤d t*2^c:=Int.mul_le_mul_of_nonneg_right (by omega) (Int.le_of_lt (gA c))
  have:=eJ (a:=c) (b:=E) (by omega)
  exact Nat.le_trans (Nat.le_trans this (Nat.le_succ E)) (Nat.le_add_right _ _)
 ·have:=dk h2 fun x hx=>(h3 x hx).1
  omega
theorem PI.zero {E t:Nat} (h:d t≤2^E):PI n E t A d 0:=.inl (by rw[Int.pow_zero,Int.mul_one];exact h)
theorem PI.congr {E t c:Nat} (h:PI n E t A d c) (e1:d' t=d t) (e2:d' (t+1)=d (t+1)) (e3:Eqv (t+1) (t+1) n A' A):PI n E t A' d' c:=by
 unfold PI
 rw[e1,e2]
 rcases h with h|⟨V,us,h1,h2,h3,h4⟩
 ·exact .inl h
 ·exact .inr ⟨V,us,⟨h1.eqv.trans e3.symm,by rw[e1,e2];exact h1.sh⟩,h2,h3,h4⟩
theorem SpZ.prod {t:Nat} {v z:Nat→Int} (h:SpZ (t+1) n A v) (hz:∀r,r<t→ip n (A r) z=0):∃c:Int,ip n v z=c*ip n (A t) z:=by
 obtain⟨c,hc⟩:=SpZ.last h
 have:=bj hc hz
 rw[qp] at this
 exact⟨c,by grind⟩
theorem sq_16 {c:Int} (h:c*c≤256) : -16≤c∧c≤16:=bD (by decide) h
theorem Frm.code {t:Nat} (hF:Frm n t A d V) (h:OD n m A d w) (h':OD n m A' d' w') (ht:t<m) (he:d' t≤d t) (e2:d' (t+1)=d (t+1)) (e3:Eqv (t+1) (t+1) n A' A):
  ∃x,x<33^(t+1)∧Cod n (t+1) V (d (t+1)) x (d' t):=by
 have hd1:=h.pos (t+1) (by omega)
 have hd0':=h'.pos t (by omega)
 have hVA:Eqv (t+1) (t+1) n V A':=hF.eqv.trans e3.symm
 have hW:SpZ (t+1) n A' (w' t):=((SpZ.more (h'.sp t ht) (Nat.le_succ t)).comb 1 (d' t) (SpZ.row A' (Nat.lt_succ_self t))).congr fun k _=>by grind
 have hsq:=h'.sq ht
 rw[e2] at hsq
 have hex:∀i,i<t+1→∃c:Int,ip n (w' t) (V i)=c*d (t+1):=fun i hi=>by
  obtain⟨c,hc⟩:=SpZ.prod (z:=w' t) (hVA.1 i hi) fun r hr=>by rw[zf];exact h'.ort t r ht hr
  exact⟨c,by rw[zf,hc,zf n (A' t),h'.nx t ht,e2]⟩
 have hch:∃c:Nat→Int,∀i,i<t+1→ip n (w' t) (V i)=c i*d (t+1):=
  ⟨fun i=>if hi:i<t+1 then Classical.choose (hex i hi) else 0,fun i hi=>by
   have:=Classical.choose_spec (hex i hi)
   simp only[dif_pos hi];exact this⟩
 obtain⟨c,hc⟩:=hch
 have hc16:∀i,i<t+1 → -16≤c i∧c i≤16:=fun i hi=>by
  refine sq_16 ?_
  have h1:=pR n (w' t) (V i)
  rw[hc i hi,hsq] at h1
  have h2:=hF.sh i (by omega)
  have h3:=xF n (V i)
  have h4:d' t*ip n (V i) (V i)≤d t*ip n (V i) (V i):=Int.mul_le_mul_of_nonneg_right he h3
  generalize ip n (V i) (V i)=v at*
  generalize d (t+1)=D at*
  have h5:c i*c i*D*D≤256*D*D:=by
   have h6:d' t*v*D≤256*D*D:=Int.mul_le_mul_of_nonneg_right (by rw[Int.mul_comm v] at h2;omega) (by omega)
   have e5:c i*D*(c i*D)=c i*c i*D*D:=by grind
   have e6:d' t*D*v=d' t*v*D:=by grind
   omega
  exact Int.le_of_mul_le_mul_right (Int.le_of_mul_le_mul_right h5 hd1) hd1
 exact⟨enc c (t+1),zBC hc16,c,w' t,hc16,rfl,hW.trans hVA.2,hc,hsq⟩
theorem PI.step {E t c:Nat} {us:List Nat} (hF:Frm n t A d V) (hu:us.Nodup) (hus:∀x∈us,x<33^(t+1)∧∃e,d t≤e∧Cod n (t+1) V (d (t+1)) x e) (hc:c≤E+1+us.length)
  (h:OD n m A d w) (h':OD n m A' d' w') (ht:t<m) (he:d' t<d t) (e2:d' (t+1)=d (t+1)) (e3:Eqv (t+1) (t+1) n A' A):PI n E t A' d' (c+1):=by
 obtain⟨x,hx,hcod⟩:=hF.code h h' ht (by omega) e2 e3
 have hd1:=h.pos (t+1) (by omega)
 have hno:x∉us:=fun hm=>by
  obtain⟨_,e,h1,h2⟩:=hus x hm
  have:=Cod.uniq hd1 h2 hcod
  omega
 refine .inr ⟨V,x::us,⟨hF.eqv.trans e3.symm,fun i hi=>?_⟩,List.nodup_cons.2 ⟨hno,hu⟩,fun y hy=>?_,by rw[List.length_cons];omega⟩
 ·rw[e2]
  have h1:=hF.sh i hi
  have h2:ip n (V i) (V i)*d' t≤ip n (V i) (V i)*d t:=Int.mul_le_mul_of_nonneg_left (by omega) (xF n (V i))
  omega
 ·rw[e2]
  rcases List.mem_cons.1 hy with e|hy
  ·subst e;exact⟨hx,_,Int.le_refl _,hcod⟩
  ·obtain⟨h1,e,h2,h3⟩:=hus y hy
   exact⟨h1,e,by omega,h3⟩
theorem PI.swap {E s c:Nat} (hp:PI n E (s+1) A d c) (h:OD n m A d w) (h':OD n m (swM A s) d' w') (hs:s+1<m) (hs3:s≤2) (he:d' (s+1)<d (s+1)) (e2:d' (s+2)=d (s+2))
  (hr:∀i j,i≤s→j<i→lo n A w i j*lo n A w i j≤d (j+1)*d (j+1)) (hb:d (s+1)<2*d' (s+1)→∀i,i<s+1→d (i+1)*d (i+1)≤4*(d i*d (i+2))):PI n E (s+1) (swM A s) d' (c+1):=by
 have e3:Eqv (s+1+1) (s+1+1) n (swM A s) A:=kl (by omega)
 rcases hp with hp|⟨V,us,h1,h2,h3,h4⟩
 ·rcases Int.lt_or_le (d (s+1)) (2*d' (s+1)) with g|g
  ·have hcE:c≤E:=by
    have hd:=h.pos (s+1) (by omega)
    have h1:1*(2:Int)^c≤d (s+1)*2^c:=Int.mul_le_mul_of_nonneg_right (by omega) (Int.le_of_lt (gA c))
    exact eJ (by omega)
   have hch:=sG (d:=d) (t:=s+1) (fun i hi=>h.pos i (by omega)) (hb g)
   obtain⟨A1,g1,g2,g3,g4⟩:=h.tidy hs (s+1) (Nat.le_refl _)
   have hX:=h.pos (s+1) (by omega)
   have hY:=h.pos (s+2) (by omega)
   refine PI.step (V:=A1) (us:=[]) ⟨g3,fun i hi=>?_⟩ List.nodup_nil (fun x hx=>absurd hx List.not_mem_nil) (by omega) h h' hs he e2 e3
   have hB:∀t,t≤i→d (t+1)*d (s+1)≤64*d (s+2)*d t:=fun t ht=>by
    have h1:=hch (s+1-t) t (by omega)
    have h2:=h.pos t (by omega)
    have h3:(4:Int)^(s+1-t)*(d (s+1+1)*d t)≤64*(d (s+2)*d t):=Int.mul_le_mul_of_nonneg_right (pow4 (by omega)) (Int.le_of_lt (Int.mul_pos hY h2))
    have e:64*d (s+2)*d t=64*(d (s+2)*d t):=Int.mul_assoc _ _ _
    omega
   have h5:=g1.shortB (i:=i) (by omega) (Int.le_of_lt hX) hB fun j hj=>by
    by_cases e:i=s+1
    ·subst e;exact g4 j (by omega) hj
    ·have e4:lo n A1 w i j=lo n A w i j:=by show ip n (w j) (A1 i)=ip n (w j) (A i);rw[g2 i e]
     rw[e4];exact hr i j (by omega) hj
   have h6:((i+1:Nat):Int)*(64*d (s+2))≤4*(64*d (s+2)):=Int.mul_le_mul_of_nonneg_right (by omega) (by omega)
   show _≤256*d (s+1+1)
   have e5:d (s+1+1)=d (s+2):=rfl
   omega
  ·refine .inl ?_
   have h1:2*d' (s+1)*2^c≤d (s+1)*2^c:=Int.mul_le_mul_of_nonneg_right g (Int.le_of_lt (gA c))
   rw[Int.pow_succ]
   have e:d' (s+1)*(2^c*2)=2*d' (s+1)*2^c:=by grind
   omega
 ·exact PI.step h1 h2 h3 h4 h h' hs he e2 e3
/-! ### counters of the places -/
def rd (S:Nat) (cs:Nat→Nat):Nat→Nat
 | 0=>0
 | t+1=>rd S cs t+cs (t+1)*(S+1)^t
theorem yG {S:Nat} {cs:Nat→Nat}:∀{m:Nat},(∀t,1≤t→t≤m→cs t≤S)→rd S cs m+1≤(S+1)^m
  | 0,_=>by show 0+1≤_;rw[Nat.pow_zero];exact Nat.le_refl _
  | m+1,h=>by
    have ih:=yG (m:=m) fun t h1 h2=>h t h1 (by omega)
    have h1:=h (m+1) (by omega) (Nat.le_refl _)
    have h2:cs (m+1)*(S+1)^m≤S*(S+1)^m:=Nat.mul_le_mul_right _ h1
    show rd S cs m+cs (m+1)*(S+1)^m+1≤_
    rw[Nat.pow_succ,Nat.mul_comm ((S+1)^m),Nat.succ_mul]
    omega
theorem yF {S:Nat} {cs:Nat→Nat}:∀{m:Nat},(∀t,1≤t→t≤m→cs t=0)→rd S cs m=0
  | 0,_=>rfl
  | m+1,h=>by
    show rd S cs m+cs (m+1)*(S+1)^m=0
    rw[yF fun t h1 h2=>h t h1 (by omega),h (m+1) (by omega) (Nat.le_refl _),Nat.zero_mul]
theorem rL {S u:Nat} {cs:Nat→Nat} (hu:1≤u) (h:∀t,1≤t→t≤u→cs t≤S):∀{m:Nat},u≤m→rd S cs m+1≤rd S (fun t=>if t<u then 0 else if t=u then cs u+1 else cs t) m
  | 0,h1=>absurd h1 (by omega)
  | m+1,h1=>by
    rcases Nat.lt_or_ge m u with g|g
    · obtain rfl:u=m+1:=by omega
      have h2:=yG (cs:=cs) (m:=m) fun t h3 h4=>h t h3 (by omega)
      show rd S cs m+cs (m+1)*(S+1)^m+1≤rd S _ m+(if m+1<m+1 then 0 else if m+1=m+1 then cs (m+1)+1 else cs (m+1))*(S+1)^m
      rw[yF (cs:=fun t=>if t<m+1 then 0 else if t=m+1 then cs (m+1)+1 else cs t) fun t h3 h4=>if_pos (by omega),if_neg (Nat.lt_irrefl _),if_pos rfl,Nat.succ_mul]
      omega
    · have ih:=rL (m:=m) hu h g
      show rd S cs m+cs (m+1)*(S+1)^m+1≤rd S _ m+(if m+1<u then 0 else if m+1=u then cs u+1 else cs (m+1))*(S+1)^m
      rw[if_neg (by omega),if_neg (by omega)]
      omega
/-! ### all of a reduction -/
theorem zBL {x y:Int} (h:0≤ql x y):y≤x:=by
 rcases Int.lt_or_le x y with g|g
 ·exfalso
  have:=(aL (y-x)).2 (by omega)
  unfold ql at h
  first|omega|(split at h <;> omega)
 ·exact g
theorem half_q {p q D e:Int} (hq:0<q) (h:q*(D*e)<p*(D*D)) (hD:0<D) (hb:D<2*e):q<2*p:=by
 have h1:q*e<p*D:=by
  refine Int.lt_of_mul_lt_mul_left (a:=D) ?_ (by omega)
  have e1:D*(q*e)=q*(D*e):=by grind
  have e2:D*(p*D)=p*(D*D):=by grind
  omega
 have h2:q*D<q*(2*e):=Int.mul_lt_mul_of_pos_left hb hq
 refine Int.lt_of_mul_lt_mul_right (a:=D) ?_ (by omega)
 have e1:q*(2*e)=2*(q*e):=by grind
 have e2:2*p*D=2*(p*D):=by grind
 omega
theorem zDK {p q D X l:Int} (hq:0<q) (hpq:q<2*p) (h:p*(D*D)≤q*(X+l*l)) (hl:4*(l*l)≤D*D):D*D≤4*X:=by
 have h1:q*(D*D)≤2*p*(D*D):=Int.mul_le_mul_of_nonneg_right (by omega) (xE D)
 have h2:q*(D*D)≤q*(2*(X+l*l)):=by
  have e1:q*(2*(X+l*l))=2*(q*(X+l*l)):=by grind
  have e2:2*p*(D*D)=2*(p*(D*D)):=by grind
  omega
 have h3:=Int.le_of_mul_le_mul_left h2 hq
 omega
theorem LR.count {D N p q:Int} {ds0:List Int} {L0 U0:List (List Int)} {c:Nat} {ds:List Int} {L U:List (List Int)} {k E:Nat} (hR:R≤4) (hq:0<q) (hE:D≤2^E) (h0:∀t,t≤R→cf ds0 t≤D) (h:LR n R B D N p q ds0 L0 U0 c ds L U k):
    ∃cs:Nat→Nat,c≤rd (E+1+33^R) cs (R-1)∧∀t,1≤t→t<R→PI n E t (uB R U B) (cf ds) (cs t):=by
  induction h with
  | start=>exact⟨fun _=>0,Nat.zero_le _,fun t _ ht=>PI.zero (by have:=h0 t (by omega);omega)⟩
  | @less c k j ds L U w r rk u uk h hj hjk hk hr hrk hu huk hrR ih=>
    obtain⟨cs,h1,h2⟩:=ih
    refine⟨cs,h1,fun t g1 g2=>(h2 t g1 g2).congr rfl rfl ?_⟩
    rw[bP hu huk]
    rcases Nat.lt_or_ge t k with g|g
    · exact Eqv.of_eq fun i x hi _=>by unfold lsM;rw[if_neg (by omega)]
    · exact lL (by omega) hjk _
  | @swap c s ds L U L' w w' e u0 u1 h hj hs h0' h1 hn he0 he hde hst hl hj' hd ih=>
    obtain⟨cs,h2,h3⟩:=ih
    have hcf:=wc (l:=ds) e (show s+1<ds.length by omega)
    have hod:=hj.li.od
    have hod':=hj'.li.od
    rw[bO h0' h1] at hod'
    have hS:∀t,1≤t→t<R→cs t≤E+1+33^R:=fun t g1 g2=>Nat.le_trans ((h3 t g1 g2).le (hod.pos t (by omega))) (Nat.add_le_add_left (Nat.pow_le_pow_right (by decide) (by omega)) _)
    refine⟨fun t=>if t<s+1 then 0 else if t=s+1 then cs (s+1)+1 else cs t,?_,fun t g1 g2=>?_⟩
    · have:=rL (S:=E+1+33^R) (u:=s+1) (cs:=cs) (by omega) (fun t g1 g2=>hS t g1 (by omega)) (m:=R-1) (by omega)
      omega
    · show PI n E t _ _ (if t<s+1 then 0 else if t=s+1 then cs (s+1)+1 else cs t)
      rw[bO h0' h1]
      rcases Nat.lt_trichotomy t (s+1) with g|g|g
      · rw[if_pos g]
        exact PI.zero (by have:=hj'.hd t (by omega);omega)
      · subst g
        rw[if_neg (Nat.lt_irrefl _),if_pos rfl]
        have hd1:=hod.pos (s+1) (by omega)
        have e1:cf (ds.set (s+1) e) (s+1)=e:=by rw[hcf];exact if_pos rfl
        have e2:cf (ds.set (s+1) e) (s+2)=cf ds (s+2):=by rw[hcf];exact if_neg (by omega)
        refine (h3 (s+1) g1 g2).swap hod hod' hs (by omega) (by omega) e2 (fun i j hi hij=>?_) fun hb i hi=>?_
        · have h5:=hj.red i j (by omega) (by omega) hij
          rw[hj.li.hlo i j (by omega) hij] at h5
          have:=xE (lo n (uB R U B) w i j)
          omega
        · rw[e1] at hb
          have hlt:=sK hn
          rw[←hde] at hlt
          have hqp:=half_q hq hlt hd1 hb
          rcases Nat.lt_or_ge i s with g|g
          · have h5:=hj.red (i+1) i (by omega) (by omega) (by omega)
            exact zDK hq hqp (zBL (hst i (by omega))) h5
          · obtain rfl:i=s:=by omega
            have h5:=hj.sm hs i (Nat.le_refl _) (by omega)
            have h6:cf ds (i+1)*cf ds (i+1)<cf ds (i+1)*(2*e):=Int.mul_lt_mul_of_pos_left hb hd1
            have e6:cf ds (i+1)*(2*e)=2*(cf ds (i+1)*e):=by grind
            omega
      · rw[if_neg (by omega),if_neg (by omega)]
        exact (h3 t g1 g2).congr (by rw[hcf];exact if_neg (by omega)) (by rw[hcf];exact if_neg (by omega)) (kl (by omega))
  | next h hj hk hst ih=>exact ih
theorem LR.small {D N p q:Int} {ds0:List Int} {L0 U0:List (List Int)} {c:Nat} {ds:List Int} {L U:List (List Int)} {k E:Nat} (hR:R≤4) (hq:0<q) (hE:D≤2^E) (hE2:E≤100000) (h0:∀t,t≤R→cf ds0 t≤D) (h:LR n R B D N p q ds0 L0 U0 c ds L U k) (hp:∀t,t≤R→0<cf ds t):c<9223372036854775808:=by
 obtain⟨cs,h1,h2⟩:=h.count hR hq hE h0
 have h3:=yG (S:=E+1+33^R) (cs:=cs) (m:=R-1) fun t g1 g2=>Nat.le_trans ((h2 t g1 (by omega)).le (hp t (by omega))) (Nat.add_le_add_left (Nat.pow_le_pow_right (by decide) (by omega)) _)
 have h4:33^R≤33^4:=Nat.pow_le_pow_right (by decide) hR
 have h5:(E+1+33^R+1)^(R-1)≤1300000^(R-1):=Nat.pow_le_pow_left (by have:(33:Nat)^4=1185921:=(by decide);omega) _
 have h6:1300000^(R-1)≤1300000^3:=Nat.pow_le_pow_right (by decide) (by omega)
 have h7:(1300000:Nat)^3<9223372036854775808:=by decide
 omega
end Go.Ll
namespace Go.Ll
open Go.Dt Go.Hp Go.Pz Go.En Go.Nt Go.Mz
variable {R C K : Nat} {L : List Int} {p q : Int} {c : Nat} {ds : List Int} {ls us : List Row} {k : Nat} {Ml Wl : List Int}
theorem GR.wrow1 (h:GR R C L p q c ds ls us k Ml Wl) {i j:Nat} (hi:i<R-rkL R C L) (hj:j<R):mf R Wl i j=mf R (uL R C L) (rkL R C L+i) j:=by
 rw[h.wl,fZ (by omega) hj,if_pos hi,xH _ hj (zt hi hj)];rfl
theorem GR.wrow2 (h:GR R C L p q c ds ls us k Ml Wl) {i j:Nat} (hi:i<rkL R C L) (hj:j<R):mf R Wl (R-rkL R C L+i) j=uB (rkL R C L) (us.map Prod.snd) (mf R (uL R C L)) i j:=by
 rw[h.wl,fZ (by omega) hj,if_neg (by omega),Nat.add_sub_cancel_left,xH _ hj (zt hi hj),wP]
 obtain⟨r,hr⟩:∃r,us[i]?=some r:=⟨_,List.getElem?_eq_getElem (by rw[h.rs.ul];exact hi)⟩
 refine zS fun t ht=>?_
 rw[lW h.rs.hur hr t ht,xH _ hj (zt ht hj),Nat.zero_add]
 show _=mL (us.map Prod.snd) i t*cf (uL R C L) (t*R+j)
 rw[qg hr]
theorem GR.wspan (h:GR R C L p q c ds ls us k Ml Wl):∀i,i<R→SpZ R R (mf R Wl) (mf R (uL R C L) i):=fun i hi=>by
 have hr:=jS (R:=R) (C:=C) (L:=L)
 rcases Nat.lt_or_ge i (rkL R C L) with g|g
 ·refine ((h.eqv (n':=R) (B':=mf R (uL R C L))).2 i g).trans fun t ht=>?_
  exact (SpZ.row (mf R Wl) (show R-rkL R C L+t<R by omega)).congr fun j hj=>(h.wrow2 ht hj).symm
 ·refine (SpZ.row (mf R Wl) (show i-rkL R C L<R by omega)).congr fun j hj=>?_
  rw[h.wrow1 (by omega) hj,show rkL R C L+(i-rkL R C L)=i by omega]
theorem GR.wdet (h:GR R C L p q c ds ls us k Ml Wl) (hb:Bd L K):(det R (mf R Wl)).natAbs=1:=by
 have hX:∃X:zI,∀i,i<R→∀j,j<R→mf R (uL R C L) i j=sm R fun r=>X i r*mf R Wl r j:=
  ⟨fun i=>if hi:i<R then Classical.choose (h.wspan i hi) else fun _=>0,fun i hi j hj=>by
   have:=Classical.choose_spec (h.wspan i hi) j hj
   simp only[dif_pos hi];exact this⟩
 obtain⟨X,hX⟩:=hX
 have h1:=zHA (R:=R) (C:=C) hb
 rw[zy (B:=iP R X (mf R Wl)) fun i j hi hj=>hX i hi j hj,lZ,Int.natAbs_mul] at h1
 exact Nat.eq_one_of_mul_eq_one_left h1
theorem kH (hb:Bd L K) {i k:Nat} (hi:i<R) (hk:k<C):mf C (hL R C L) i k=sm R fun j=>mf R (uL R C L) i j*mf C L j k:=by
 show cf (hL R C L) (i*C+k)=_
 rw[hL_mul hb (zt hi hk),xH _ hk (zt hi hk),wP];rfl
theorem GR.mul (h:GR R C L p q c ds ls us k Ml Wl) (hb:Bd L K) {i k':Nat} (hi:i<R) (hk:k'<C):mf C Ml i k'=sm R fun j=>mf R Wl i j*mf C L j k':=by
 have hr:=jS (R:=R) (C:=C) (L:=L)
 rcases Nat.lt_or_ge i (R-rkL R C L) with g|g
 ·rw[h.ml,fZ (by omega) hk,if_pos g,xH _ hk (zt g hk)]
  show mf C (hL R C L) (rkL R C L+i) k'=_
  rw[kH hb (by omega) hk]
  exact zS fun j hj=>by rw[h.wrow1 g hj]
 ·obtain⟨t,rfl⟩:∃t,i=R-rkL R C L+t:=⟨i-(R-rkL R C L),by omega⟩
  rw[h.row (by omega) hk,zS (g:=fun j=>sm (rkL R C L) fun r=>mL (us.map Prod.snd) t r*mf R (uL R C L) r j*mf C L j k') fun j hj=>by
   rw[h.wrow2 (by omega) hj]
   show (sm _ fun r=>_)*_=_
   rw[Int.mul_comm,←xf]
   exact zS fun r _=>by grind]
  rw[cm]
  refine zS fun r hr'=>?_
  show mL (us.map Prod.snd) t r*mf C (dy R C L) r k'=_
  rw[fE hr' hk,kH hb (by omega) hk,←xf]
  exact zS fun j _=>by grind
theorem GR.wbd (h:GR R C L p q c ds ls us k Ml Wl) (hb:Bd L K) (hR:R≤4) (hC:C≤4) (hK:K≤280):Bd Wl 2000000:=by
 have hh1:(K+4)*(R+2)^C≤368064:=Nat.le_trans (Nat.mul_le_mul (show K+4≤284 by omega) (Nat.le_trans (Nat.pow_le_pow_left (show R+2≤6 by omega) C) (Nat.pow_le_pow_right (by decide) hC))) (by decide)
 have hU:=(uS (R:=R) (C:=C) hb).mono hh1
 have hSz:=SZ.made (K:=300*(8*K+54)+2000) (fD (R:=R) (C:=C) hb) (mC (Nat.le_trans jS hR) (bE hb hR hC)).2.2
 have hV:=rv h.rs.hur (h.rs.ub hSz)
 rw[h.wl]
 unfold fa
 refine xr fun i k=>?_
 split
 ·exact Nat.le_trans (xr (K:=368064) (fun i k=>hU _) _) (by decide)
 ·refine Nat.le_trans (xr (K:=700000+368064+rkL R C L) (fun i k=>jC (K:=700000) (L:=368064) (fun _=>Nat.le_trans (hV _) (by omega)) (fun _=>xr (fun i k=>hU _) _) _) _) ?_
  have:=jS (R:=R) (C:=C) (L:=L)
  omega
structure RD (n P:Nat) (p q:Int) (A:zI):Prop where
 pos:∀t,t≤P→0<gd n A t
 sm:∀i j,i<P→j<i→4*(lo n A (gw n A) i j*lo n A (gw n A) i j)≤gd n A (j+1)*gd n A (j+1)
 st:∀s,s+1<P→p*(gd n A (s+1)*gd n A (s+1))≤q*(gd n A s*gd n A (s+2)+lo n A (gw n A) (s+1) s*lo n A (gw n A) (s+1) s)
theorem RS.rd {n R:Nat} {B:zI} {D N p q:Int} {ds0:List Int} {L0 U0:List (List Int)} {c:Nat} {ds:List Int} {ls us:List Row} {k j:Nat} (h:RS n R B D N p q ds0 L0 U0 c ds ls us k j) (hk:R≤k):RD n R p q (uB R (us.map Prod.snd) B):=by
 obtain⟨w,hw⟩:=h.ex
 have hod:=hw.li.od
 have hgd:=hod.gd
 have hm:=OD.made n R (uB R (us.map Prod.snd) B) fun t ht=>by rw[hgd t ht];exact hod.pos t ht
 have hlo:∀i j,i<R→j<i→lo n (uB R (us.map Prod.snd) B) (gw n (uB R (us.map Prod.snd) B)) i j=mL (ls.map Prod.snd) i j:=fun i j hi hj=>by
  rw[hw.li.hlo i j hi hj]
  exact qY fun x hx=>((hm.uniq hod R (Nat.le_refl _)).2 j (by omega) x hx)
 refine⟨fun t ht=>by rw[hgd t ht];exact hod.pos t ht,fun i j hi hj=>?_,fun s hs=>?_⟩
 ·rw[hlo i j hi hj,hgd (j+1) (by omega)]
  exact hw.red i j (by omega) hi hj
 ·rw[hlo (s+1) s hs (by omega),hgd (s+1) (by omega),hgd s (by omega),hgd (s+2) (by omega)]
  exact zBL (h.st s (by omega))
theorem szD_2 {n R K:Nat} {A:zI} (h:(List.length (zA (szD n R A).natAbs))≤K):szD n R A≤2^(64*K):=by
 have h2:(szD n R A).natAbs<2^(64*K):=by rw[←zCC];exact vF h
 have h3:((szD n R A).natAbs:Int)≤((2^(64*K):Nat):Int):=Int.ofNat_le.2 (Nat.le_of_lt h2)
 rw[Int.natCast_pow] at h3
 have e:((2:Nat):Int)=2:=rfl
 rw[e] at h3
 omega
theorem GR.swaps (h:GR R C L p q c ds ls us k Ml Wl) (hb:Bd L K) (hR:R≤4) (hC:C≤4) (hK:K≤30) (hq:0<q):c<9223372036854775808:=by
 have hr:=jS (R:=R) (C:=C) (L:=L)
 have h1:=(mC (n:=C) (R:=rkL R C L) (A:=xw R C L) (K:=8*K+54) (Nat.le_trans hr hR) (bE hb hR hC)).1
 refine LR.small (Nat.le_trans hr hR) hq (szD_2 h1) (by omega) (fun t ht=>?_) h.rs.lr fun t ht=>h.rs.dp ht
 have e:cf ((List.range (rkL R C L+1)).map (gd C (xw R C L))) t=gd C (xw R C L) t:=by
  unfold cf
  rw[List.getD_eq_getElem?_getD,List.getElem?_map,List.getElem?_range (by omega)];rfl
 rw[e]
 exact kg (fun t ht=>fD hb t ht) t ht
end Go.Ll
namespace Go.Ll
open Go.Dt Go.Hp Go.Pz Go.En Go.Nt Go.Mz
variable {n : Nat} {A : zI}
def lfQ (n:Nat) (A:zI) (i k j:Nat):Rat:=((xe n A i k j:Int):Rat)/((gd n A j:Int):Rat)
def muQ (n:Nat) (A:zI) (i k:Nat):Rat:=((xe n A i k k:Int):Rat)/((gd n A (k+1):Int):Rat)
def sqQ (n:Nat) (A:zI) (i:Nat):Rat:=((gd n A (i+1):Int):Rat)/((gd n A i:Int):Rat)
def muW (n:Nat) (A:zI) (i k:Nat):List Rat:=(List.range k).map (muQ n A i)
def muL (n:Nat) (A:zI) (m:Nat):List (List Rat):=(List.range m).map fun i=>muW n A i i
def sqL (n:Nat) (A:zI) (m:Nat):List Rat:=(List.range m).map (sqQ n A)
theorem bc (i k:Nat):(muW n A i k).length=k:=by unfold muW;rw[List.length_map,List.length_range]
theorem rV (m:Nat):(muL n A m).length=m:=by unfold muL;rw[List.length_map,List.length_range]
theorem kn (m:Nat):(sqL n A m).length=m:=by unfold sqL;rw[List.length_map,List.length_range]
theorem ma (i k:Nat):muW n A i (k+1)=muW n A i k++[muQ n A i k]:=by unfold muW;rw[List.range_succ,List.map_append];rfl
theorem me (m:Nat):muL n A (m+1)=muL n A m++[muW n A m m]:=by unfold muL;rw[List.range_succ,List.map_append];rfl
theorem mE (m:Nat):sqL n A (m+1)=sqL n A m++[sqQ n A m]:=by unfold sqL;rw[List.range_succ,List.map_append];rfl
theorem muW_at {i k j:Nat} (h:j<k):qf (muW n A i k) j=muQ n A i j:=yL h
theorem zHI {m j:Nat} (h:j<m):qf (sqL n A m) j=sqQ n A j:=yL h
theorem lG {m i:Nat} (h:i<m):(muL n A m)[i]?=some (muW n A i i):=by unfold muL;rw[List.getElem?_map,List.getElem?_range h];rfl
theorem cE {x:Int} (h:0<x):((x:Int):Rat)≠0:=fun e=>by have:=Rat.intCast_eq_zero_iff.1 e;omega
theorem mw (i k:Nat):lfQ n A i k 0=((ip n (A i) (A k):Int):Rat):=by
 unfold lfQ
 rw[ee,show gd n A 0=1 from rfl]
 show _/(1:Rat)=_
 grind
theorem zHH (i:Nat):sqQ n A i=lfQ n A i i i:=by unfold sqQ lfQ;rw[ce]
theorem mx {P:Nat} (hp:∀t,t≤P→0<gd n A t) {i k j:Nat} (hj:j<P):lfQ n A i k (j+1)=lfQ n A i k j-muQ n A i j*muQ n A k j*sqQ n A j:=by
 have h0:=cE (hp j (by omega))
 have h1:=cE (hp (j+1) (by omega))
 have hs:=pZ (n:=n) (A:=A) i k j (by have:=hp j (by omega);omega)
 rw[←cA,←cA] at hs
 have hs2:((gd n A j:Int):Rat)*((xe n A i k (j+1):Int):Rat)=((gd n A (j+1):Int):Rat)*((xe n A i k j:Int):Rat)-((xe n A i j j:Int):Rat)*((xe n A k j j:Int):Rat):=by
  rw[←Rat.intCast_mul,←Rat.intCast_mul,←Rat.intCast_mul,←Rat.intCast_sub,hs]
 unfold lfQ muQ sqQ
 generalize ((gd n A j:Int):Rat)=a at*
 generalize ((gd n A (j+1):Int):Rat)=b at*
 generalize ((xe n A i k (j+1):Int):Rat)=x at*
 generalize ((xe n A i k j:Int):Rat)=y at*
 generalize ((xe n A i j j:Int):Rat)=u at*
 generalize ((xe n A k j j:Int):Rat)=v at*
 grind
theorem muQ_lf {P:Nat} (hp:∀t,t≤P→0<gd n A t) {i k:Nat} (hk:k<P):muQ n A i k=lfQ n A i k k/sqQ n A k:=by
 have h0:=cE (hp k (by omega))
 have h1:=cE (hp (k+1) (by omega))
 unfold lfQ muQ sqQ
 generalize ((gd n A k:Int):Rat)=a at*
 generalize ((gd n A (k+1):Int):Rat)=b at*
 generalize ((xe n A i k k:Int):Rat)=x at*
 grind
theorem zHG {P:Nat} (hp:∀t,t≤P→0<gd n A t) {k:Nat} (hk:k<P):sqQ n A k≠0:=by
 have h0:=cE (hp k (by omega))
 have h1:=cE (hp (k+1) (by omega))
 unfold sqQ
 generalize ((gd n A k:Int):Rat)=a at*
 generalize ((gd n A (k+1):Int):Rat)=b at*
 grind
theorem lA {x y:Int} {K:Nat} (hy:0<y) (h1:(List.length (zA x.natAbs))≤K) (h2:(List.length (zA y.natAbs))≤K):qs (((x:Int):Rat)/((y:Int):Rat))≤K:=by
 rw[←Rat.divInt_eq_div];exact bY (by omega) h1 h2
theorem uG {P:Nat} (hp:∀t,t≤P→0<gd n A t) {K Q:Nat} (hK:∀i k,(List.length (zA (qj n A i k).natAbs))≤K) (hQ:(P+1)*(K+(P+1))+1≤Q) {i k j:Nat} (hj:j≤P):(List.length (zA (xe n A i k j).natAbs))≤Q:=by
 have h1:=fU hK i k j
 have h2:(j+1)*(K+(j+1))≤(P+1)*(K+(P+1)):=Nat.mul_le_mul (by omega) (by omega)
 omega
theorem nP {P:Nat} (hp:∀t,t≤P→0<gd n A t) {K Q:Nat} (hK:∀i k,(List.length (zA (qj n A i k).natAbs))≤K) (hQ:(P+1)*(K+(P+1))+1≤Q) {j:Nat} (hj:j≤P):(List.length (zA (gd n A j).natAbs))≤Q:=by
 rcases j with _|j
 ·show (List.length (zA (Int.natAbs 1)))≤Q
  exact Nat.le_trans (qL (by decide)) (by omega)
 ·rw[←ce];exact uG hp hK hQ (by omega)
theorem ox {P:Nat} (hp:∀t,t≤P→0<gd n A t) {K Q:Nat} (hK:∀i k,(List.length (zA (qj n A i k).natAbs))≤K) (hQ:(P+1)*(K+(P+1))+1≤Q) {i k j:Nat} (hj:j≤P):qs (lfQ n A i k j)≤Q:=lA (hp j hj) (uG hp hK hQ hj) (nP hp hK hQ hj)
theorem xi {P:Nat} (hp:∀t,t≤P→0<gd n A t) {K Q:Nat} (hK:∀i k,(List.length (zA (qj n A i k).natAbs))≤K) (hQ:(P+1)*(K+(P+1))+1≤Q) {i k:Nat} (hk:k<P):qs (muQ n A i k)≤Q:=lA (hp (k+1) hk) (uG hp hK hQ (by omega)) (nP hp hK hQ hk)
theorem cM {P:Nat} (hp:∀t,t≤P→0<gd n A t) {K Q:Nat} (hK:∀i k,(List.length (zA (qj n A i k).natAbs))≤K) (hQ:(P+1)*(K+(P+1))+1≤Q) {k:Nat} (hk:k<P):qs (sqQ n A k)≤Q:=lA (hp k (by omega)) (nP hp hK hQ hk) (nP hp hK hQ (by omega))
/-! ### reduced -/
variable {P : Nat} {p q : Int}
theorem le_num {x:Rat} (h:0≤x):0≤sgn x.num:=by
 have h1:=Rat.num_nonneg.2 h
 rcases Int.lt_or_le (sgn x.num) 0 with g|g
 ·have:=(ar _).1 g
  omega
 ·exact g
theorem fl {x:Rat} (h:0≤x):¬sgn x.num<0:=by have:=le_num h;omega
theorem oM {x:Rat} (h:0 ≤ -x):¬0<sgn x.num:=fun g=>by
 have h1:0<x.num:=(aL _).1 (by omega)
 have h2:=mR.1 h1
 grind
theorem cR {a b:Rat} (ha:0≤a) (hb:0<b):0≤a/b:=by
 rw[Rat.div_def]
 exact Rat.mul_nonneg ha (Rat.le_of_lt (Rat.inv_pos.2 hb))
theorem zET {l d:Int} (hd:0<d) (h:4*(l*l)≤d*d) : -d≤2*l∧2*l≤d:=bD (by omega) (by
  have e:2*l*(2*l)=4*(l*l):=by grind
  omega)
theorem RD.mu (h:RD n P p q A) {i k:Nat} (hi:i<P) (hk:k<i):0≤1-(muQ n A i k+muQ n A i k)∧0≤muQ n A i k+muQ n A i k - -1:=by
 have hd:=h.pos (k+1) (by omega)
 have h1:=h.sm i k hi hk
 rw[←cA] at h1
 obtain⟨h2,h3⟩:=zET hd h1
 have hdr:(0:Rat)<((gd n A (k+1):Int):Rat):=Rat.intCast_pos.2 hd
 have hdn:=cE hd
 unfold muQ
 have e1:(0:Rat)≤((gd n A (k+1)-2*xe n A i k k:Int):Rat):=Rat.intCast_nonneg.2 (by omega)
 have e2:(0:Rat)≤((gd n A (k+1)+2*xe n A i k k:Int):Rat):=Rat.intCast_nonneg.2 (by omega)
 have f1:=cR e1 hdr
 have f2:=cR e2 hdr
 rw[Rat.intCast_sub,Rat.intCast_mul] at f1
 rw[Rat.intCast_add,Rat.intCast_mul] at f2
 have two:((2:Int):Rat)=2:=rfl
 rw[two] at f1 f2
 generalize ((gd n A (k+1):Int):Rat)=d at*
 generalize ((xe n A i k k:Int):Rat)=x at*
 constructor
 ·have e:1-(x/d+x/d)=(d-2*x)/d:=by grind
  rw[e];exact f1
 ·have e:x/d+x/d - -1=(d+2*x)/d:=by grind
  rw[e];exact f2
theorem RD.sq (h:RD n P p q A) (hq:0<q) {s:Nat} (hs:s+1<P):0≤sqQ n A (s+1)-(Rat.divInt p q-muQ n A (s+1) s*muQ n A (s+1) s)*sqQ n A s:=by
 have d0:=h.pos s (by omega)
 have d1:=h.pos (s+1) (by omega)
 have d2:=h.pos (s+2) (by omega)
 have h1:=h.st s hs
 rw[←cA] at h1
 have hq0:=cE hq
 have n0:=cE d0
 have n1:=cE d1
 have hpos:(0:Rat)<((q*(gd n A (s+1)*gd n A s):Int):Rat):=Rat.intCast_pos.2 (Int.mul_pos hq (Int.mul_pos d1 d0))
 have e1:(0:Rat)≤((q*(gd n A s*gd n A (s+2)+xe n A (s+1) s s*xe n A (s+1) s s)-p*(gd n A (s+1)*gd n A (s+1)):Int):Rat):=Rat.intCast_nonneg.2 (by omega)
 have f1:=cR e1 hpos
 rw[Rat.intCast_sub,Rat.intCast_mul,Rat.intCast_mul,Rat.intCast_mul,Rat.intCast_mul,Rat.intCast_add,Rat.intCast_mul,Rat.intCast_mul,Rat.intCast_mul] at f1
 unfold sqQ muQ
 rw[Rat.divInt_eq_div]
 show 0≤((gd n A (s+2):Int):Rat)/((gd n A (s+1):Int):Rat)-_
 generalize ((gd n A s:Int):Rat)=a at*
 generalize ((gd n A (s+1):Int):Rat)=b at*
 generalize ((gd n A (s+2):Int):Rat)=c at*
 generalize ((xe n A (s+1) s s:Int):Rat)=x at*
 generalize ((p:Int):Rat)=u at*
 generalize ((q:Int):Rat)=v at*
 have e:c/b-(u/v-x/b*(x/b))*(b/a)=(v*(a*c+x*x)-u*(b*b))/(v*(b*a)):=by grind
 rw[e];exact f1
theorem zEH {G:List Int} {m t:Nat} (ht:t≤m) (hG:∀i k,i<m→k<m→mf m G i k=qj n A i k):mn (mf m G) (List.range t) (List.range t)=gd n A t:=by
 have e:rl t=(List.range t).reverse:=by
  refine List.ext_getElem? fun i=>?_
  rcases Nat.lt_or_ge i t with g|g
  ·have h1:=il g
   have h2:=gZ (List.range t) (i:=i) (by rw[List.length_range];exact g)
   rw[List.length_range] at h2
   rw[List.getD_eq_getElem?_getD] at h1 h2
   rw[List.getElem?_eq_getElem (by rw[jM];exact g),List.getElem?_eq_getElem (by rw[List.length_reverse,List.length_range];exact g)]
   rw[List.getElem?_eq_getElem (by rw[jM];exact g)] at h1
   rw[List.getElem?_eq_getElem (by rw[List.length_reverse,List.length_range];exact g)] at h2
   have h3:(List.range t).getD (t-1-i) 0=t-1-i:=by rw[List.getD_eq_getElem?_getD,List.getElem?_range (by omega)];rfl
   rw[h3] at h2
   have h1':(rl t)[i]'(by rw[jM];exact g)=t-1-i:=h1
   have h2':(List.range t).reverse[i]'(by rw[List.length_reverse,List.length_range];exact g)=t-1-i:=h2
   rw[h1',h2']
  ·rw[List.getElem?_eq_none (by rw[jM];exact g),List.getElem?_eq_none (by rw[List.length_reverse,List.length_range];exact g)]
 unfold gd
 rw[e,yf _ rfl]
 unfold mn
 rw[List.length_range]
 refine zy fun i j hi hj=>?_
 have gi:∀i,i<t→(List.range t).getD i 0=i:=fun i hi=>by rw[List.getD_eq_getElem?_getD,List.getElem?_range hi];rfl
 show mf m G _ _=qj n A _ _
 rw[gi i hi,gi j hj]
 exact hG i j (by omega) (by omega)
end Go.Ll
namespace Go.Ll
open Go.Dt Go.Hp Go.Pz Go.En Go.Nt Go.Mz
variable {n P : Nat} {A B : zI} {p q : Int}
theorem uy {t i:Nat} (h:i<t):(rl t).getD i 0<t:=by rw[il h];omega
theorem zEZ (h:∀i k,i<P→k<P→qj n A i k=qj n B i k) {t:Nat} (ht:t≤P):gd n A t=gd n B t:=by
 unfold gd mn
 rw[jM]
 exact zy fun i j hi hj=>h _ _ (Nat.lt_of_lt_of_le (uy hi) ht) (Nat.lt_of_lt_of_le (uy hj) ht)
theorem pa (h:∀i k,i<P→k<P→qj n A i k=qj n B i k) {i k j:Nat} (hi:i<P) (hk:k<P) (hj:j≤P):xe n A i k j=xe n B i k j:=by
 unfold xe mn
 have hx:∀(x u:Nat),x<P→u<j+1→(x::rl j).getD u 0<P:=fun x u hx hu=>by
  rcases u with _|u
  ·exact hx
  ·exact Nat.lt_of_lt_of_le (uy (by omega)) hj
 rw[show (k::rl j).length=j+1 by rw[List.length_cons,jM]]
 exact zy fun u v hu hv=>h _ _ (hx k u hk hu) (hx i v hi hv)
theorem RD.congr (hr:RD n P p q A) (h:∀i k,i<P→k<P→qj n A i k=qj n B i k):RD n P p q B:=by
 have hg:∀t,t≤P→gd n B t=gd n A t:=fun t ht=>(zEZ h ht).symm
 refine⟨fun t ht=>by rw[hg t ht];exact hr.pos t ht,fun i j hi hj=>?_,fun s hs=>?_⟩
 ·rw[←cA,←pa h hi (show j<P by omega) (by omega),cA,hg (j+1) (by omega)];exact hr.sm i j hi hj
 ·rw[←cA,←pa h hs (show s<P by omega) (by omega),cA,hg (s+1) (by omega),hg s (by omega),hg (s+2) (by omega)];exact hr.st s hs
theorem ne (l:List Int) (z i:Nat):cf (l.drop z) i=cf l (z+i):=by unfold cf;rw[List.getD_eq_getElem?_getD,List.getElem?_drop,←List.getD_eq_getElem?_getD]
theorem cf_takeZ {l:List Int} {z i:Nat} (h:i<z):cf (l.take z) i=cf l i:=by unfold cf;rw[List.getD_eq_getElem?_getD,List.getElem?_take_of_lt h,←List.getD_eq_getElem?_getD]
variable {R C K : Nat} {L : List Int} {c : Nat} {ds : List Int} {ls us : List Row} {k : Nat} {Ml Wl : List Int}
abbrev tj (R C:Nat) (L Ml:List Int):List Int:=Ml.drop ((R-rkL R C L)*C)
theorem GR.bas (h:GR R C L p q c ds ls us k Ml Wl) {i j:Nat} (hi:i<rkL R C L) (hj:j<C):mf C (tj R C L Ml) i j=uB (rkL R C L) (us.map Prod.snd) (xw R C L) i j:=by
 rw[←h.row hi hj]
 show cf (Ml.drop _) _=cf Ml ((R-rkL R C L+i)*C+j)
 rw[ne,Nat.add_mul,Nat.add_assoc]
theorem GR.blen (h:GR R C L p q c ds ls us k Ml Wl):(tj R C L Ml).length=rkL R C L*C:=by
 have hr:=jS (R:=R) (C:=C) (L:=L)
 rw[List.length_drop,h.len,←Nat.sub_mul]
 congr 1
 omega
theorem GR.bbd (h:GR R C L p q c ds ls us k Ml Wl) (hb:Bd L K) (hR:R≤4) (hC:C≤4):Bd (tj R C L Ml) (32*K+241):=fun i=>by
 rw[ne];exact h.bd hb hR hC _
theorem GR.rd (h:GR R C L p q c ds ls us k Ml Wl):RD C (rkL R C L) p q (mf C (tj R C L Ml)):=
 (h.rs.rd h.hk).congr fun i k hi hk=>by
  show ip C _ _=ip C _ _
  rw[qY (u':=mf C (tj R C L Ml) i) fun j hj=>(h.bas hi hj).symm,zf,qY (u':=mf C (tj R C L Ml) k) fun j hj=>(h.bas hk hj).symm,zf]
theorem zEW {M:List Int} (h:Bd M K) (i k:Nat):(List.length (zA (qj C (mf C M) i k).natAbs))≤K+K+C:=by
 show (List.length (zA (ip C (mf C M i) (mf C M k)).natAbs))≤_
 unfold ip
 rw[←wP]
 exact jC (fun _=>h _) (fun _=>h _) C
theorem GR.ztake (h:GR R C L p q c ds ls us k Ml Wl) (hb:Bd L K) (j:Nat) (hj:j<(R-rkL R C L)*C):cf (Ml.take ((R-rkL R C L)*C)) j=0:=by
 rw[cf_takeZ hj]
 obtain⟨i,t,hi,ht,rfl⟩:=jv hj
 exact h.zero hb hi ht
theorem wrap_small {x:Nat} (h:x<9223372036854775808):IntKind.i64.wrap (x:Int)=(x:Int):=vO (by omega) (by omega)
end Go.Ll
namespace Go.Proofs.YtchbfpcaibfkdaaGreat
open Go.En Go.RowKit
set_option maxRecDepth 10000
set_option maxHeartbeats 4000000
open Go.Nt
open Go.Pz
open Go.Mz
open Go.Hn
open Go.Hp
open Go.Dt
open Go.Ll
theorem io {m n:Bool} {ps qs:List Nat} (hpw:(List.length (zA (val ps)))≤1000) (hqw:(List.length (zA (val qs)))≤1000):Ctr Tryz.prog 9 [zk [isB m,zD ps],zk [isB n,zD qs]] (isB (decide (0<sgn (zv n qs))&&decide (0<ql (4*zv m ps) (zv n qs))&&decide (ql (zv m ps) (zv n qs)<0))):=by
 refine Ctr.i Tryz.func9 rfl Tryz.ntmps9 fun w0 F0=>.w [0,1] rfl (.fact (Has.okZ (Has.t (t:=0) rfl)) fun okz0=>.fact (Has.okZ (Has.t (t:=1) rfl)) fun okz1=>?_)
 have hp4:=qA 4 (zv m ps)
 rw[xt] at hp4
 have h4:(List.length (zA (4:Int).natAbs))≤1:=qL (by decide)
 refine .sr fun k1=>.box (.t rfl) rfl fun b1=>.box (.t rfl) rfl fun b2=>st (.as (.cB false)) rfl (nkQ k1 (.sq fun k2=>.dr (.so [] rfl (.load (.t rfl) (i:=0) rfl zE rfl (Ss':=[_,_]) rfl) (.so [5] rfl (.call (qC (by omega)) (.cons (.t rfl) .nil)) (.so [6] rfl (.gtI (.t rfl) (.cI 0 rfl)) (.m [7] rfl (.s [8] rfl rfl rfl (.T rfl rfl rfl (fun hg=>.call (xC) (.cons (.cI 4 rfl) .nil))) (.s [8] rfl rfl rfl (.T rfl rfl rfl (fun hg=>.load (.t rfl) (i:=1) rfl zE rfl (Ss':=[_,_]) rfl)) ?_))))))))
 refine .s [8,9,10] rfl rfl rfl (.T rfl rfl rfl (fun hg=>have hg':=BP.t hg;OK1.eq (.call (qE (by rw[zB];omega) (by omega)) (.cons (Has.g rfl hg) (.cons (Has.g rfl hg) .nil))) ((show isZ _=isZ (4*zv m ps) from zO (by simp only[zH]))))) ?_
 refine .s [8] rfl rfl rfl (.T rfl rfl rfl (fun hg=>.load (.t rfl) (i:=0) rfl zE rfl (Ss':=[_,_]) rfl)) ?_
 refine .s [8,11,12] rfl rfl rfl (.T rfl rfl rfl (fun hg=>have hg':=BP.t hg;OK1.eq (.call (jm (by rw[zB];omega) (by omega)) (.cons (Has.g rfl hg) (.cons (Has.g rfl hg) .nil))) ((show isI _=isI (ql (4*zv m ps) (zv n qs)) from zF (by rw[zH]))))) ?_
 refine .s [8,13] rfl rfl rfl (.T rfl rfl rfl (fun hg=>.gtI (Has.g rfl hg) (.cI 0 rfl))) (.so [8,14] rfl (.pickAnd (.t rfl) (fun h=>Has.g rfl h)) (.m [15] rfl (.s [16] rfl rfl rfl (.T rfl rfl rfl (fun hg=>.load (.t rfl) (i:=1) rfl zE rfl (Ss':=[_,_]) rfl)) (.s [16] rfl rfl rfl (.T rfl rfl rfl (fun hg=>.load (.t rfl) (i:=0) rfl zE rfl (Ss':=[_,_]) rfl)) (.fn (n:=14) zW (.w [4,16,17,18] rfl ?_))))))
 refine stT rfl rfl (fun hg=>have hg':=BP.t hg;OK1.call (jm (by omega) (by omega)) (.cons (Has.g rfl hg) (.cons (Has.g rfl hg) .nil))) rfl ?_
 refine stT rfl rfl (fun hg=>.ltI (Has.g rfl hg) (.cI 0 rfl)) rfl (st (.pickAnd (.t rfl) (fun h=>Has.g rfl h)) rfl (stM rfl (nkQ k2 (.w [4] rfl (.ret (rt1 (.inl rfl) Tryz.results9 rfl (.tmp (Has.t' rfl ?_) .nil)))))))
 all_goals (rfl)
theorem oS {P K t:Nat} {G:List Int} (hx:Bd G K) (hK:K≤100000) (hP:P≤16) (hl:G.length=P*P) (ht:t≤P):Ctr Tryz.prog 41 [isM (P:Int) (P:Int) (G.map nz),isI (t:Int)] (isZ (mn (mf P G) (List.range t) (List.range t))):=by
 refine Ctr.i Tryz.func41 rfl Tryz.ntmps41 fun w0 F0=>.w [0,1] rfl (.fact (Has.rngI (Has.t (t:=1) rfl)) fun lt1=>?_)
 have hGn:(G.map nz).length=P*P:=by rw[List.length_map];exact hl
 have hxb:Bd (zG (G.map nz)) K:=by rw[zQ];exact hx
 have hrt:(List.range t).length=t:=List.length_range
 refine .sr fun k1=>.box (.t rfl) rfl fun b1=>.alloc [isB false,SlM isU []] zK (fun _ _=>⟨rfl,nilM _ _,trivial⟩) rfl fun b2=>nkQ k1 (.sr fun k2=>.cv (Cv.grow0 (α:=Int) isI) (st (.as (Has.cGr (α:=Int))) rfl (nkQ k2 (.sq fun k3=>.sr fun k4=>st (.as (.cI 0 rfl)) rfl (nkQ k4 (.block (.loopF [1,2,4] (fun (z:{ z:Nat×Gr Int//z.1≤t })=>match z with|⟨(i,g),hI⟩=>[(6,isI (i:Int)),(5,ze g (pv (List.range i)).length)]) (fun M=>fun (z:{ z:Nat×Gr Int//z.1≤t })=>match z with|⟨(i,g),hI⟩=>[grM isI g (pv (List.range i)),(some b2,zC [isB false,SlM isU []]),(some b1,zC [isI (P:Int),isI (P:Int),SlK 2 zc (G.map nz)])]) (fun (z:{ z:Nat×Gr Int//z.1≤t })=>match z with|⟨(i,g),hI⟩=>t-i) (⟨(0,Gr.nil),Nat.zero_le _⟩) (Cv.mem (.c 6 rfl ?_ (.c 5 rfl ?_ (.l [1,2,4] rfl))) ?_) ?_)))))))
 ·rfl
 ·rfl
 ·rfl
 rintro⟨⟨i,g⟩,hI⟩ K5 hK5
 refine .w [6,5,1,2,4] rfl (.memEq (M':=[grM isI g (pv (List.range i)),(some b2,zC [isB false,SlM isU []]),(some b1,zC [isI (P:Int),isI (P:Int),SlK 2 zc (G.map nz)])]) rfl ?_)
 simp only[] at hI
 refine .sq fun k6=>.sr fun k7=>stM rfl (stM rfl (st (.ltI (.t rfl) (.t rfl)) rfl (nkQ k7 (.cd rfl (fun hc1=>?_) (fun hc1=>?_)))))
 ·refine .skip (.nk k6 (.sq fun k8=>.block (.region (stM rfl (stM rfl (st (.buildS [isI 0] wr ty3 bz (fun _ _=>⟨⟨rfl,by decide,by decide⟩,trivial⟩) rfl rfl (.cons (.t rfl) rfl rfl rfl .nil) rfl (S:=SlM isI [(i:Int)]) rfl) rfl (.appendG (f:=isI) (u:=0) wr ty3 bz (fun _ _=>⟨⟨rfl,by decide,by decide⟩,trivial⟩) (fun _=>inferInstance) by3 (.t rfl) (i:=0) rfl (.t rfl) (by simp only[List.length_singleton,ju,List.length_range];omega) (by simp) rfl fun gr1=>?_)))))))
  refine .memEq (M':=[grM _ _ _,_,_]) rfl (stM rfl (nl (.bln (.nk k8 (.region (stM rfl (st (.addI (.t rfl) (.cI 1 rfl) (by first|omega|assumption) (by first|omega|assumption)) rfl (stM rfl (nl (.thn ?_))))))))))
  refine hK5 (⟨(i+1,gr1),by show i+1≤t;omega⟩) _ _ ?_ (Cv.mem (.c 6 rfl ?_ (.c 5 rfl ?_ (.l [1,2,4] rfl))) ?_)
  ·show t-(i+1)<t-i;omega
  ·exact zF (by omega)
  ·exact jY (by rw[List.range_succ,lC,List.length_append])
  ·exact gY (by rw[List.range_succ,lC])
 ·obtain rfl:i=t:=(by omega)
  refine .exit (.the (.the (.blh (.nk k3 (.w [2,4,5] rfl (.sq fun k9=>.cv (Cv.freezeG (t:=5) (i:=0) (ys:=pv (List.range i)) rfl rfl rfl) (.memEq (M':=[_,_]) rfl (.w [2,4,5] rfl (.region (st (.load (.t rfl) (i:=1) rfl zL rfl (Ss':=[_,_,_]) rfl) rfl (stM rfl (stM rfl (st (.eq (.call (fv (rs:=List.range i) (cs:=List.range i) (by omega) (by omega) hGn (fun x hx=>Nat.lt_of_lt_of_le (List.mem_range.1 hx) ht) (fun x hx=>Nat.lt_of_lt_of_le (List.mem_range.1 hx) ht) (by omega) (by omega)) (.cons (.t rfl) (.cons (.t rfl) (.cons (.t rfl) .nil)))) ((show _=isM (i:Int) (i:Int) (qx (i*i) i (ptG P (G.map nz) (List.range i) (List.range i))) from by rw[hrt]))) rfl (st (.eq (.call (dg (K:=K) (zGE hxb _) (by omega) (by omega) (xP _ _ _)) (.cons (.t rfl) .nil)) ((show _=isZ (mn (mf P G) (List.range i) (List.range i)) from zO (by rw[zGD hrt,zQ])))) rfl (.store (.t rfl) (.t rfl) (i:=0) rfl zE rfl rfl (Ss':=[_,_]) rfl (M':=[(some _,zC [_,_]),_]) rfl (nkQ k9 (.w [4] rfl (.ret (rt1 (.inl rfl) Tryz.results41 rfl (.cell rfl (i:=0) rfl zE rfl ?_ .nil))))))))))))))))))))
  all_goals (rfl)
theorem yA {P K:Nat} {G:List Int} (hx:Bd G K) (hK:K≤10000) (hP:P≤16) (hl:G.length=P*P) (hs:∀i k,i<P→k<P→cf G (i*P+k)=cf G (k*P+i)) (hpos:∀t,t≤P→0<mn (mf P G) (List.range t) (List.range t)):Ctr Tryz.prog 17 [isM (P:Int) (P:Int) (G.map nz)] (isB true):=by
 refine Ctr.i Tryz.func17 rfl Tryz.ntmps17 fun w0 F0=>.w [0] rfl ?_
 have hGn:(G.map nz).length=P*P:=by rw[List.length_map];exact hl
 have hPP:=qT (show P≤64 by omega) (show P≤64 by omega)
 have hxb:Bd (zG (G.map nz)) K:=by rw[zQ];exact hx
 refine .sr fun k1=>.box (.t rfl) rfl fun b1=>st (.as (.cB false)) rfl (nkQ k1 (.sq fun k2=>.sr fun k3=>st (.as (.cI 0 rfl)) rfl (nkQ k3 (.block (.loopF [1] (fun (z:{ i:Nat//i≤P })=>match z with|⟨i,hi⟩=>[(3,isI (i:Int))]) (fun M=>fun (z:{ i:Nat//i≤P })=>match z with|⟨i,hi⟩=>M) (fun (z:{ i:Nat//i≤P })=>match z with|⟨i,hi⟩=>P-i) (⟨0,Nat.zero_le _⟩) (Cv.mem (.c 3 rfl ?_ (.l [1] rfl)) ?_) ?_)))))
 ·rfl
 ·rfl
 rintro⟨i,hi⟩ K4 hK4
 refine .w [3,1] rfl (.sq fun k5=>.sr fun k6=>stM rfl (st (.fieldAddr (.t rfl) zY ty3) rfl (st (.load1 (.t rfl) (i:=0) rfl ty3 rfl) rfl (st (.ltI (.t rfl) (.t rfl)) rfl (nkQ k6 (.cd rfl (fun hc1=>?_) (fun hc1=>?_)))))))
 ·have hpo:=hpos (i+1) (by omega)
  have hle:=zGF (C:=P) hxb (List.range (i+1)) (List.range (i+1))
  rw[zQ,List.length_range] at hle
  have hlw:(List.length (zA (mn (mf P G) (List.range (i+1)) (List.range (i+1))).natAbs))≤1000000:=Nat.le_trans hle (by have:(i+1)*(K+(i+1))≤16*(10000+16):=Nat.mul_le_mul (by omega) (by omega);omega)
  refine .skip (.nk k5 (.sq fun k7=>.block (.sq fun k8=>.sr fun k9=>st (.as (.cI 0 rfl)) rfl (nkQ k9 (.block (.loopF [1,3,5,6,7,8] (fun (z:{ k:Nat//k≤i })=>match z with|⟨k,hk⟩=>[(4,isI (k:Int))]) (fun M=>fun (z:{ k:Nat//k≤i })=>match z with|⟨k,hk⟩=>M) (fun (z:{ k:Nat//k≤i })=>match z with|⟨k,hk⟩=>i-k) (⟨0,Nat.zero_le _⟩) (Cv.mem (.c 4 rfl ?_ (.l [1,3,5,6,7,8] rfl)) ?_) ?_))))))
  ·rfl
  ·rfl
  rintro⟨k,hk⟩ K10 hK10
  refine .w [4,1,3,5,6,7,8] rfl (.sq fun k11=>.sr fun k12=>stM rfl (stM rfl (st (.ltI (.t rfl) (.t rfl)) rfl (nkQ k12 (.cd rfl (fun hc2=>?_) (fun hc2=>?_))))))
  ·have hp1:=zt (show i<P by omega) (show k<P by omega)
   have hp2:=zt (show k<P by omega) (show i<P by omega)
   have hw1:=hx (i*P+k)
   have hw2:=hx (k*P+i)
   refine .skip (.nk k11 (.sq fun k13=>.block (.sq fun k14=>.dr (.so [] rfl (.load (.t rfl) (i:=0) rfl zL rfl (Ss':=[_,_,_]) rfl) (.m [] rfl (.m [] rfl (.so [16,17,18] rfl (.eq (.call (vS (i:=i) (k:=k) (by omega) (by omega)) (.cons (.t rfl) (.cons (.t rfl) (.cons (.t rfl) .nil)))) ((show _=zk (zc (nz (cf G (i*P+k)))) from congrArg zk (congrArg zc (fK _ _))))) (.so [] rfl (.load (.t rfl) (i:=0) rfl zL rfl (Ss':=[_,_,_]) rfl) (.m [] rfl (.m [] rfl (.fn (n:=7) zW (.w [1,3,5,6,7,8,4,11,12,13,16,17,18,19,20,21,22] rfl (st (.eq (.call (vS (i:=k) (k:=i) (by omega) (by omega)) (.cons (.t rfl) (.cons (.t rfl) (.cons (.t rfl) .nil)))) ((show _=zk (zc (nz (cf G (k*P+i)))) from congrArg zk (congrArg zc (fK _ _))))) rfl (st (.eq (.call (bK (by rw[zB];omega) (by rw[zB];omega)) (.cons (.t rfl) (.cons (.t rfl) .nil))) ((show isB _=isB true from zl (decide_eq_true (by rw[qN,qN];exact hs i k (by omega) (by omega)))))) rfl ?_))))))))))))))
   refine st (.not (.t rfl)) rfl (nkQ k14 (.cd rfl (fun hc3=>?_) (fun hc3=>?_)))
   ·exfalso;simp at hc3
   ·refine .skip (.bln (.nk k13 (.region (stM rfl (st (.addI (.t rfl) (.cI 1 rfl) (by first|omega|assumption) (by first|omega|assumption)) rfl (stM rfl (nl (.thn (hK10 (⟨k+1,by omega⟩) _ _ ?_ (Cv.mem (.c 4 rfl ?_ (.l [1,3,5,6,7,8] rfl)) ?_))))))))))
    ·show i-(k+1)<i-k;omega
    ·exact zF (by omega)
    ·rfl
  ·refine .exit (.the (.the (.blh (.nk k8 (.sr fun k15=>st (.load (.t rfl) (i:=0) rfl zL rfl (Ss':=[_,_,_]) rfl) rfl (stM rfl (st (.eq (.addI (.t rfl) (.cI 1 rfl) (by first|omega|assumption) (by first|omega|assumption)) ((show isI _=isI ((i+1:Nat):Int) from zF (by omega)))) rfl (st (.call (oS hx (by omega) hP hl (by omega)) (.cons (.t rfl) (.cons (.t rfl) .nil))) rfl (st (.eq (.call (qC (by rw[zB];omega)) (.cons (.t rfl) .nil)) ((show isI _=isI (sgn (mn (mf P G) (List.range (i+1)) (List.range (i+1)))) from zF (by rw[zH])))) rfl ?_)))))))))
   refine st (.leI (.t rfl) (.cI 0 rfl)) rfl (nkQ k15 (.cd rfl (fun hc4=>?_) (fun hc4=>?_)))
   ·exfalso;have:=(aL _).2 hpo;omega
   ·refine .skip (.bln (.nk k7 (.region (stM rfl (st (.addI (.t rfl) (.cI 1 rfl) (by first|omega|assumption) (by first|omega|assumption)) rfl (stM rfl (nl (.thn (hK4 (⟨i+1,by omega⟩) _ _ ?_ (Cv.mem (.c 3 rfl ?_ (.l [1] rfl)) ?_))))))))))
    ·show P-(i+1)<P-i;omega
    ·exact zF (by omega)
    ·rfl
 ·refine .exit (.the (.the (.blh (.nk k2 (.cv (Cv.wk .nil) (.sr fun k16=>st (.as (.cB true)) rfl (nkQ k16 (.ret (rt1 (.inl rfl) Tryz.results17 rfl (.tmp (Has.t' rfl ?_) .nil))))))))))
  all_goals (rfl)
theorem oR {p q:Rat} {A B:Nat} (hp:qs p≤A) (hq:qs q≤B) (hAB:A+B≤1000000000) (h0:q≠0):Ctr Tryz.prog 77 [isQ p,isQ q] (isQ (p/q)):=by
 refine Ctr.i Tryz.func77 rfl Tryz.ntmps77 fun w0 F0=>.w [0,1] rfl (.sr fun k1=>.box (.t rfl) rfl fun b1=>.box (.t rfl) rfl fun b2=>.alloc [isB false,SlM isU [],isB false,SlM isU []] qu (fun _ _=>⟨rfl,nilM _ _,rfl,nilM _ _,trivial⟩) rfl fun b3=>nkQ k1 (.sr fun k2=>st (.load (.t rfl) (i:=2) rfl qI rfl (Ss':=[_,_,_,_]) rfl) rfl (st (.load (.t rfl) (i:=1) rfl qI rfl (Ss':=[_,_,_,_]) rfl) rfl (st (.call (zDJ hp hq hAB h0) (.cons (.t rfl) (.cons (.t rfl) .nil))) rfl (stM rfl (st (.ext (.t rfl) rfl) rfl (st (.ext (.t rfl) rfl) rfl (.alloc [isB false,SlM isU [],isB false,SlM isU []] qu (fun _ _=>⟨rfl,nilM _ _,rfl,nilM _ _,trivial⟩) rfl fun b4=>.store (.t rfl) (.t rfl) (i:=0) rfl qI rfl rfl (Ss':=[_,_,_,_]) rfl (M':=[(some _,zC [_,_,_,_]),_,_,_]) rfl (stM rfl (nkQ k2 (.w [4,5] rfl (.sr fun k3=>st (.load (.t rfl) (i:=0) rfl qI rfl (Ss':=[_,_,_,_]) rfl) rfl (.store (.t rfl) (.t rfl) (i:=1) rfl qI rfl rfl (Ss':=[_,_,_,_]) rfl (M':=[_,(some _,zC [_,_,_,_]),_,_]) rfl (nkQ k3 (.ret (rt1 (.inl rfl) Tryz.results77 rfl (.cell rfl (i:=1) rfl qI rfl ?_ .nil)))))))))))))))))
 all_goals (rfl)
end Go.Proofs.YtchbfpcaibfkdaaGreat
namespace Go.Proofs.YtchbfpcaibfkdaaGreat
open Go.En Go.RowKit
set_option maxRecDepth 10000
set_option maxHeartbeats 4000000
open Go.Nt
open Go.Pz
open Go.Mz
open Go.Hn
open Go.Hp
open Go.Dt
open Go.Ll
open Go.Ll
theorem gH {n i k j:Nat} {A:zI} (h:j<k):((muW n A i k).map nq)[j]?=some (nq (muQ n A i j)):=by rw[getQ (by rw[bc];exact h),muW_at h]
theorem fe {n m j:Nat} {A:zI} (h:j<m):((sqL n A m).map nq)[j]?=some (nq (sqQ n A j)):=by rw[getQ (by rw[kn];exact h),zHI h]
theorem zBY {α:Type} {l:List α} {a:α} {k:Nat} (h:l.length=k):(l++[a])[k]?=some a:=by subst h;exact List.getElem?_concat_length
theorem lI {b:Nat} {x y:Rat} {r:Mem} (h:x=y):((some b,zC (rc (nq x)))::r:Mem)=(some b,zC (rc (nq y)))::r:=by subst h;rfl
theorem zEA {b:Nat} {x y:Rat} {g:Gr ((Bool×List Nat)×Bool×List Nat)} {a c:List ((Bool×List Nat)×Bool×List Nat)} {r:Mem} (h:x=y) (h2:a=c):((some b,zC (rc (nq x)))::zj rc g a::r:Mem)=(some b,zC (rc (nq y)))::zj rc g c::r:=by subst h;subst h2;rfl
theorem zEB {b n1 n2:Nat} {g1:Gr ((Bool×List Nat)×Bool×List Nat)} {g0:Gr (List Rat)} {a a':List ((Bool×List Nat)×Bool×List Nat)} {c c':List (List Rat)} {r:Mem} (h:a=a') (h2:c=c') (h3:n1=c'.length) (h4:n2=a'.length):(zj rc g1 a::grM ah g0 c::(some b,zC [ze g0 n1,ze g1 n2])::r:Mem)=zj rc g1 a'::grM ah g0 c'::(some b,zC [ze g0 c'.length,ze g1 a'.length])::r:=by subst h;subst h2;subst h3;subst h4;rfl
theorem uz {n0 P K Q:Nat} {A:zI} {G:List Int} (hP:P≤16) (hl:G.length=P*P) (hG:∀i k,i<P→k<P→cf G (i*P+k)=ip n0 (A i) (A k)) (hp:∀t,t≤P→0<Dt.gd n0 A t) (hK:∀i k,(List.length (zA (qj n0 A i k).natAbs))≤K) (hQ:(P+1)*(K+(P+1))+1≤Q) (hQ2:Q≤1000000):Ctr Tryz.prog 42 [isM (P:Int) (P:Int) (G.map nz)] (zk [SlM ah (muL n0 A P),ah (sqL n0 A P)]):=by
 refine Ctr.i Tryz.func42 rfl Tryz.ntmps42 fun w0 F0=>.w [0] rfl ?_
 have hPP:=qT (show P≤64 by omega) (show P≤64 by omega)
 have hGn:(G.map nz).length=P*P:=by rw[List.length_map];exact hl
 have hgw:∀i k,i<P→k<P→(List.length (zA (cf G (i*P+k)).natAbs))≤Q:=fun i k hi hk=>by have h1:=hK i k;rw[show qj n0 A i k=cf G (i*P+k) from (hG i k hi hk).symm] at h1;have:1*(K+(P+1))≤(P+1)*(K+(P+1)):=Nat.mul_le_mul_right _ (by omega);omega
 refine .sr fun k1=>.box (.t rfl) rfl fun b1=>.alloc [zi,zi] oB (fun _ _=>⟨rfl,rfl,trivial⟩) rfl fun b2=>nkQ k1 (.sr fun k2=>.alloc [zi,zi] oB (fun _ _=>⟨rfl,rfl,trivial⟩) rfl fun b3=>nkQ k2 (.sq fun k3=>.sq fun k4=>.cv (Cv.growF (List Rat) (i:=0) (o:=0) rfl rfl rfl) (.memEq (M':=[grM ah Gr.nil [],_,_,_]) rfl (.cv (Cv.growF ((Bool×List Nat)×Bool×List Nat) (i:=1) (o:=1) rfl rfl rfl) (.memEq (M':=[zj rc Gr.nil [],_,_,_,_]) rfl (.region (st (.as (.cI 0 rfl)) rfl (nkQ k4 (.block (.loopF [1,2,3] (fun (z:{ z:Nat×Gr (List Rat)×Gr ((Bool×List Nat)×Bool×List Nat)//z.1≤P })=>match z with|⟨(i,g0,g1),hI⟩=>[(4,isI (i:Int))]) (fun M=>fun (z:{ z:Nat×Gr (List Rat)×Gr ((Bool×List Nat)×Bool×List Nat)//z.1≤P })=>match z with|⟨(i,g0,g1),hI⟩=>[zj rc g1 ((sqL n0 A i).map nq),grM ah g0 (muL n0 A i),(some b3,zC [ze g0 (muL n0 A i).length,ze g1 ((sqL n0 A i).map nq).length]),(some b2,zC [zi,zi]),(some b1,zC [isI (P:Int),isI (P:Int),SlK 2 zc (G.map nz)])]) (fun (z:{ z:Nat×Gr (List Rat)×Gr ((Bool×List Nat)×Bool×List Nat)//z.1≤P })=>match z with|⟨(i,g0,g1),hI⟩=>P-i) (⟨(0,Gr.nil,Gr.nil),Nat.zero_le _⟩) (Cv.mem (.c 4 rfl ?_ (.l [1,2,3] rfl)) ?_) ?_))))))))))
 ·rfl
 ·rfl
 rintro⟨⟨i,g0,g1⟩,hI⟩ K5 hK5
 refine .w [4,1,2,3] rfl (.memEq (M':=[zj rc g1 ((sqL n0 A i).map nq),grM ah g0 (muL n0 A i),(some b3,zC [ze g0 (muL n0 A i).length,ze g1 ((sqL n0 A i).map nq).length]),(some b2,zC [zi,zi]),(some b1,zC [isI (P:Int),isI (P:Int),SlK 2 zc (G.map nz)])]) rfl ?_)
 simp only[] at hI
 have hml:=rV (n:=n0) (A:=A) i
 have hsl:((sqL n0 A i).map nq).length=i:=by rw[List.length_map,kn]
 refine .sq fun k6=>.sr fun k7=>stM rfl (st (.fieldAddr (.t rfl) zY ty3) rfl (st (.load1 (.t rfl) (i:=4) rfl ty3 rfl) rfl (st (.ltI (.t rfl) (.t rfl)) rfl (nkQ k7 (.cd rfl (fun hc1=>?_) (fun hc1=>?_))))))
 ·have hp1:=zt (show i<P by omega) (show i<P by omega)
  have hg1:=hgw i i (by omega) (by omega)
  refine .skip (.nk k6 (.sq fun k8=>.block (.sr fun k9=>.cv (Cv.grow0K (α:=(Bool×List Nat)×Bool×List Nat) rc) (st (.as (Has.cGr (α:=(Bool×List Nat)×Bool×List Nat))) rfl (nkQ k9 (.sr fun k10=>st (.load (.t rfl) (i:=5) rfl zL rfl (Ss':=[_,_,_]) rfl) rfl (stM rfl (stM rfl (st (.eq (.call (vS (i:=i) (k:=i) (by omega) (by omega)) (.cons (.t rfl) (.cons (.t rfl) (.cons (.t rfl) .nil)))) ((show _=zk (zc (nz (cf G (i*P+i)))) from congrArg zk (congrArg zc (fK _ _))))) rfl (st (.eq (.call (oX (by rw[zB];omega)) (.cons (.t rfl) .nil)) ((show _=isQ ((ip n0 (A i) (A i):Int):Rat) from cO (by rw[qN,hG i i (by omega) (by omega)])))) rfl ?_))))))))))
  refine .alloc [isB false,SlM isU [],isB false,SlM isU []] qu (fun _ _=>⟨rfl,nilM _ _,rfl,nilM _ _,trivial⟩) rfl fun b4=>.store (.t rfl) (.t rfl) (i:=0) rfl qI rfl rfl (Ss':=[_,_,_,_]) rfl (M':=[(some _,zC [_,_,_,_]),_,_,_,_,_,_]) rfl (nkQ k10 (.sq fun k11=>.sr fun k12=>st (.as (.cI 0 rfl)) rfl (nkQ k12 (.block (.loopF [1,2,3,4,10,11,12,13,16,17,18,19,20,6] (fun (z:{ z:Nat×Gr ((Bool×List Nat)×Bool×List Nat)//z.1≤i })=>match z with|⟨(k,g2),hk⟩=>[(7,isI (k:Int)),(5,ze g2 ((muW n0 A i k).map nq).length)]) (fun M=>fun (z:{ z:Nat×Gr ((Bool×List Nat)×Bool×List Nat)//z.1≤i })=>match z with|⟨(k,g2),hk⟩=>[(some b4,zC (rc (nq (lfQ n0 A i i k)))),zj rc g2 ((muW n0 A i k).map nq),zj rc g1 ((sqL n0 A i).map nq),grM ah g0 (muL n0 A i),(some b3,zC [ze g0 (muL n0 A i).length,ze g1 ((sqL n0 A i).map nq).length]),(some b2,zC [zi,zi]),(some b1,zC [isI (P:Int),isI (P:Int),SlK 2 zc (G.map nz)])]) (fun (z:{ z:Nat×Gr ((Bool×List Nat)×Bool×List Nat)//z.1≤i })=>match z with|⟨(k,g2),hk⟩=>i-k) (⟨(0,Gr.nil),Nat.zero_le _⟩) (Cv.mem (.c 7 rfl ?_ (.c 5 rfl ?_ (.l [1,2,3,4,10,11,12,13,16,17,18,19,20,6] rfl))) ?_) ?_)))))
  ·rfl
  ·rfl
  ·exact lI (by rw[mw])
  rintro⟨⟨k,g2⟩,hk⟩ K13 hK13
  refine .w [7,5,1,2,3,4,10,11,12,13,16,17,18,19,20,6] rfl (.memEq (M':=[(some b4,zC (rc (nq (lfQ n0 A i i k)))),zj rc g2 ((muW n0 A i k).map nq),zj rc g1 ((sqL n0 A i).map nq),grM ah g0 (muL n0 A i),(some b3,zC [ze g0 (muL n0 A i).length,ze g1 ((sqL n0 A i).map nq).length]),(some b2,zC [zi,zi]),(some b1,zC [isI (P:Int),isI (P:Int),SlK 2 zc (G.map nz)])]) rfl ?_)
  simp only[] at hk
  have hwl:((muW n0 A i k).map nq).length=k:=by rw[List.length_map,bc]
  refine .sq fun k14=>.sr fun k15=>stM rfl (stM rfl (st (.ltI (.t rfl) (.t rfl)) rfl (nkQ k15 (.cd rfl (fun hc2=>?_) (fun hc2=>?_)))))
  ·have hwk:((muW n0 A k k).map nq).length=k:=by rw[List.length_map,bc]
   have hp2:=zt (show i<P by omega) (show k<P by omega)
   have hg2:=hgw i k (by omega) (by omega)
   refine .skip (.nk k14 (.sq fun k16=>.block (.sr fun k17=>st (.load (.t rfl) (i:=6) rfl zL rfl (Ss':=[_,_,_]) rfl) rfl (stM rfl (stM rfl (st (.eq (.call (vS (i:=i) (k:=k) (by omega) (by omega)) (.cons (.t rfl) (.cons (.t rfl) (.cons (.t rfl) .nil)))) ((show _=zk (zc (nz (cf G (i*P+k)))) from congrArg zk (congrArg zc (fK _ _))))) rfl (st (.eq (.call (oX (by rw[zB];omega)) (.cons (.t rfl) .nil)) ((show _=isQ ((ip n0 (A i) (A k):Int):Rat) from cO (by rw[qN,hG i k (by omega) (by omega)])))) rfl ?_)))))))
   refine .alloc [isB false,SlM isU [],isB false,SlM isU []] qu (fun _ _=>⟨rfl,nilM _ _,rfl,nilM _ _,trivial⟩) rfl fun b5=>.store (.t rfl) (.t rfl) (i:=0) rfl qI rfl rfl (Ss':=[_,_,_,_]) rfl (M':=[(some _,zC [_,_,_,_]),_,_,_,_,_,_,_]) rfl (nkQ k17 (.sq fun k18=>.sr fun k19=>st (.as (.cI 0 rfl)) rfl (nkQ k19 (.block (.loopF [1,2,3,4,10,11,12,13,16,17,18,19,20,6,7,5,21,22,23,26,27,28,29,30,8] (fun (z:{ j:Nat//j≤k })=>match z with|⟨j,hj⟩=>[(9,isI (j:Int))]) (fun M=>fun (z:{ j:Nat//j≤k })=>match z with|⟨j,hj⟩=>[(some b5,zC (rc (nq (lfQ n0 A i k j)))),(some b4,zC (rc (nq (lfQ n0 A i i k)))),zj rc g2 ((muW n0 A i k).map nq),zj rc g1 ((sqL n0 A i).map nq),grM ah g0 (muL n0 A i),(some b3,zC [ze g0 (muL n0 A i).length,ze g1 ((sqL n0 A i).map nq).length]),(some b2,zC [zi,zi]),(some b1,zC [isI (P:Int),isI (P:Int),SlK 2 zc (G.map nz)])]) (fun (z:{ j:Nat//j≤k })=>match z with|⟨j,hj⟩=>k-j) (⟨0,Nat.zero_le _⟩) (Cv.mem (.c 9 rfl ?_ (.l [1,2,3,4,10,11,12,13,16,17,18,19,20,6,7,5,21,22,23,26,27,28,29,30,8] rfl)) ?_) ?_)))))
   ·rfl
   ·exact lI (by rw[mw])
   rintro⟨j,hj⟩ K20 hK20
   refine .w [9,1,2,3,4,10,11,12,13,16,17,18,19,20,6,7,5,21,22,23,26,27,28,29,30,8] rfl (.memEq (M':=[(some b5,zC (rc (nq (lfQ n0 A i k j)))),(some b4,zC (rc (nq (lfQ n0 A i i k)))),zj rc g2 ((muW n0 A i k).map nq),zj rc g1 ((sqL n0 A i).map nq),grM ah g0 (muL n0 A i),(some b3,zC [ze g0 (muL n0 A i).length,ze g1 ((sqL n0 A i).map nq).length]),(some b2,zC [zi,zi]),(some b1,zC [isI (P:Int),isI (P:Int),SlK 2 zc (G.map nz)])]) rfl (.sq fun k21=>.sr fun k22=>stM rfl (stM rfl (st (.ltI (.t rfl) (.t rfl)) rfl (nkQ k22 (.cd rfl (fun hc3=>?_) (fun hc3=>?_)))))))
   ·refine .skip (.nk k21 (.sq fun k23=>.block (.dr (.so [] rfl (.load (.t rfl) (i:=0) rfl qI rfl (Ss':=[_,_,_,_]) rfl) (.m [] rfl (.m [] rfl (.so [37,38] rfl (.ixGr bv qI (.t rfl) (.t rfl) (by omega)) ?_)))))))
    refine .so [39] rfl (.loadGK vB (.t rfl) (i:=2) rfl qI (gH (by omega))) (.so [] rfl (.fieldAddr (.t rfl) bn eR) (.so [41] rfl (.load1 (.t rfl) (i:=5) rfl eR rfl) (.m [] rfl (.so [42,43] rfl (.ixGr sj jV (.t rfl) (.t rfl) (by omega)) ?_))))
    refine .so [44] rfl (.loadGM (.t rfl) (i:=4) rfl jV (lG (i:=k) (by omega))) (.m [] rfl (.so [45,46] rfl (.ixK bv qI (.t rfl) (.t rfl) vB (by omega) (gH (by omega))) (.so [47] rfl (.loadP (.t rfl) qI rfl (Ss':=[_,_,_,_]) rfl) (.so [40,48] rfl (.call (bX (p:=muQ n0 A i j) (q:=muQ n0 A k j) (A:=Q) (B:=Q) (xi hp hK hQ (i:=i) (by omega)) (xi hp hK hQ (i:=k) (by omega)) (by omega)) (.cons (.t rfl) (.cons (.t rfl) .nil))) (.so [] rfl (.fieldAddr (.t rfl) aV jV) (.so [50] rfl (.load1 (.t rfl) (i:=5) rfl jV rfl) (.m [] rfl (.so [51,52] rfl (.ixGr bv qI (.t rfl) (.t rfl) (by omega)) ?_))))))))
    refine .so [53] rfl (.loadGK vB (.t rfl) (i:=3) rfl qI (fe (by omega))) (.so [49,54] rfl (.call (bX (p:=muQ n0 A i j*muQ n0 A k j) (q:=sqQ n0 A j) (A:=Q+Q) (B:=Q) (wW (xi hp hK hQ (i:=i) (by omega)) (xi hp hK hQ (i:=k) (by omega))) (cM hp hK hQ (by omega)) (by omega)) (.cons (.t rfl) (.cons (.t rfl) .nil))) (.fn (n:=20) zW (.w [1,2,3,4,10,11,12,13,16,17,18,19,20,6,7,5,21,22,23,26,27,28,29,30,8,9,31,32,33,36,37,38,39,40,41,42,43,44,45,46,47,48,49,50,51,52,53,54,55] rfl (st (.call (eo (p:=lfQ n0 A i k j) (q:=muQ n0 A i j*muQ n0 A k j*sqQ n0 A j) (A:=Q) (B:=Q+Q+Q) (ox hp hK hQ (by omega)) (wW (wW (xi hp hK hQ (i:=i) (by omega)) (xi hp hK hQ (i:=k) (by omega))) (cM hp hK hQ (by omega))) (by omega)) (.cons (.t rfl) (.cons (.t rfl) .nil))) rfl (.store (.t rfl) (.t rfl) (i:=0) rfl qI rfl rfl (Ss':=[_,_,_,_]) rfl (M':=[(some _,zC [_,_,_,_]),_,_,_,_,_,_,_]) rfl (nl (.bln (.nk k23 (.region (stM rfl (st (.addI (.t rfl) (.cI 1 rfl) (by first|omega|assumption) (by first|omega|assumption)) rfl (stM rfl (nl (.thn (hK20 (⟨j+1,by omega⟩) _ _ ?_ (Cv.mem (.c 9 rfl ?_ (.l [1,2,3,4,10,11,12,13,16,17,18,19,20,6,7,5,21,22,23,26,27,28,29,30,8] rfl)) ?_))))))))))))))))
    ·show k-(j+1)<k-j;omega
    ·exact zF (by omega)
    ·exact lI (by rw[mx hp (by omega)])
   ·obtain rfl:k=j:=(by omega)
    refine .exit (.the (.the (.blh (.nk k18 (.sq fun k24=>.dr (.m [] rfl (.so [] rfl (.load (.t rfl) (i:=0) rfl qI rfl (Ss':=[_,_,_,_]) rfl) (.so [] rfl (.fieldAddr (.t rfl) aV jV) (.so [59] rfl (.load1 (.t rfl) (i:=5) rfl jV rfl) (.m [] rfl (.so [60,61] rfl (.ixGr bv qI (.t rfl) (.t rfl) (by omega)) ?_)))))))))))
    refine .so [62] rfl (.loadGK vB (.t rfl) (i:=3) rfl qI (fe (by omega))) (.so [58,63] rfl (.eq (.call (oR (p:=lfQ n0 A i k k) (q:=sqQ n0 A k) (A:=Q) (B:=Q) (ox hp hK hQ (by omega)) (cM hp hK hQ (by omega)) (by omega) (zHG hp (by omega))) (.cons (.t rfl) (.cons (.t rfl) .nil))) ((cO (muQ_lf hp (by omega)).symm))) (.so [64] rfl (.buildS [isB false,SlM isU [],isB false,SlM isU []] bv qI qu (fun _ _=>⟨rfl,nilM _ _,rfl,nilM _ _,trivial⟩) rfl rfl (.cons (.t rfl) rfl rfl rfl .nil) rfl (S:=SlK 4 rc [nq (muQ n0 A i k)]) rfl) (.fn (n:=9) zW (.w [1,2,3,4,10,11,12,13,16,17,18,19,20,6,7,5,21,22,23,26,27,28,29,30,8,9,31,32,33,57,58,59,60,61,62,63,64,65] rfl (.appendGK (fk:=rc) (u:=((false,[]),(false,[]))) vB (by decide) (fun _=>inferInstance) bv qI qu (fun _ _=>⟨rfl,nilM _ _,rfl,nilM _ _,trivial⟩) by70 (.t rfl) (i:=2) rfl (.t rfl) (by rw[hwl];simp only[List.length_singleton];omega) (by simp) rfl fun gr1=>?_)))))
    refine .memEq (M':=[_,_,zj _ _ _,_,_,_,_,_]) rfl (stM rfl (nkQ k24 (.dr (.so [] rfl (.load (.t rfl) (i:=1) rfl qI rfl (Ss':=[_,_,_,_]) rfl) (.m [] rfl (.m [] rfl ?_))))))
    refine .so [68,69] rfl (.ixGr bv qI (.t rfl) (.t rfl) ⟨by omega,by simp only[List.length_singleton];omega⟩) ?_
    refine .so [70] rfl (.loadGK vB (.t rfl) (i:=2) rfl qI (zBY (k:=k) (by rw[List.length_map,bc]))) (.m [] rfl (.m [] rfl ?_))
    refine .so [72,73] rfl (.ixGr bv qI (.t rfl) (.t rfl) ⟨by omega,by simp only[List.length_singleton];omega⟩) ?_
    refine .so [74] rfl (.loadGK vB (.t rfl) (i:=2) rfl qI (zBY (k:=k) (by rw[List.length_map,bc]))) (.so [71,75] rfl (.call (bX (p:=muQ n0 A i k) (q:=muQ n0 A i k) (A:=Q) (B:=Q) (xi hp hK hQ (i:=i) (by omega)) (xi hp hK hQ (i:=i) (by omega)) (by omega)) (.cons (.t rfl) (.cons (.t rfl) .nil))) (.so [] rfl (.fieldAddr (.t rfl) aV jV) (.so [77] rfl (.load1 (.t rfl) (i:=5) rfl jV rfl) (.m [] rfl (.so [78,79] rfl (.ixGr bv qI (.t rfl) (.t rfl) (by omega)) ?_)))))
    refine .so [80] rfl (.loadGK vB (.t rfl) (i:=3) rfl qI (fe (by omega))) (.so [76,81] rfl (.call (bX (p:=muQ n0 A i k*muQ n0 A i k) (q:=sqQ n0 A k) (A:=Q+Q) (B:=Q) (wW (xi hp hK hQ (i:=i) (by omega)) (xi hp hK hQ (i:=i) (by omega))) (cM hp hK hQ (by omega)) (by omega)) (.cons (.t rfl) (.cons (.t rfl) .nil))) (.fn (n:=16) zW (.w [1,2,3,4,10,11,12,13,16,17,18,19,20,6,7,5,21,22,23,26,27,28,29,30,8,9,31,32,33,57,58,59,60,61,62,63,64,65,66,67,68,69,70,71,72,73,74,75,76,77,78,79,80,81,82] rfl (st (.call (eo (p:=lfQ n0 A i i k) (q:=muQ n0 A i k*muQ n0 A i k*sqQ n0 A k) (A:=Q) (B:=Q+Q+Q) (ox hp hK hQ (by omega)) (wW (wW (xi hp hK hQ (i:=i) (by omega)) (xi hp hK hQ (i:=i) (by omega))) (cM hp hK hQ (by omega))) (by omega)) (.cons (.t rfl) (.cons (.t rfl) .nil))) rfl (.store (.t rfl) (.t rfl) (i:=1) rfl qI rfl rfl (Ss':=[_,_,_,_]) rfl (M':=[_,(some _,zC [_,_,_,_]),_,_,_,_,_,_]) rfl (nl (.bln (.nk k16 (.region (stM rfl (st (.addI (.t rfl) (.cI 1 rfl) (by first|omega|assumption) (by first|omega|assumption)) rfl (stM rfl (nl (.thn ?_))))))))))))))
    refine hK13 (⟨(k+1,gr1),by show k+1≤i;omega⟩) _ _ ?_ (Cv.trans (Cv.drop ((.cons _ (.cons_cons _ (.cons_cons _ (.cons_cons _ (.cons_cons _ (.cons_cons _ (.cons_cons _ (.cons_cons _ .slnil)))))))))) (Cv.mem (.c 7 rfl ?_ (.c 5 rfl ?_ (.l [1,2,3,4,10,11,12,13,16,17,18,19,20,6] rfl))) ?_))
    ·show i-(k+1)<i-k;omega
    ·exact zF (by omega)
    ·exact jY (by rw[ma,List.map_append,List.length_append];rfl)
    ·exact zEA (by rw[mx hp (by omega)]) (by rw[ma,List.map_append];rfl)
  ·obtain rfl:i=k:=(by omega)
   refine .exit (.the (.the (.blh (.nk k11 (.sq fun k25=>.cv (Cv.freezeGK (t:=5) (i:=1) (ys:=(muW n0 A i i).map nq) vB rfl rfl rfl) (.memEq (M':=[_,_,_,_,_,_]) rfl (.w [1,2,3,4,10,11,12,13,16,17,18,19,20,6,7,5,21,22,23] rfl (.region (st (.fieldAddr (.t rfl) bn eR) rfl (st (.load1 (.t rfl) (i:=3) rfl eR rfl) rfl (stM rfl (st (.buildS [zi] sj jV tx (fun _ _=>⟨rfl,trivial⟩) rfl rfl (.cons (.t rfl) rfl rfl rfl .nil) rfl (S:=SlM ah [muW n0 A i i]) rfl) rfl (.appendG (f:=ah) (u:=([]:List Rat)) sj jV tx (fun _ _=>⟨vm,trivial⟩) (fun _=>inferInstance) by65 (.t rfl) (i:=2) rfl (.t rfl) (by rw[hml];simp only[List.length_singleton];omega) (by simp) rfl fun gm1=>?_)))))))))))))
   refine .memEq (M':=[_,_,grM _ _ _,_,_,_]) rfl (st (.fieldAddr (.t rfl) bn eR) rfl (.store (.t rfl) (.t rfl) (i:=3) rfl eR rfl rfl (Ss':=[_,_]) rfl (M':=[_,_,_,(some _,zC [_,_]),_,_]) rfl (nkQ k25 (.region (st (.fieldAddr (.t rfl) aV jV) rfl (st (.load1 (.t rfl) (i:=3) rfl jV rfl) rfl (st (.eq (.load (.t rfl) (i:=0) rfl qI rfl (Ss':=[_,_,_,_]) rfl) ((show _=zk (rc (nq (sqQ n0 A i))) from by rw[zHH]))) rfl (st (.buildS [isB false,SlM isU [],isB false,SlM isU []] bv qI qu (fun _ _=>⟨rfl,nilM _ _,rfl,nilM _ _,trivial⟩) rfl rfl (.cons (.t rfl) rfl rfl rfl .nil) rfl (S:=SlK 4 rc [nq (sqQ n0 A i)]) rfl) rfl (.appendGK (fk:=rc) (u:=((false,[]),(false,[]))) vB (by decide) (fun _=>inferInstance) bv qI qu (fun _ _=>⟨rfl,nilM _ _,rfl,nilM _ _,trivial⟩) by70 (.t rfl) (i:=1) rfl (.t rfl) (by rw[hsl];simp only[List.length_singleton];omega) (by simp) rfl fun gs1=>?_)))))))))
   refine .memEq (M':=[_,zj _ _ _,_,_,_,_]) rfl (st (.fieldAddr (.t rfl) aV jV) rfl (.store (.t rfl) (.t rfl) (i:=3) rfl jV rfl rfl (Ss':=[_,_]) rfl (M':=[_,_,_,(some _,zC [_,_]),_,_]) rfl (nl (.bln (.nk k8 (.region (stM rfl (st (.addI (.t rfl) (.cI 1 rfl) (by first|omega|assumption) (by first|omega|assumption)) rfl (stM rfl (nl (.thn ?_)))))))))))
   refine hK5 (⟨(i+1,gm1,gs1),by show i+1≤P;omega⟩) _ _ ?_ (Cv.trans (Cv.drop ((.cons _ (.cons_cons _ (.cons_cons _ (.cons_cons _ (.cons_cons _ (.cons_cons _ .slnil)))))))) (Cv.mem (.c 4 rfl ?_ (.l [1,2,3] rfl)) ?_))
   ·show P-(i+1)<P-i;omega
   ·exact zF (by omega)
   ·exact zEB (by rw[mE,List.map_append];rfl) (by rw[me]) (by rw[me,List.length_append]) (by rw[mE,List.map_append,List.length_append];rfl)
 ·obtain rfl:i=P:=(by omega)
  refine .exit (.the (.the (.blh (.nk k3 (.w [2,3] rfl (.sq fun k26=>.cv (Cv.freezeF (k:=1) (i:=1) (j:=1) (o:=0) rfl rfl rfl rfl rr nM (Ss':=[SlM ah (muL n0 A i),_]) rfl) (.memEq (M':=[_,(some _,zC [SlM ah (muL n0 A i),_]),_,_]) rfl (.w [2,3] rfl (.cv (Cv.freezeF (k:=4) (i:=0) (j:=0) (o:=1) rfl rfl rfl rfl (aT vB) (wB vB) (Ss':=[_,SlK 4 rc ((sqL n0 A i).map nq)]) rfl) (.memEq (M':=[(some _,zC [_,SlK 4 rc ((sqL n0 A i).map nq)]),_,_]) rfl (.w [2,3] rfl (.region (st (.load (.t rfl) (i:=0) rfl zCQ rfl (Ss':=[_,_]) rfl) rfl (.store (.t rfl) (.t rfl) (i:=1) rfl zCQ rfl rfl (Ss':=[_,_]) rfl (M':=[_,(some _,zC [_,_]),_]) rfl (nkQ k26 (.ret (rt1 (.inl rfl) Tryz.results42 rfl (.cell rfl (i:=1) rfl zCQ rfl ?_ .nil))))))))))))))))))
  all_goals (rfl)
theorem iL {n0 P K Q:Nat} {A:zI} {G:List Int} (hP:P≤16) (hl:G.length=P*P) (hG:∀i k,i<P→k<P→cf G (i*P+k)=ip n0 (A i) (A k)) (hp:∀t,t≤P→0<Dt.gd n0 A t) (hK:∀i k,(List.length (zA (qj n0 A i k).natAbs))≤K) (hQ:(P+1)*(K+(P+1))+1≤Q) (hQ2:Q≤1000000) {m n:Bool} {ps ws:List Nat} (hpw:(List.length (zA (val ps)))≤1000) (hqw:(List.length (zA (val ws)))≤1000) (hq:0<zv n ws) (hrd:RD n0 P (zv m ps) (zv n ws) A):Ctr Tryz.prog 18 [isM (P:Int) (P:Int) (G.map nz),zk [isB m,zD ps],zk [isB n,zD ws]] (isB true):=by
 refine Ctr.i Tryz.func18 rfl Tryz.ntmps18 fun w0 F0=>.w [0,1,2] rfl (.fact (Has.okZ (Has.t (t:=1) rfl)) fun okz1=>.fact (Has.okZ (Has.t (t:=2) rfl)) fun okz2=>?_)
 have hPP:=qT (show P≤64 by omega) (show P≤64 by omega)
 have hGn:(G.map nz).length=P*P:=by rw[List.length_map];exact hl
 have hgw:∀i k,i<P→k<P→(List.length (zA (cf G (i*P+k)).natAbs))≤Q:=fun i k hi hk=>by have h1:=hK i k;rw[show qj n0 A i k=cf G (i*P+k) from (hG i k hi hk).symm] at h1;have:1*(K+(P+1))≤(P+1)*(K+(P+1)):=Nat.mul_le_mul_right _ (by omega);omega
 have hml:=rV (n:=n0) (A:=A) P
 have hsl:((sqL n0 A P).map nq).length=P:=by rw[List.length_map,kn]
 have hzp:=xt m ps
 have hzq:=xt n ws
 have hdq:qs (Rat.divInt (zv m ps) (zv n ws))≤1000:=bY (by omega) (by omega) (by omega)
 have h1q:qs (1:Rat)≤1:=yJ (qL (n:=1) (by decide)) (qL (n:=1) (by decide))
 refine .sr fun k1=>.box (.t rfl) rfl fun b1=>.box (.t rfl) rfl fun b2=>.box (.t rfl) rfl fun b3=>st (.as (.cB false)) rfl (nkQ k1 (.sr fun k2=>st (.load (.t rfl) (i:=2) rfl zL rfl (Ss':=[_,_,_]) rfl) rfl (st (.call (uz hP hl hG hp hK hQ hQ2) (.cons (.t rfl) .nil)) rfl (.alloc [zi,zi] oB (fun _ _=>⟨rfl,rfl,trivial⟩) rfl fun b4=>.store (.t rfl) (.t rfl) (i:=0) rfl zCQ rfl rfl (Ss':=[_,_]) rfl (M':=[(some _,zC [_,_]),_,_,_]) rfl (nkQ k2 (.w [3,4,5,6,7] rfl (.sr fun k3=>st (.load (.t rfl) (i:=2) rfl zE rfl (Ss':=[_,_]) rfl) rfl (st (.load (.t rfl) (i:=1) rfl zE rfl (Ss':=[_,_]) rfl) rfl (st (.call (fx (by omega) (by omega) (by omega)) (.cons (.t rfl) (.cons (.t rfl) .nil))) rfl (stM rfl (st (.ext (.t rfl) rfl) rfl (st (.ext (.t rfl) rfl) rfl (.alloc [isB false,SlM isU [],isB false,SlM isU []] qu (fun _ _=>⟨rfl,nilM _ _,rfl,nilM _ _,trivial⟩) rfl fun b5=>.store (.t rfl) (.t rfl) (i:=0) rfl qI rfl rfl (Ss':=[_,_,_,_]) rfl (M':=[(some _,zC [_,_,_,_]),_,_,_,_]) rfl (stM rfl (nkQ k3 (.w [3,6,7,8] rfl (.sr fun k4=>st (.call (xC) (.cons (.cI 1 rfl) .nil)) rfl (st (.eq (.call (oX (by rw[zB];exact Nat.le_trans (qL (by decide)) (by decide))) (.cons (.t rfl) .nil)) ((show _=isQ 1 from cO (by rw[zH];rfl)))) rfl ?_))))))))))))))))))
 refine .alloc [isB false,SlM isU [],isB false,SlM isU []] qu (fun _ _=>⟨rfl,nilM _ _,rfl,nilM _ _,trivial⟩) rfl fun b6=>.store (.t rfl) (.t rfl) (i:=0) rfl qI rfl rfl (Ss':=[_,_,_,_]) rfl (M':=[(some _,zC [_,_,_,_]),_,_,_,_,_]) rfl (nkQ k4 (.sq fun k5=>.sr fun k6=>st (.as (.cI 0 rfl)) rfl (nkQ k6 (.block (.loopF [3,7,8,10] (fun (z:{ i:Nat//i≤P })=>match z with|⟨i,hi⟩=>[(11,isI (i:Int))]) (fun M=>fun (z:{ i:Nat//i≤P })=>match z with|⟨i,hi⟩=>M) (fun (z:{ i:Nat//i≤P })=>match z with|⟨i,hi⟩=>P-i) (⟨0,Nat.zero_le _⟩) (Cv.mem (.c 11 rfl ?_ (.l [3,7,8,10] rfl)) ?_) ?_)))))
 ·rfl
 ·rfl
 rintro⟨i,hi⟩ K7 hK7
 refine .w [11,3,7,8,10] rfl (.sq fun k8=>.sr fun k9=>stM rfl (st (.fieldAddr (.t rfl) zY ty3) rfl (st (.load1 (.t rfl) (i:=5) rfl ty3 rfl) rfl (st (.ltI (.t rfl) (.t rfl)) rfl (nkQ k9 (.cd rfl (fun hc1=>?_) (fun hc1=>?_)))))))
 ·have hwl:((muW n0 A i i).map nq).length=i:=by rw[List.length_map,bc]
  refine .skip (.nk k8 (.sq fun k10=>.block (.sq fun k11=>.sr fun k12=>st (.as (.cI 0 rfl)) rfl (nkQ k12 (.block (.loopF [3,7,8,10,11,25,26,27,28] (fun (z:{ k:Nat//k≤i })=>match z with|⟨k,hk⟩=>[(12,isI (k:Int))]) (fun M=>fun (z:{ k:Nat//k≤i })=>match z with|⟨k,hk⟩=>M) (fun (z:{ k:Nat//k≤i })=>match z with|⟨k,hk⟩=>i-k) (⟨0,Nat.zero_le _⟩) (Cv.mem (.c 12 rfl ?_ (.l [3,7,8,10,11,25,26,27,28] rfl)) ?_) ?_))))))
  ·rfl
  ·rfl
  rintro⟨k,hk⟩ K13 hK13
  refine .w [12,3,7,8,10,11,25,26,27,28] rfl (.sq fun k14=>.sr fun k15=>stM rfl (stM rfl (st (.ltI (.t rfl) (.t rfl)) rfl (nkQ k15 (.cd rfl (fun hc2=>?_) (fun hc2=>?_))))))
  ·obtain⟨hm1,hm2⟩:=hrd.mu (show i<P by omega) (show k<i by omega)
   refine .skip (.nk k14 (.sq fun k16=>.block (.sq fun k17=>.drh [true,true,true,true,true,true] (Ms:=[_,_,_,_,_,_]) rfl (.so [] rfl (.fieldAddr (.t rfl) bn eR) (.so [36] rfl (.load1 (.t rfl) (i:=2) rfl eR rfl) (.m [] rfl (.so [37,38] rfl (.ixP sj jV (.t rfl) (.t rfl) (by omega) (lG (i:=i) (by omega))) (.so [39] rfl (.eq (.loadP1 (.t rfl) jV) ((show _=ah (muW n0 A i i) from rfl))) (.m [] rfl (.so [40,41] rfl (.ixK bv qI (.t rfl) (.t rfl) vB (by omega) (gH (j:=k) (by omega))) (.so [42] rfl (.loadP (.t rfl) qI rfl (Ss':=[_,_,_,_]) rfl) (.so [] rfl (.fieldAddr (.t rfl) bn eR) (.so [44] rfl (.load1 (.t rfl) (i:=2) rfl eR rfl) (.m [] rfl (.so [45,46] rfl (.ixP sj jV (.t rfl) (.t rfl) (by omega) (lG (i:=i) (by omega))) (.so [47] rfl (.eq (.loadP1 (.t rfl) jV) ((show _=ah (muW n0 A i i) from rfl))) (.m [] rfl (.so [48,49] rfl (.ixK bv qI (.t rfl) (.t rfl) vB (by omega) (gH (j:=k) (by omega))) (.so [50] rfl (.loadP (.t rfl) qI rfl (Ss':=[_,_,_,_]) rfl) (.so [43,51] rfl (.call (rN (p:=muQ n0 A i k) (q:=muQ n0 A i k) (A:=Q) (B:=Q) (xi hp hK hQ (i:=i) (k:=k) (by omega)) (xi hp hK hQ (i:=i) (k:=k) (by omega)) (by omega)) (.cons (.t rfl) (.cons (.t rfl) .nil))) (.als2 (n1:=18) (ds:=[13]) (zs:=[[isB false,SlM isU [],isB false,SlM isU []]]) rfl (.cons rfl rfl qu (fun _ _=>⟨rfl,nilM _ _,rfl,nilM _ _,trivial⟩) .nil) (.cons_cons _ (.cons_cons _ (.cons_cons _ (.cons_cons _ (.cons_cons _ (.cons_cons _ .slnil)))))) (Cs:=[_]) rfl (.fn (n:=18) zW rfl (fun bs hbs=>?_)))))))))))))))))))))))
   obtain⟨b7,rfl⟩:=dw hbs
   refine .memEq (M':=[_,_,_,_,_,_,_]) rfl (.cv (Cv.wk (.k 3 rfl (.k 7 rfl (.k 8 rfl (.k 10 rfl (.k 11 rfl (.k 25 rfl (.k 26 rfl (.k 27 rfl (.k 28 rfl (.k 12 rfl (.k 31 rfl (.k 32 rfl (.k 33 rfl (.k 36 rfl (.k 37 rfl (.k 38 rfl (.k 39 rfl (.k 40 rfl (.k 41 rfl (.k 42 rfl (.k 43 rfl (.k 44 rfl (.k 45 rfl (.k 46 rfl (.k 47 rfl (.k 48 rfl (.k 49 rfl (.k 50 rfl (.k 51 rfl (.k 52 rfl (.cons (t:=13) (Has.op rfl) .nil)))))))))))))))))))))))))))))))) (.store (.t rfl) (.t rfl) (i:=0) rfl qI rfl rfl (Ss':=[_,_,_,_]) rfl (M':=[(some _,zC [_,_,_,_]),_,_,_,_,_,_]) rfl (nkQ k17 (.sq fun k18=>.dr (.so [] rfl (.load (.t rfl) (i:=0) rfl qI rfl (Ss':=[_,_,_,_]) rfl) (.so [] rfl (.load (.t rfl) (i:=1) rfl qI rfl (Ss':=[_,_,_,_]) rfl) (.so [53,54] rfl (.call (kz (p:=muQ n0 A i k+muQ n0 A i k) (q:=1) (A:=Q+Q+1) (B:=1) (oc (xi hp hK hQ (i:=i) (k:=k) (by omega)) (xi hp hK hQ (i:=i) (k:=k) (by omega))) h1q (by omega)) (.cons (.t rfl) (.cons (.t rfl) .nil))) (.so [55] rfl (.gtI (.t rfl) (.cI 0 rfl)) (.m [56] rfl (.s [57] rfl rfl rfl (.F rfl rfl rfl (fun hg=>.load (.t rfl) (i:=0) rfl qI rfl (Ss':=[_,_,_,_]) rfl)) (.s [57] rfl rfl rfl (.F rfl rfl rfl (fun hg=>.load (.t rfl) (i:=1) rfl qI rfl (Ss':=[_,_,_,_]) rfl)) ?_)))))))))))
   refine .s [57,59] rfl rfl rfl (.F rfl rfl rfl (fun hg=>have hg':=BP.t hg;OK1.call (rM (q:=1) (A:=1) h1q (by decide)) (.cons (Has.g rfl hg) .nil))) ?_
   refine .fn (n:=8) zW (.w [3,7,8,10,11,25,26,27,28,12,31,32,33,36,37,38,39,40,41,42,43,44,45,46,47,48,49,50,51,52,13,53,54,55,56,57,58,59,60] rfl ?_)
   refine stF rfl rfl (fun hg=>have hg':=BP.t hg;OK1.call (kz (p:=muQ n0 A i k+muQ n0 A i k) (q := -1) (A:=Q+Q+1) (B:=1) (oc (xi hp hK hQ (i:=i) (k:=k) (by omega)) (xi hp hK hQ (i:=i) (k:=k) (by omega))) (oa h1q) (by omega)) (.cons (Has.g rfl hg) (.cons (Has.g rfl hg) .nil))) rfl ?_
   refine stF rfl rfl (fun hg=>.ltI (Has.g rfl hg) (.cI 0 rfl)) rfl (st (.pickOr (.t rfl) (fun h=>Has.g rfl (ng h))) rfl (nkQ k18 (.cd rfl (fun hc3=>?_) (fun hc3=>?_))))
   ·exfalso;rcases hc3 with g|g;exact oM (by rw[Rat.neg_sub];exact hm1) g;exact fl hm2 g
   ·refine .skip (.bln (.nk k16 (.region (stM rfl (st (.addI (.t rfl) (.cI 1 rfl) (by first|omega|assumption) (by first|omega|assumption)) rfl (stM rfl (nl (.thn (hK13 (⟨k+1,by omega⟩) _ _ ?_ (Cv.trans (Cv.drop ((.cons _ (.cons_cons _ (.cons_cons _ (.cons_cons _ (.cons_cons _ (.cons_cons _ (.cons_cons _ .slnil))))))))) (Cv.mem (.c 12 rfl ?_ (.l [3,7,8,10,11,25,26,27,28] rfl)) ?_)))))))))))
    ·show i-(k+1)<i-k;omega
    ·exact zF (by omega)
    ·rfl
  ·refine .exit (.the (.the (.blh (.nk k11 (.sq fun k19=>.sr fun k20=>stM rfl (st (.eqI (.t rfl) (.cI 0 rfl)) rfl (nkQ k20 (.cd rfl (fun hc4=>?_) (fun hc4=>?_)))))))))
   ·refine .exit (.the (.blh (.nk k10 (.region (stM rfl (st (.addI (.t rfl) (.cI 1 rfl) (by first|omega|assumption) (by first|omega|assumption)) rfl (stM rfl (nl (.thn (hK7 (⟨i+1,by omega⟩) _ _ ?_ (Cv.mem (.c 11 rfl ?_ (.l [3,7,8,10] rfl)) ?_)))))))))))
    ·show P-(i+1)<P-i;omega
    ·exact zF (by omega)
    ·rfl
   ·have hs0:i-1+1=i:=(by omega)
    have hsq:=hrd.sq hq (s:=i-1) (by omega)
    rw[hs0] at hsq
    have hmq:=xi hp hK hQ (i:=i) (k:=i-1) (by omega)
    have hbq:=cM hp hK hQ (k:=i) (by omega)
    have hbq1:=cM hp hK hQ (k:=i-1) (by omega)
    refine .skip (.nk k19 (.sr fun k21=>st (.fieldAddr (.t rfl) bn eR) rfl (st (.load1 (.t rfl) (i:=2) rfl eR rfl) rfl (stM rfl (st (.ixP sj jV (.t rfl) (.t rfl) (by omega) (lG (i:=i) (by omega))) rfl (st (.eq (.loadP1 (.t rfl) jV) ((show _=ah (muW n0 A i i) from rfl))) rfl (stM rfl (st (.eq (.subI (.t rfl) (.cI 1 rfl) (by first|omega|assumption) (by first|omega|assumption)) ((show isI _=isI ((i-1:Nat):Int) from zF (by omega)))) rfl (st (.ixK bv qI (.t rfl) (.t rfl) vB (by omega) (gH (j:=i-1) (by omega))) rfl (st (.loadP (.t rfl) qI rfl (Ss':=[_,_,_,_]) rfl) rfl (.alloc [isB false,SlM isU [],isB false,SlM isU []] qu (fun _ _=>⟨rfl,nilM _ _,rfl,nilM _ _,trivial⟩) rfl fun b8=>.store (.t rfl) (.t rfl) (i:=0) rfl qI rfl rfl (Ss':=[_,_,_,_]) rfl (M':=[(some _,zC [_,_,_,_]),_,_,_,_,_,_]) rfl (nkQ k21 (.sq fun k22=>.dr (.so [] rfl (.fieldAddr (.t rfl) aV jV) (.so [75] rfl (.load1 (.t rfl) (i:=3) rfl jV rfl) (.m [] rfl (.so [76,77] rfl (.ixK bv qI (.t rfl) (.t rfl) vB (by omega) (fe (j:=i) (by omega))) (.so [78] rfl (.loadP (.t rfl) qI rfl (Ss':=[_,_,_,_]) rfl) (.so [] rfl (.load (.t rfl) (i:=2) rfl qI rfl (Ss':=[_,_,_,_]) rfl) (.so [] rfl (.load (.t rfl) (i:=0) rfl qI rfl (Ss':=[_,_,_,_]) rfl) (.so [] rfl (.load (.t rfl) (i:=0) rfl qI rfl (Ss':=[_,_,_,_]) rfl) (.so [81,82] rfl (.call (bX (p:=muQ n0 A i (i-1)) (q:=muQ n0 A i (i-1)) (A:=Q) (B:=Q) hmq hmq (by omega)) (.cons (.t rfl) (.cons (.t rfl) .nil))) (.so [80,83] rfl (.call (eo (p:=Rat.divInt (zv m ps) (zv n ws)) (q:=muQ n0 A i (i-1)*muQ n0 A i (i-1)) (A:=1000) (B:=Q+Q) hdq (wW hmq hmq) (by omega)) (.cons (.t rfl) (.cons (.t rfl) .nil))) (.so [] rfl (.fieldAddr (.t rfl) aV jV) ?_))))))))))))))))))))))))
    refine .so [85] rfl (.load1 (.t rfl) (i:=3) rfl jV rfl) (.m [] rfl (.so [87] rfl (.eq (.subI (.t rfl) (.cI 1 rfl) (by first|omega|assumption) (by first|omega|assumption)) ((show isI _=isI ((i-1:Nat):Int) from zF (by omega)))) (.so [86,88] rfl (.ixK bv qI (.t rfl) (.t rfl) vB (by omega) (fe (j:=i-1) (by omega))) (.so [89] rfl (.loadP (.t rfl) qI rfl (Ss':=[_,_,_,_]) rfl) (.so [84,90] rfl (.call (bX (p:=Rat.divInt (zv m ps) (zv n ws)-muQ n0 A i (i-1)*muQ n0 A i (i-1)) (q:=sqQ n0 A (i-1)) (A:=1000+(Q+Q)+1) (B:=Q) (oZ hdq (wW hmq hmq)) hbq1 (by omega)) (.cons (.t rfl) (.cons (.t rfl) .nil))) (.fn (n:=17) zW (.w [3,7,8,10,11,25,26,27,28,12,31,32,33,64,65,66,67,68,69,70,71,72,73,74,14,75,76,77,78,79,80,81,82,83,84,85,86,87,88,89,90,91] rfl (st (.call (kz (p:=sqQ n0 A i) (q:=(Rat.divInt (zv m ps) (zv n ws)-muQ n0 A i (i-1)*muQ n0 A i (i-1))*sqQ n0 A (i-1)) (A:=Q) (B:=1000+(Q+Q)+1+Q) hbq (wW (oZ hdq (wW hmq hmq)) hbq1) (by omega)) (.cons (.t rfl) (.cons (.t rfl) .nil))) rfl (st (.ltI (.t rfl) (.cI 0 rfl)) rfl (nkQ k22 (.cd rfl (fun hc5=>?_) (fun hc5=>?_))))))))))))
    ·exact (fl hsq hc5).elim
    ·refine .skip (.bln (.nk k10 (.region (stM rfl (st (.addI (.t rfl) (.cI 1 rfl) (by first|omega|assumption) (by first|omega|assumption)) rfl (stM rfl (nl (.thn (hK7 (⟨i+1,by omega⟩) _ _ ?_ (Cv.trans (Cv.drop ((.cons _ (.cons_cons _ (.cons_cons _ (.cons_cons _ (.cons_cons _ (.cons_cons _ (.cons_cons _ .slnil))))))))) (Cv.mem (.c 11 rfl ?_ (.l [3,7,8,10] rfl)) ?_)))))))))))
     ·show P-(i+1)<P-i;omega
     ·exact zF (by omega)
     ·rfl
 ·refine .exit (.the (.the (.blh (.nk k5 (.cv (Cv.wk .nil) (.sr fun k23=>st (.as (.cB true)) rfl (nkQ k23 (.ret (rt1 (.inl rfl) Tryz.results18 rfl (.tmp (Has.t' rfl ?_) .nil))))))))))
  all_goals (rfl)
end Go.Proofs.YtchbfpcaibfkdaaGreat
namespace Go.Proofs.YtchbfpcaibfkdaaGreat
open Go.En Go.RowKit
set_option maxRecDepth 10000
set_option maxHeartbeats 4000000
open Go.Nt
open Go.Pz
open Go.Mz
open Go.Hn
open Go.Hp
open Go.Dt
open Go.Ll
theorem lM {R:Nat} {xs:List (Bool×List Nat)} (hR:R≤64) (hl:xs.length=R*R) {m n:Bool} {ps qs:List Nat} (hpw:(List.length (zA (val ps)))≤1000) (hqw:(List.length (zA (val qs)))≤1000) (hmy:(decide (0<sgn (zv n qs))&&decide (0<ql (zv m ps*4) (zv n qs))&&decide (ql (zv m ps) (zv n qs)<0))=false):Ctr Tryz.prog 65 [isM (R:Int) (R:Int) xs,zk [isB m,zD ps],zk [isB n,zD qs]] (zZ [yW,isI 1]):=by
 refine Ctr.i Tryz.func65 rfl Tryz.ntmps65 fun w0 F0=>.w [0,1,2] rfl (.fact (Has.okZ (Has.t (t:=1) rfl)) fun okz1=>.fact (Has.okZ (Has.t (t:=2) rfl)) fun okz2=>?_)
 have hfo:xc (R:Int) (R:Int) xs.length=true:=qK hR hR hl
 refine .sr fun k1=>.box (.t rfl) rfl fun b1=>.box (.t rfl) rfl fun b2=>.box (.t rfl) rfl fun b3=>st (.as Has.cP) rfl (st (.as (.cI 0 rfl)) rfl (nkQ k1 (.sq fun k2=>.block (.sr fun k3=>st (.load (.t rfl) (i:=2) rfl zL rfl (Ss':=[_,_,_]) rfl) rfl (st (.eq (.call (qO) (.cons (.t rfl) .nil)) ((show isB _=isB true from zl (hfo)))) rfl (st (.not (.t rfl)) rfl (stM rfl (stF rfl rfl (fun hg=>.fieldAddr (.t rfl) zY ty3) rfl (stF rfl rfl (fun hg=>.load1 (Has.g rfl hg) (i:=2) rfl ty3 rfl) rfl (stF rfl rfl (fun hg=>.fieldAddr (.t rfl) zo ty3) rfl (stF rfl rfl (fun hg=>.load1 (Has.g rfl hg) (i:=2) rfl ty3 rfl) rfl (stF rfl rfl (fun hg=>.neI (Has.g rfl hg) (Has.g rfl hg)) rfl (st (.pickOr (.t rfl) (fun h=>Has.g rfl (ng h))) rfl (stM rfl (nkQ k3 (.w [3,4,5,6,7,10] rfl (.cd rfl (fun hc1=>?_) (fun hc1=>?_))))))))))))))))))
 ·exfalso;simp at hc1
 ·refine .sr fun k4=>st (.load (.t rfl) (i:=1) rfl zE rfl (Ss':=[_,_]) rfl) rfl (st (.load (.t rfl) (i:=0) rfl zE rfl (Ss':=[_,_]) rfl) rfl (st (.eq (.call (lN (by omega) (by omega)) (.cons (.t rfl) (.cons (.t rfl) .nil))) ((show isB _=isB false from zl (hmy)))) rfl (st (.not (.t rfl)) rfl (stM rfl (nkQ k4 (.w [3,4,5,6,7,21] rfl (.cd rfl (fun hc2=>?_) (fun hc2=>?_))))))))
  ·refine .sr fun k5=>st (.as Has.cP) rfl (st (.as (.cI 1 rfl)) rfl (nkQ k5 (.ret (.blr (.thr (rtN (.inl rfl) Tryz.results65 rfl rfl (.tmp (Has.t' rfl ?_) (.tmp (Has.t' rfl ?_) .nil))))))))
   ·rfl
   ·rfl
  ·exfalso;simp at hc2
theorem gM {R:Nat} {xs:List (Bool×List Nat)} (hR:R≤64) (hl:xs.length=R*R) {m n:Bool} {ps qs:List Nat} (hpw:(List.length (zA (val ps)))≤1000) (hqw:(List.length (zA (val qs)))≤1000) (hmy:(decide (0<sgn (zv n qs))&&decide (0<ql (zv m ps*4) (zv n qs))&&decide (ql (zv m ps) (zv n qs)<0))=false):Ctr Tryz.prog 29 [isM (R:Int) (R:Int) xs,zk [isB m,zD ps],zk [isB n,zD qs]] (zZ [nD,isI 0,isI 1]):=by
 refine Ctr.i Tryz.func29 rfl Tryz.ntmps29 fun w0 F0=>.w [0,1,2] rfl (.fact (Has.okZ (Has.t (t:=1) rfl)) fun okz1=>.fact (Has.okZ (Has.t (t:=2) rfl)) fun okz2=>.sr fun k1=>.box (.t rfl) rfl fun b1=>.box (.t rfl) rfl fun b2=>.box (.t rfl) rfl fun b3=>.alloc [isI 0,isI 0,SlK 2 zc ([]:List (Bool×List Nat))] zX (fun _ _=>⟨⟨rfl,by decide,by decide⟩,⟨rfl,by decide,by decide⟩,vm,trivial⟩) rfl fun b4=>st (.as (.cI 0 rfl)) rfl (st (.as (.cI 0 rfl)) rfl (nkQ k1 (.sr fun k2=>st (.load (.t rfl) (i:=3) rfl zL rfl (Ss':=[_,_,_]) rfl) rfl (st (.load (.t rfl) (i:=2) rfl zE rfl (Ss':=[_,_]) rfl) rfl (st (.load (.t rfl) (i:=1) rfl zE rfl (Ss':=[_,_]) rfl) rfl (st (.call (lM hR hl hpw hqw hmy) (.cons (.t rfl) (.cons (.t rfl) (.cons (.t rfl) .nil)))) rfl (stM rfl (st (.ext (.t rfl) rfl) rfl (st (.ext (.t rfl) rfl) rfl (stM rfl (stM rfl (nkQ k2 (.w [6,7,8,9,10] rfl (.sq fun k3=>.sr fun k4=>stM rfl (st (.neI (.t rfl) (.cI 0 rfl)) rfl (nkQ k4 (.cd rfl (fun hc1=>?_) (fun hc1=>?_)))))))))))))))))))
 ·refine .sr fun k5=>st (.build [isI 0,isI 0,SlK 2 zc ([]:List (Bool×List Nat))] bx zX (fun _ _=>⟨⟨rfl,by decide,by decide⟩,⟨rfl,by decide,by decide⟩,vm,trivial⟩) .nil (Z'':=[_,_,_]) rfl) rfl (stM rfl (.store (.t rfl) (.t rfl) (i:=0) rfl zL rfl rfl (Ss':=[_,_,_]) rfl (M':=[(some _,zC [_,_,_]),_,_,_]) rfl (st (.as (.cI 0 rfl)) rfl (stM rfl (nkQ k5 (.w [6,7,8,9] rfl (.ret (.thr (rtN (.inl rfl) Tryz.results29 rfl rfl (.cell rfl (i:=0) rfl zL rfl ?_ (.tmp (Has.t' rfl ?_) (.tmp (Has.t' rfl ?_) .nil))))))))))))
  ·rfl
  ·rfl
  ·rfl
 ·exfalso;omega
theorem eX {R C K:Nat} {xs:List (Bool×List Nat)} (hx:Bd (zG xs) K) (hK:K≤280) (hR:R≤4) (hC:C≤4) (hl:xs.length=R*C) {m n:Bool} {ps qs:List Nat} (hpw:(List.length (zA (val ps)))≤1000) (hqw:(List.length (zA (val qs)))≤1000) (hmy:(decide (0<sgn (zv n qs))&&decide (0<ql (zv m ps*4) (zv n qs))&&decide (ql (zv m ps) (zv n qs)<0))=false):Ctr Tryz.prog 6 [isM (R:Int) (C:Int) xs,zk [isB m,zD ps],zk [isB n,zD qs]] (zZ [nD,nD,isI 0,isI 1]):=by
 refine Ctr.i Tryz.func6 rfl Tryz.ntmps6 fun w0 F0=>.w [0,1,2] rfl (.fact (Has.okZ (Has.t (t:=1) rfl)) fun okz1=>.fact (Has.okZ (Has.t (t:=2) rfl)) fun okz2=>?_)
 have hPR:=jS (R:=R) (C:=C) (L:=zG xs)
 obtain⟨P,hP⟩:∃P,P=rkL R C (zG xs):=⟨_,rfl⟩
 rw[←hP] at hPR
 have hh1:(K+4)*(R+2)^C≤368064:=Nat.le_trans (Nat.mul_le_mul (show K+4≤284 by omega) (Nat.le_trans (Nat.pow_le_pow_left (show R+2≤6 by omega) C) (Nat.pow_le_pow_right (by decide) hC))) (by decide)
 have hR64:R≤64:=by omega
 have hC64:C≤64:=by omega
 have hP64:P≤64:=by omega
 obtain⟨Hl,hHl⟩:∃l,l=hL R C (zG xs):=⟨_,rfl⟩
 have hHn:(Hl.map nz).length=R*C:=by rw[List.length_map,hHl];exact pE hx
 have hHb:Bd (zG (Hl.map nz)) 368064:=by rw[zQ,hHl];exact (zGJ hx).mono hh1
 obtain⟨Ul,hUl⟩:∃l,l=uL R C (zG xs):=⟨_,rfl⟩
 have hUn:(Ul.map nz).length=R*R:=by rw[List.length_map,hUl];exact uR hx
 have hUb:Bd (zG (Ul.map nz)) 368064:=by rw[zQ,hUl];exact (uS hx).mono hh1
 obtain⟨Ll,hLl⟩:∃l,l=dy R C (zG xs):=⟨_,rfl⟩
 have hLt:Ll=tab (P*C) C fun i k=>cf Hl ((0+i)*C+k):=by rw[hLl,hP,hHl];rfl
 have hLn:(Ll.map nz).length=P*C:=by rw[List.length_map,hLt,qi]
 have hLb:Bd (zG (Ll.map nz)) (4*K+25):=by rw[zQ,hLl];exact dx hx hR
 obtain⟨Gl,hGl⟩:∃l,l=gmL P C Ll:=⟨_,rfl⟩
 have hGn:(Gl.map nz).length=P*P:=by rw[List.length_map,hGl,lT]
 refine .sr fun k1=>.box (.t rfl) rfl fun b1=>.box (.t rfl) rfl fun b2=>.box (.t rfl) rfl fun b3=>.alloc [isI 0,isI 0,SlK 2 zc ([]:List (Bool×List Nat))] zX (fun _ _=>⟨⟨rfl,by decide,by decide⟩,⟨rfl,by decide,by decide⟩,vm,trivial⟩) rfl fun b4=>.alloc [isI 0,isI 0,SlK 2 zc ([]:List (Bool×List Nat))] zX (fun _ _=>⟨⟨rfl,by decide,by decide⟩,⟨rfl,by decide,by decide⟩,vm,trivial⟩) rfl fun b5=>st (.as (.cI 0 rfl)) rfl (st (.as (.cI 0 rfl)) rfl (nkQ k1 (.sr fun k2=>st (.load (.t rfl) (i:=4) rfl zL rfl (Ss':=[_,_,_]) rfl) rfl ?_)))
 refine st (.eq (.call (eM hx (by omega) hR64 hC64 hl) (.cons (.t rfl) .nil)) ((show _=zZ [xW R C Hl,xW R R Ul,isI 0] from by rw[hHl,hUl];rfl))) rfl ?_
 refine stM rfl (st (.ext (.t rfl) rfl) rfl (st (.ext (.t rfl) rfl) rfl (st (.ext (.t rfl) rfl) rfl (.alloc [isI 0,isI 0,SlK 2 zc ([]:List (Bool×List Nat))] zX (fun _ _=>⟨⟨rfl,by decide,by decide⟩,⟨rfl,by decide,by decide⟩,vm,trivial⟩) rfl fun b6=>.alloc [isI 0,isI 0,SlK 2 zc ([]:List (Bool×List Nat))] zX (fun _ _=>⟨⟨rfl,by decide,by decide⟩,⟨rfl,by decide,by decide⟩,vm,trivial⟩) rfl fun b7=>.store (.t rfl) (.t rfl) (i:=1) rfl zL rfl rfl (Ss':=[_,_,_]) rfl (M':=[_,(some _,zC [_,_,_]),_,_,_,_,_]) rfl (.store (.t rfl) (.t rfl) (i:=0) rfl zL rfl rfl (Ss':=[_,_,_]) rfl (M':=[(some _,zC [_,_,_]),_,_,_,_,_,_]) rfl (stM rfl (nkQ k2 (.w [4,5,6,7,8,9,10,11,12] rfl (.sq fun k3=>.sr fun k4=>stM rfl (st (.neI (.t rfl) (.cI 0 rfl)) rfl (nkQ k4 (.cd rfl (fun hc1=>?_) (fun hc1=>?_)))))))))))))
 ·exfalso;omega
 ·refine .skip (.nk k3 (.sr fun k5=>st (.load (.t rfl) (i:=1) rfl zL rfl (Ss':=[_,_,_]) rfl) rfl (st (.call (gV (K:=368064) hHb (by decide) hR64 hC64 hHn) (.cons (.t rfl) .nil)) rfl (st (.eq (.len wr (.t rfl)) ((show isI _=isI (P:Int) from zF (by rw[ju,zQ,hHl,hP])))) rfl (stM rfl (nkQ k5 (.w [4,5,6,7,8,9,10,11,12,13] rfl (.sr fun k6=>st (.load (.t rfl) (i:=1) rfl zL rfl (Ss':=[_,_,_]) rfl) rfl (stM rfl (st (.eq (.call (wj (lo:=0) (hi:=P) (K:=368064) hHb (by decide) hR64 hC64 hHn (Nat.zero_le _) hPR) (.cons (.t rfl) (.cons (.cI 0 rfl) (.cons (.t rfl) .nil)))) ((show _=zZ [xW P C Ll,isI 0] from by rw[zQ,hLt,Nat.sub_zero]))) rfl (st (.ext (.t rfl) rfl) rfl (st (.ext (.t rfl) rfl) rfl (st (.call xZ (.cons (.t rfl) (.cons (.t rfl) .nil))) rfl (.alloc [isI 0,isI 0,SlK 2 zc ([]:List (Bool×List Nat))] zX (fun _ _=>⟨⟨rfl,by decide,by decide⟩,⟨rfl,by decide,by decide⟩,vm,trivial⟩) rfl fun b8=>.store (.t rfl) (.t rfl) (i:=0) rfl zL rfl rfl (Ss':=[_,_,_]) rfl (M':=[(some _,zC [_,_,_]),_,_,_,_,_,_,_]) rfl (nkQ k6 (.w [4,5,6,7,8,9,10,11,12,13,14] rfl (.sr fun k7=>st (.load (.t rfl) (i:=0) rfl zL rfl (Ss':=[_,_,_]) rfl) rfl (st (.eq (.call (rq (R:=P) (C:=C) (K:=4*K+25) hLb (by omega) hP64 hC64 hLn) (.cons (.t rfl) .nil)) ((show _=zZ [xW P P Gl,isI 0] from by rw[zQ,hGl]))) rfl (st (.ext (.t rfl) rfl) rfl (st (.ext (.t rfl) rfl) rfl (st (.call xZ (.cons (.t rfl) (.cons (.t rfl) .nil))) rfl (.alloc [isI 0,isI 0,SlK 2 zc ([]:List (Bool×List Nat))] zX (fun _ _=>⟨⟨rfl,by decide,by decide⟩,⟨rfl,by decide,by decide⟩,vm,trivial⟩) rfl fun b9=>.store (.t rfl) (.t rfl) (i:=0) rfl zL rfl rfl (Ss':=[_,_,_]) rfl (M':=[(some _,zC [_,_,_]),_,_,_,_,_,_,_,_]) rfl (nkQ k7 (.w [4,5,6,7,8,9,10,11,12,13,14,15] rfl (.sr fun k8=>st (.load (.t rfl) (i:=0) rfl zL rfl (Ss':=[_,_,_]) rfl) rfl ?_)))))))))))))))))))))))))
  refine st (.load (.t rfl) (i:=7) rfl zE rfl (Ss':=[_,_]) rfl) rfl (st (.load (.t rfl) (i:=6) rfl zE rfl (Ss':=[_,_]) rfl) rfl (st (.call (gM hP64 hGn hpw hqw hmy) (.cons (.t rfl) (.cons (.t rfl) (.cons (.t rfl) .nil)))) rfl (stM rfl (st (.ext (.t rfl) rfl) rfl (st (.ext (.t rfl) rfl) rfl (st (.ext (.t rfl) rfl) rfl (.alloc [isI 0,isI 0,SlK 2 zc ([]:List (Bool×List Nat))] zX (fun _ _=>⟨⟨rfl,by decide,by decide⟩,⟨rfl,by decide,by decide⟩,vm,trivial⟩) rfl fun b10=>.store (.t rfl) (.t rfl) (i:=0) rfl zL rfl rfl (Ss':=[_,_,_]) rfl (M':=[(some _,zC [_,_,_]),_,_,_,_,_,_,_,_,_]) rfl (stM rfl (stM rfl (nkQ k8 (.w [6,7,8,9,10,11,12,13,14,16,17] rfl (.sq fun k9=>.sr fun k10=>stM rfl (st (.neI (.t rfl) (.cI 0 rfl)) rfl (nkQ k10 (.cd rfl (fun hc2=>?_) (fun hc2=>?_))))))))))))))))
  ·refine .sr fun k11=>st (.build [isI 0,isI 0,SlK 2 zc ([]:List (Bool×List Nat))] bx zX (fun _ _=>⟨⟨rfl,by decide,by decide⟩,⟨rfl,by decide,by decide⟩,vm,trivial⟩) .nil (Z'':=[_,_,_]) rfl) rfl (st (.build [isI 0,isI 0,SlK 2 zc ([]:List (Bool×List Nat))] bx zX (fun _ _=>⟨⟨rfl,by decide,by decide⟩,⟨rfl,by decide,by decide⟩,vm,trivial⟩) .nil (Z'':=[_,_,_]) rfl) rfl (stM rfl (.store (.t rfl) (.t rfl) (i:=6) rfl zL rfl rfl (Ss':=[_,_,_]) rfl (M':=[_,_,_,_,_,_,(some _,zC [_,_,_]),_,_,_]) rfl (.store (.t rfl) (.t rfl) (i:=5) rfl zL rfl rfl (Ss':=[_,_,_]) rfl (M':=[_,_,_,_,_,(some _,zC [_,_,_]),_,_,_,_]) rfl (st (.as (.cI 0 rfl)) rfl (stM rfl (nkQ k11 (.w [6,7,8,9,10,11,13,14,16,17] rfl (.ret (.thr (rtN (.inl rfl) Tryz.results6 rfl rfl (.cell rfl (i:=6) rfl zL rfl ?_ (.cell rfl (i:=5) rfl zL rfl ?_ (.tmp (Has.t' rfl ?_) (.tmp (Has.t' rfl ?_) .nil)))))))))))))))
   ·rfl
   ·rfl
   ·rfl
   ·rfl
  ·exfalso;omega
end Go.Proofs.YtchbfpcaibfkdaaGreat
namespace Go.Hp
open Go.Dt Go.Hn Go.Pz Go.Nt Go.Mz Go.En
/-! ### multiples, columns -/
/-! ### meets -/
/-! ### sizes of small ones -/
/-! ### what becomes noughts -/
def qe (L:List Int):Bool:=decide (∀j,j<L.length→cf L j=0)
theorem dX {L:List Int}:qe L=true↔∀j,j<L.length→cf L j=0:=by unfold qe;exact decide_eq_true_iff
theorem tv {L:List Int} {j:Nat} (hj:j<L.length) (h:cf L j≠0):false=qe L:=by
 cases e:qe L with
 | false=>rfl
 | true=>exact absurd (dX.1 e j hj) h
end Go.Hp
namespace Go.Proofs.YtchbfpcaibfkdaaGreat
open Go.En Go.RowKit
set_option maxRecDepth 10000
set_option maxHeartbeats 4000000
open Go.Nt
open Go.Pz
open Go.Mz
open Go.Hn
open Go.Hp
open Go.Dt
theorem oT {xs:List (Bool×List Nat)} {K:Nat} (hx:Bd (zG xs) K) (hK:K≤400000000):Ctr Tryz.prog 15 [SlK 2 zc xs] (isB (qe (zG xs))):=by
 refine Ctr.i Tryz.func15 rfl Tryz.ntmps15 fun w0 F0=>.w [0] rfl (.fact (Has.lenLt (Has.t (t:=0) rfl)) fun lt0=>.sr fun k1=>st (.as (.cB false)) rfl (nkQ k1 (.sq fun k2=>.sr fun k3=>st (.as (.cI 0 rfl)) rfl (nkQ k3 (.block (.loopF [0] (fun (z:{ i:Nat//i≤xs.length∧∀j,j<i→cf (zG xs) j=0 })=>match z with|⟨i,hI⟩=>[(3,isI (i:Int))]) (fun M=>fun (z:{ i:Nat//i≤xs.length∧∀j,j<i→cf (zG xs) j=0 })=>match z with|⟨i,hI⟩=>M) (fun (z:{ i:Nat//i≤xs.length∧∀j,j<i→cf (zG xs) j=0 })=>match z with|⟨i,hI⟩=>xs.length-i) (⟨0,Nat.zero_le _,fun j hj=>absurd hj (Nat.not_lt_zero _)⟩) (Cv.mem (.c 3 rfl ?_ (.l [0] rfl)) ?_) ?_))))))
 ·rfl
 ·rfl
 rintro⟨i,hi,hq⟩ K4 hK4
 refine .w [3,0] rfl ?_
 have hxr:=hx.raw (i:Int).toNat
 refine .sq fun k5=>.sr fun k6=>stM rfl (stM rfl (st (.len zz (.t rfl)) rfl (st (.ltI (.t rfl) (.t rfl)) rfl (nkQ k6 (.cd rfl (fun hc1=>?_) (fun hc1=>?_))))))
 ·refine .skip (.nk k5 (.sq fun k7=>.block (.sr fun k8=>stM rfl (stM rfl (st (.ixK zz zE (.t rfl) (.t rfl) zN (by omega) (getD_some (d:=(false,[])) (by first|omega|(simp only[Int.toNat_natCast,List.length_set];omega)))) rfl ?_)))))
  refine st (.loadP (.t rfl) zE rfl (Ss':=[_,_]) rfl) rfl (st (.eq (.call (qC (by omega)) (.cons (.t rfl) .nil)) ((show _=isI (sgn (cf (zG xs) i)) from zF (by rw[qb];rfl)))) rfl ?_)
  refine st (.neI (.t rfl) (.cI 0 rfl)) rfl (nkQ k8 (.cd rfl (fun hc2=>?_) (fun hc2=>?_)))
  ·have HQ:¬cf (zG xs) i=0:=fun e=>hc2 ((xQ _).2 e)
   refine .sr fun k9=>st (.as (.cB false)) rfl (nkQ k9 (.ret (.blr (.thr (.thr (.blr (.thr (rt1 (.inl rfl) Tryz.results15 rfl (.tmp (Has.t' rfl ?_) .nil)))))))))
   all_goals (exact zl (tv (by rw[xy];omega) HQ))
  ·have HQ:cf (zG xs) i=0:=(xQ _).1 hc2
   refine .skip (.bln (.nk k7 (.region (stM rfl (st (.addI (.t rfl) (.cI 1 rfl) (by first|omega|assumption) (by first|omega|assumption)) rfl (stM rfl (nl (.thn ?_))))))))
   refine hK4 (⟨i+1,by omega,fun j hj=>by rcases Nat.lt_or_ge j i with h|h;exact hq j h;obtain rfl:j=i:=(by omega);exact HQ⟩) _ _ ?_ (Cv.mem (.c 3 rfl ?_ (.l [0] rfl)) ?_)
   ·show xs.length-(i+1)<xs.length-i;omega
   ·exact zF (by omega)
   ·rfl
 ·refine .exit (.the (.the (.blh (.nk k2 (.cv (Cv.wk .nil) (.sr fun k10=>st (.as (.cB true)) rfl (nkQ k10 (.ret (rt1 (.inl rfl) Tryz.results15 rfl (.tmp (Has.t' rfl ?_) .nil))))))))))
  all_goals (exact zl (dX.2 fun j hj=>hq j (by rw[xy] at hj;omega)).symm)
theorem df {R K:Nat} {l:List Int} (hx:Bd l K) (hK:K≤10000000) (hR:R≤64) (hl:l.length=R*R) (hd:(det R (mf R l)).natAbs=1):Ctr Tryz.prog 11 [isM (R:Int) (R:Int) (l.map nz)] (isB true):=by
 refine Ctr.i Tryz.func11 rfl Tryz.ntmps11 fun w0 F0=>.w [0] rfl ?_
 have hfo:xc (R:Int) (R:Int) (l.map nz).length=true:=qK hR hR (by rw[List.length_map];exact hl)
 obtain⟨d,hde⟩:∃d,d=det R (mf R l):=⟨_,rfl⟩
 rw[←hde] at hd
 have h1:=di
 have hdw:(List.length (zA d.natAbs))=1:=by rw[hd];exact gE
 refine .sr fun k1=>.box (.t rfl) rfl fun b1=>st (.as (.cB false)) rfl (nkQ k1 (.sq fun k2=>.sr fun k3=>st (.load (.t rfl) (i:=0) rfl zL rfl (Ss':=[_,_,_]) rfl) rfl (st (.eq (.call (vk) (.cons (.t rfl) .nil)) ((show isB _=isB true from zl (hfo)))) rfl (st (.not (.t rfl)) rfl (stM rfl (stF rfl rfl (fun hg=>.fieldAddr (.t rfl) zY ty3) rfl (stF rfl rfl (fun hg=>.load1 (Has.g rfl hg) (i:=0) rfl ty3 rfl) rfl (stF rfl rfl (fun hg=>.fieldAddr (.t rfl) zo ty3) rfl (stF rfl rfl (fun hg=>.load1 (Has.g rfl hg) (i:=0) rfl ty3 rfl) rfl (stF rfl rfl (fun hg=>.neI (Has.g rfl hg) (Has.g rfl hg)) rfl (st (.pickOr (.t rfl) (fun h=>Has.g rfl (ng h))) rfl (nkQ k3 (.w [1,2,12] rfl (.cd rfl (fun hc1=>?_) (fun hc1=>?_)))))))))))))))
 ·exfalso;simp at hc1
 ·refine .skip (.nk k2 (.sr fun k4=>st (.load (.t rfl) (i:=0) rfl zL rfl (Ss':=[_,_,_]) rfl) rfl (st (.eq (.call (dg (xs:=l.map nz) (by rw[zQ];exact hx) hK hR (by rw[List.length_map];exact hl)) (.cons (.t rfl) .nil)) ((show _=isZ d from zO (by rw[zQ,hde])))) rfl ?_)))
  refine st (.eq (.call (cb (by rw[zB];omega)) (.cons (.t rfl) .nil)) ((show _=isZ 1 from zO (by rw[zH,hd];rfl)))) rfl ?_
  refine st (.call (xC) (.cons (.cI 1 rfl) .nil)) rfl (st (.eq (.call (bK (by rw[zB];omega) (by rw[zB];omega)) (.cons (.t rfl) (.cons (.t rfl) .nil))) ((show isB _=isB true from zl (decide_eq_true (by first|rfl|simp only[zH]))))) rfl ?_)
  refine stM rfl (nkQ k4 (.w [2] rfl (.ret (rt1 (.inl rfl) Tryz.results11 rfl (.tmp (Has.t' rfl ?_) .nil)))))
  all_goals (rfl)
end Go.Proofs.YtchbfpcaibfkdaaGreat
namespace Go.Proofs.YtchbfpcaibfkdaaGreat
open Go.En Go.RowKit
set_option maxRecDepth 10000
set_option maxHeartbeats 4000000
open Go.Nt
open Go.Pz
open Go.Mz
open Go.Hn
open Go.Hp
open Go.Dt
open Go.Ll
open Go.Ll
theorem may_q {p q:Int} (h:(decide (0<sgn q)&&decide (0<ql (p*4) q)&&decide (ql p q<0))=true):0<q∧p<q:=by
 simp only[Bool.and_eq_true,decide_eq_true_eq] at h
 obtain⟨⟨h1,_⟩,h3⟩:=h
 refine⟨(aL _).1 h1,Classical.byContradiction fun hn=>?_⟩
 unfold ql at h3
 rw[if_neg hn] at h3
 split at h3 <;> omega
theorem zFS {l:List Int} {K:Nat} (h:Bd l K) (z:Nat):Bd (l.take z) K:=fun j=>by
 rcases Nat.lt_or_ge j z with g|g
 ·rw[Go.Ll.cf_takeZ g];exact h j
 ·rw[je (by rw[List.length_take];exact Nat.le_trans (Nat.min_le_left _ _) g),Int.natAbs_zero,zJ];exact Nat.zero_le _
theorem dS (r c:Int) (xs:List (Bool×List Nat)) (hf:xc r c xs.length=false) (m:Bool) (ps:List Nat) (n:Bool) (ws:List Nat):Ctr Tryz.prog 3 [isM r c xs,zk [isB m,zD ps],zk [isB n,zD ws]] (isB true):=by
 refine Ctr.i Tryz.func3 rfl Tryz.ntmps3 fun w0 F0=>.w [0,1,2] rfl (.fact (Has.okZ (Has.t (t:=1) rfl)) fun okz1=>.fact (Has.okZ (Has.t (t:=2) rfl)) fun okz2=>.sr fun k1=>.box (.t rfl) rfl fun b1=>.box (.t rfl) rfl fun b2=>.box (.t rfl) rfl fun b3=>st (.as (.cB false)) rfl (nkQ k1 (.sq fun k2=>.sr fun k3=>st (.call vG .nil) rfl (st (.not (.t rfl)) rfl (stM rfl (stF rfl rfl (fun hg=>.load (.t rfl) (i:=2) rfl zL rfl (Ss':=[_,_,_]) rfl) rfl (stF rfl rfl (fun hg=>.call (dh) (.cons (Has.g rfl hg) (.cons (.cI 4 rfl) (.cons (.cI 1 rfl) .nil)))) rfl (stF rfl rfl (fun hg=>.not (Has.g rfl hg)) rfl (st (.pickOr (.t rfl) (fun h=>Has.g rfl (ng h))) rfl (stM rfl (stF rfl rfl (fun hg=>.fieldAddr (.t rfl) qM qc) rfl (stF rfl rfl (fun hg=>.load1 (Has.g rfl hg) (i:=1) rfl qc rfl) rfl (stF rfl rfl (fun hg=>.len zh (Has.g rfl hg)) rfl (stF rfl rfl (fun hg=>.gtI (Has.g rfl hg) (.cI 1 rfl)) rfl (st (.pickOr (.t rfl) (fun h=>Has.g rfl (ng h))) rfl (stM rfl (stF rfl rfl (fun hg=>.fieldAddr (.t rfl) qM qc) rfl ?_)))))))))))))))))
 refine stF rfl rfl (fun hg=>.load1 (Has.g rfl hg) (i:=0) rfl qc rfl) rfl (stF rfl rfl (fun hg=>.len zh (Has.g rfl hg)) rfl (stF rfl rfl (fun hg=>.gtI (Has.g rfl hg) (.cI 1 rfl)) rfl (st (.pickOr (.t rfl) (fun h=>Has.g rfl (ng h))) rfl (nkQ k3 (.w [3,4,5,6,33] rfl (.cd rfl (fun hc1=>?_) (fun hc1=>?_)))))))
 ·refine .sr fun k4=>st (.call vG .nil) rfl (stM rfl (nkQ k4 (.ret (.thr (rt1 (.inl rfl) Tryz.results3 rfl (.tmp (Has.t' rfl ?_) .nil))))))
  all_goals (rfl)
 ·refine .skip (.nk k2 (.sr fun k5=>st (.load (.t rfl) (i:=2) rfl zL rfl (Ss':=[_,_,_]) rfl) rfl (st (.load (.t rfl) (i:=1) rfl zE rfl (Ss':=[_,_]) rfl) rfl (st (.load (.t rfl) (i:=0) rfl zE rfl (Ss':=[_,_]) rfl) rfl (st (.call (eW hf) (.cons (.t rfl) (.cons (.t rfl) (.cons (.t rfl) .nil)))) rfl (stM rfl (st (.ext (.t rfl) rfl) rfl (st (.ext (.t rfl) rfl) rfl (st (.ext (.t rfl) rfl) rfl (st (.ext (.t rfl) rfl) rfl (.alloc [isI 0,isI 0,zi] zX (fun _ _=>⟨⟨rfl,by decide,by decide⟩,⟨rfl,by decide,by decide⟩,rfl,trivial⟩) rfl fun b4=>.alloc [isI 0,isI 0,zi] zX (fun _ _=>⟨⟨rfl,by decide,by decide⟩,⟨rfl,by decide,by decide⟩,rfl,trivial⟩) rfl fun b5=>.store (.t rfl) (.t rfl) (i:=1) rfl zL rfl rfl (Ss':=[_,_,_]) rfl (M':=[_,(some _,zC [_,_,_]),_,_,_]) rfl (.store (.t rfl) (.t rfl) (i:=0) rfl zL rfl rfl (Ss':=[_,_,_]) rfl (M':=[(some _,zC [_,_,_]),_,_,_,_]) rfl (stM rfl (stM rfl (nkQ k5 (.w [3,4,5,6,7,8,9,10] rfl (.sq fun k6=>.sr fun k7=>st (.load (.t rfl) (i:=4) rfl zL rfl (Ss':=[_,_,_]) rfl) rfl (st (.eq (.call (vk) (.cons (.t rfl) .nil)) ((show isB _=isB false from zl (hf)))) rfl (st (.not (.t rfl)) rfl (nkQ k7 (.cd rfl (fun hc2=>?_) (fun hc2=>?_))))))))))))))))))))))
  ·refine .sr fun k8=>stM rfl (st (.eqI (.t rfl) (.cI 2 rfl)) rfl (stM rfl (stT rfl rfl (fun hg=>.mv (.t rfl)) rfl (stT rfl rfl (fun hg=>.eqI (Has.g rfl hg) (.cI 0 rfl)) rfl (st (.pickAnd (.t rfl) (fun h=>Has.g rfl h)) rfl (stM rfl (stT rfl rfl (fun hg=>.load (.t rfl) (i:=1) rfl zL rfl (Ss':=[_,_,_]) rfl) rfl (stT rfl rfl (fun hg=>.call (aM (r:=0) (c:=0) (xs:=[])) (.cons (Has.g rfl hg) .nil)) rfl (st (.pickAnd (.t rfl) (fun h=>Has.g rfl h)) rfl (stM rfl (stT rfl rfl (fun hg=>.load (.t rfl) (i:=0) rfl zL rfl (Ss':=[_,_,_]) rfl) rfl (stT rfl rfl (fun hg=>.call (aM (r:=0) (c:=0) (xs:=[])) (.cons (Has.g rfl hg) .nil)) rfl (st (.pickAnd (.t rfl) (fun h=>Has.g rfl h)) rfl (stM rfl (nkQ k8 (.w [3,4,5,6,7,8,9,10] rfl (.ret (.thr (rt1 (.inl rfl) Tryz.results3 rfl (.tmp (Has.t' rfl ?_) .nil))))))))))))))))))))
   all_goals (rfl)
  ·exfalso;simp at hc2
theorem dT (R C:Nat) (xs:List (Bool×List Nat)) (hR:R≤64) (hC:C≤64) (hl:xs.length=R*C) (m:Bool) (ps:List Nat) (n:Bool) (ws:List Nat) (hmy:(decide (0<sgn (zv n ws))&&decide (0<ql (zv m ps*4) (zv n ws))&&decide (ql (zv m ps) (zv n ws)<0))=false):Ctr Tryz.prog 3 [isM (R:Int) (C:Int) xs,zk [isB m,zD ps],zk [isB n,zD ws]] (isB true):=by
 refine Ctr.i Tryz.func3 rfl Tryz.ntmps3 fun w0 F0=>.w [0,1,2] rfl (.fact (Has.okZ (Has.t (t:=1) rfl)) fun okz1=>.fact (Has.okZ (Has.t (t:=2) rfl)) fun okz2=>.fact (Has.okM (Has.t (t:=0) rfl)) fun okp0=>?_)
 have hfo:=qK hR hC hl
 refine .sr fun k1=>.box (.t rfl) rfl fun b1=>.box (.t rfl) rfl fun b2=>.box (.t rfl) rfl fun b3=>st (.as (.cB false)) rfl (nkQ k1 (.sq fun k2=>.sr fun k3=>st (.call vG .nil) rfl (st (.not (.t rfl)) rfl (stM rfl (stF rfl rfl (fun hg=>.load (.t rfl) (i:=2) rfl zL rfl (Ss':=[_,_,_]) rfl) rfl (stF rfl rfl (fun hg=>.call (dh) (.cons (Has.g rfl hg) (.cons (.cI 4 rfl) (.cons (.cI 1 rfl) .nil)))) rfl (stF rfl rfl (fun hg=>.not (Has.g rfl hg)) rfl (st (.pickOr (.t rfl) (fun h=>Has.g rfl (ng h))) rfl (stM rfl (stF rfl rfl (fun hg=>.fieldAddr (.t rfl) qM qc) rfl (stF rfl rfl (fun hg=>.load1 (Has.g rfl hg) (i:=1) rfl qc rfl) rfl (stF rfl rfl (fun hg=>.len zh (Has.g rfl hg)) rfl (stF rfl rfl (fun hg=>.gtI (Has.g rfl hg) (.cI 1 rfl)) rfl (st (.pickOr (.t rfl) (fun h=>Has.g rfl (ng h))) rfl (stM rfl (stF rfl rfl (fun hg=>.fieldAddr (.t rfl) qM qc) rfl (stF rfl rfl (fun hg=>.load1 (Has.g rfl hg) (i:=0) rfl qc rfl) rfl (stF rfl rfl (fun hg=>.len zh (Has.g rfl hg)) rfl (stF rfl rfl (fun hg=>.gtI (Has.g rfl hg) (.cI 1 rfl)) rfl (st (.pickOr (.t rfl) (fun h=>Has.g rfl (ng h))) rfl ?_))))))))))))))))))))
 refine nkQ k3 (.w [3,4,5,6,33] rfl (.cd rfl (fun hc1=>?_) (fun hc1=>?_)))
 ·refine .sr fun k4=>st (.call vG .nil) rfl (stM rfl (nkQ k4 (.ret (.thr (rt1 (.inl rfl) Tryz.results3 rfl (.tmp (Has.t' rfl ?_) .nil))))))
  all_goals (rfl)
 ·have HF0:(((R:Int)≤4∧(C:Int)≤4)∧iR xs 100 1=true)∧((ps.length:Nat):Int)≤1∧((ws.length:Nat):Int)≤1:=(by simpa [and_assoc] using hc1)
  obtain⟨⟨⟨hR5,hC5⟩,HF⟩,hp1,hw1⟩:=HF0
  obtain⟨hl0,hb⟩:=sA (N:=100) (K:=1) okp0 HF rfl rfl (by decide)
  have hR4:R≤4:=by omega
  have hC4:C≤4:=by omega
  have hpv:=wX okz1.1
  have hwv:=wX okz2.1
  have hpw:(List.length (zA (val ps)))≤1000:=by omega
  have hqw:(List.length (zA (val ws)))≤1000:=by omega
  have hmay:(decide (0<sgn (zv n ws))&&decide (0<ql (4*zv m ps) (zv n ws))&&decide (ql (zv m ps) (zv n ws)<0))=false:=by rw[Int.mul_comm 4];exact hmy
  refine .skip (.nk k2 (.sr fun k5=>st (.load (.t rfl) (i:=2) rfl zL rfl (Ss':=[_,_,_]) rfl) rfl (st (.load (.t rfl) (i:=1) rfl zE rfl (Ss':=[_,_]) rfl) rfl (st (.load (.t rfl) (i:=0) rfl zE rfl (Ss':=[_,_]) rfl) rfl (st (.call (eX (K:=1) hb (by decide) hR4 hC4 hl hpw hqw hmy) (.cons (.t rfl) (.cons (.t rfl) (.cons (.t rfl) .nil)))) rfl (stM rfl (st (.ext (.t rfl) rfl) rfl (st (.ext (.t rfl) rfl) rfl (st (.ext (.t rfl) rfl) rfl (st (.ext (.t rfl) rfl) rfl (.alloc [isI 0,isI 0,zi] zX (fun _ _=>⟨⟨rfl,by decide,by decide⟩,⟨rfl,by decide,by decide⟩,rfl,trivial⟩) rfl fun b4=>.alloc [isI 0,isI 0,zi] zX (fun _ _=>⟨⟨rfl,by decide,by decide⟩,⟨rfl,by decide,by decide⟩,rfl,trivial⟩) rfl fun b5=>.store (.t rfl) (.t rfl) (i:=1) rfl zL rfl rfl (Ss':=[_,_,_]) rfl (M':=[_,(some _,zC [_,_,_]),_,_,_]) rfl (.store (.t rfl) (.t rfl) (i:=0) rfl zL rfl rfl (Ss':=[_,_,_]) rfl (M':=[(some _,zC [_,_,_]),_,_,_,_]) rfl (stM rfl (stM rfl (nkQ k5 (.w [3,4,5,6,7,8,9,10] rfl (.sq fun k6=>.sr fun k7=>st (.load (.t rfl) (i:=4) rfl zL rfl (Ss':=[_,_,_]) rfl) rfl (st (.eq (.call (vk) (.cons (.t rfl) .nil)) ((show isB _=isB true from zl (hfo)))) rfl (st (.not (.t rfl)) rfl (nkQ k7 (.cd rfl (fun hc2=>?_) (fun hc2=>?_))))))))))))))))))))))
  ·exfalso;simp at hc2
  ·refine .skip (.nk k6 (.sq fun k8=>.sr fun k9=>st (.load (.t rfl) (i:=3) rfl zE rfl (Ss':=[_,_]) rfl) rfl (st (.load (.t rfl) (i:=2) rfl zE rfl (Ss':=[_,_]) rfl) rfl (st (.eq (.call (io hpw hqw) (.cons (.t rfl) (.cons (.t rfl) .nil))) ((show isB _=isB false from zl (hmay)))) rfl (st (.not (.t rfl)) rfl (nkQ k9 (.w [3,4,5,6,7,8,9,10,64] rfl (.cd rfl (fun hc3=>?_) (fun hc3=>?_)))))))))
   ·refine .sr fun k10=>stM rfl (st (.eqI (.t rfl) (.cI 1 rfl)) rfl (stM rfl (stT rfl rfl (fun hg=>.mv (.t rfl)) rfl (stT rfl rfl (fun hg=>.eqI (Has.g rfl hg) (.cI 0 rfl)) rfl (st (.pickAnd (.t rfl) (fun h=>Has.g rfl h)) rfl (stM rfl (stT rfl rfl (fun hg=>.load (.t rfl) (i:=1) rfl zL rfl (Ss':=[_,_,_]) rfl) rfl (stT rfl rfl (fun hg=>.call (aM (r:=0) (c:=0) (xs:=[])) (.cons (Has.g rfl hg) .nil)) rfl (st (.pickAnd (.t rfl) (fun h=>Has.g rfl h)) rfl (stM rfl (stT rfl rfl (fun hg=>.load (.t rfl) (i:=0) rfl zL rfl (Ss':=[_,_,_]) rfl) rfl (stT rfl rfl (fun hg=>.call (aM (r:=0) (c:=0) (xs:=[])) (.cons (Has.g rfl hg) .nil)) rfl (st (.pickAnd (.t rfl) (fun h=>Has.g rfl h)) rfl (stM rfl (nkQ k10 (.w [3,4,5,6,7,8,9,10] rfl (.ret (.thr (rt1 (.inl rfl) Tryz.results3 rfl (.tmp (Has.t' rfl ?_) .nil))))))))))))))))))))
    all_goals (rfl)
   ·exfalso;simp at hc3
theorem eE (R C:Nat) (xs:List (Bool×List Nat)) (hR:R≤64) (hC:C≤64) (hl:xs.length=R*C) (m:Bool) (ps:List Nat) (n:Bool) (ws:List Nat) (hmy:(decide (0<sgn (zv n ws))&&decide (0<ql (zv m ps*4) (zv n ws))&&decide (ql (zv m ps) (zv n ws)<0))=true):CtrX Tryz.prog 3 [isM (R:Int) (C:Int) xs,zk [isB m,zD ps],zk [isB n,zD ws]] ([]) (fun S M=>S=isB true):=by
 refine CtrX.i Tryz.func3 rfl Tryz.ntmps3 fun w0 F0=>.w [0,1,2] rfl (.fact (Has.okZ (Has.t (t:=1) rfl)) fun okz1=>.fact (Has.okZ (Has.t (t:=2) rfl)) fun okz2=>.fact (Has.okM (Has.t (t:=0) rfl)) fun okp0=>?_)
 have hfo:=qK hR hC hl
 obtain⟨hq,hpq⟩:=may_q hmy
 refine .sr fun k1=>.box (.t rfl) rfl fun b1=>.box (.t rfl) rfl fun b2=>.box (.t rfl) rfl fun b3=>st (.as (.cB false)) rfl (nkQ k1 (.sq fun k2=>.sr fun k3=>st (.call vG .nil) rfl (st (.not (.t rfl)) rfl (stM rfl (stF rfl rfl (fun hg=>.load (.t rfl) (i:=2) rfl zL rfl (Ss':=[_,_,_]) rfl) rfl (stF rfl rfl (fun hg=>.call (dh) (.cons (Has.g rfl hg) (.cons (.cI 4 rfl) (.cons (.cI 1 rfl) .nil)))) rfl (stF rfl rfl (fun hg=>.not (Has.g rfl hg)) rfl (st (.pickOr (.t rfl) (fun h=>Has.g rfl (ng h))) rfl (stM rfl (stF rfl rfl (fun hg=>.fieldAddr (.t rfl) qM qc) rfl (stF rfl rfl (fun hg=>.load1 (Has.g rfl hg) (i:=1) rfl qc rfl) rfl (stF rfl rfl (fun hg=>.len zh (Has.g rfl hg)) rfl (stF rfl rfl (fun hg=>.gtI (Has.g rfl hg) (.cI 1 rfl)) rfl (st (.pickOr (.t rfl) (fun h=>Has.g rfl (ng h))) rfl (stM rfl (stF rfl rfl (fun hg=>.fieldAddr (.t rfl) qM qc) rfl (stF rfl rfl (fun hg=>.load1 (Has.g rfl hg) (i:=0) rfl qc rfl) rfl (stF rfl rfl (fun hg=>.len zh (Has.g rfl hg)) rfl (stF rfl rfl (fun hg=>.gtI (Has.g rfl hg) (.cI 1 rfl)) rfl (st (.pickOr (.t rfl) (fun h=>Has.g rfl (ng h))) rfl ?_))))))))))))))))))))
 refine nkQ k3 (.w [3,4,5,6,33] rfl (.cd rfl (fun hc1=>?_) (fun hc1=>?_)))
 ·refine .sr fun k4=>st (.call vG .nil) rfl (stM rfl (nkQ k4 (.ret (.thr (rG (.cons _ (.cons _ (.cons _ .slnil))) (.inl rfl) Tryz.results3 rfl (.tmp (.t rfl) .nil) (rfl))))))
 ·have HF0:(((R:Int)≤4∧(C:Int)≤4)∧iR xs 100 1=true)∧((ps.length:Nat):Int)≤1∧((ws.length:Nat):Int)≤1:=(by simpa [and_assoc] using hc1)
  obtain⟨⟨⟨hR5,hC5⟩,HF⟩,hp1,hw1⟩:=HF0
  obtain⟨hl0,hb⟩:=sA (N:=100) (K:=1) okp0 HF rfl rfl (by decide)
  have hR4:R≤4:=by omega
  have hC4:C≤4:=by omega
  have hpv:=wX okz1.1
  have hwv:=wX okz2.1
  have hpw:(List.length (zA (val ps)))≤1000:=by omega
  have hqw:(List.length (zA (val ws)))≤1000:=by omega
  have hmay:(decide (0<sgn (zv n ws))&&decide (0<ql (4*zv m ps) (zv n ws))&&decide (ql (zv m ps) (zv n ws)<0))=true:=by rw[Int.mul_comm 4];exact hmy
  refine .skip (.nk k2 (.sr fun k5=>st (.load (.t rfl) (i:=2) rfl zL rfl (Ss':=[_,_,_]) rfl) rfl (st (.load (.t rfl) (i:=1) rfl zE rfl (Ss':=[_,_]) rfl) rfl (st (.load (.t rfl) (i:=0) rfl zE rfl (Ss':=[_,_]) rfl) rfl (.callX (eO (K:=1) hb (by decide) hR4 hC4 hl hpw hqw hmy hq hpq) (List.Perm.refl _) (.cons (.t rfl) (.cons (.t rfl) (.cons (.t rfl) .nil))) rfl ?_)))))
  rintro _ _ ⟨c,ds',ls',us',k,Ml,Wl,rfl,rfl,hG⟩
  have hcs:=hG.swaps hb hR4 hC4 (by decide) hq
  rw[Go.Ll.wrap_small hcs]
  have hMb:Bd Ml 300:=(hG.bd hb hR4 hC4).mono (by decide)
  have hMl:=hG.len
  have hWb:=hG.wbd hb hR4 hC4 (by decide)
  have hWl:=hG.wlen
  have hdet:=hG.wdet hb
  have hprd:∀j,j<R*C→cf Ml j=cf (tab (R*C) C fun i k=>vI (fun j=>cf Wl (i*R+j)) (fun j=>cf (zG xs) (j*C+k)) R) j:=fun j hj=>by
   obtain⟨i,t,hi,ht,rfl⟩:=jv hj
   rw[xH _ ht hj,wP]
   exact hG.mul hb hi ht
  have hPR:=jS (R:=R) (C:=C) (L:=zG xs)
  obtain⟨P,hP⟩:∃P,P=rkL R C (zG xs):=⟨_,rfl⟩
  have hzt:∀j,j<(R-P)*C→cf (Ml.take ((R-P)*C)) j=0:=by rw[hP];exact hG.ztake hb
  have hBn:(Ml.drop ((R-P)*C)).length=P*C:=by rw[hP];exact hG.blen
  have hBb:Bd (Ml.drop ((R-P)*C)) 300:=by rw[hP];exact (hG.bbd hb hR4 hC4).mono (by decide)
  have hrd:RD C P (zv m ps) (zv n ws) (mf C (Ml.drop ((R-P)*C))):=by rw[hP];exact hG.rd
  rw[←hP] at hPR
  obtain⟨Bl,hBl⟩:∃l,l=Ml.drop ((R-P)*C):=⟨_,rfl⟩
  rw[←hBl] at hBn hBb hrd
  have hBn2:(Bl.map nz).length=P*C:=by rw[List.length_map];exact hBn
  obtain⟨Gl,hGl⟩:∃l,l=gmL P C Bl:=⟨_,rfl⟩
  have hGn:Gl.length=P*P:=by rw[hGl,lT]
  have hGb:Bd Gl 700:=by rw[hGl];exact (zAL hBb).mono (by omega)
  have hGg:∀i k,i<P→k<P→cf Gl (i*P+k)=ip C (mf C Bl i) (mf C Bl k):=fun i k hi hk=>by rw[hGl];exact zGL hi hk
  have hGs:∀i k,i<P→k<P→cf Gl (i*P+k)=cf Gl (k*P+i):=fun i k hi hk=>by rw[hGg i k hi hk,hGg k i hk hi,zf]
  have hGp:∀t,t≤P→0<mn (mf P Gl) (List.range t) (List.range t):=fun t ht=>by rw[zEH (n:=C) (A:=mf C Bl) ht fun i k hi hk=>hGg i k hi hk];exact hrd.pos t ht
  have hGr:∀i k,(List.length (zA (qj C (mf C Bl) i k).natAbs))≤604:=fun i k=>Nat.le_trans (zEW hBb i k) (by omega)
  have hQ5:(P+1)*(604+(P+1))+1≤4000:=by have:(P+1)*(604+(P+1))≤5*609:=Nat.mul_le_mul (by omega) (by omega);omega
  have hRR:=qT hR hR
  have hRC:=qT hR hC
  have hzc:(R-P)*C≤R*C:=Nat.mul_le_mul_right _ (Nat.sub_le _ _)
  refine stM rfl (st (.ext (.t rfl) rfl) rfl (st (.ext (.t rfl) rfl) rfl (st (.ext (.t rfl) rfl) rfl (st (.ext (.t rfl) rfl) rfl (.alloc [isI 0,isI 0,zi] zX (fun _ _=>⟨⟨rfl,by decide,by decide⟩,⟨rfl,by decide,by decide⟩,rfl,trivial⟩) rfl fun b4=>.alloc [isI 0,isI 0,zi] zX (fun _ _=>⟨⟨rfl,by decide,by decide⟩,⟨rfl,by decide,by decide⟩,rfl,trivial⟩) rfl fun b5=>.store (.t rfl) (.t rfl) (i:=1) rfl zL rfl rfl (Ss':=[_,_,_]) rfl (M':=[_,(some _,zC [_,_,_]),_,_,_]) rfl (.store (.t rfl) (.t rfl) (i:=0) rfl zL rfl rfl (Ss':=[_,_,_]) rfl (M':=[(some _,zC [_,_,_]),_,_,_,_]) rfl (stM rfl (stM rfl (nkQ k5 (.w [3,4,5,6,7,8,9,10] rfl (.sq fun k6=>.sr fun k7=>st (.load (.t rfl) (i:=4) rfl zL rfl (Ss':=[_,_,_]) rfl) rfl (st (.eq (.call (vk) (.cons (.t rfl) .nil)) ((show isB _=isB true from zl (hfo)))) rfl (st (.not (.t rfl)) rfl (nkQ k7 (.cd rfl (fun hc2=>?_) (fun hc2=>?_))))))))))))))))
  ·exfalso;simp at hc2
  ·refine .skip (.nk k6 (.sq fun k8=>.sr fun k9=>st (.load (.t rfl) (i:=3) rfl zE rfl (Ss':=[_,_]) rfl) rfl (st (.load (.t rfl) (i:=2) rfl zE rfl (Ss':=[_,_]) rfl) rfl (st (.eq (.call (io hpw hqw) (.cons (.t rfl) (.cons (.t rfl) .nil))) ((show isB _=isB true from zl (hmay)))) rfl (st (.not (.t rfl)) rfl (nkQ k9 (.w [3,4,5,6,7,8,9,10,64] rfl (.cd rfl (fun hc3=>?_) (fun hc3=>?_)))))))))
   ·exfalso;simp at hc3
   ·refine .skip (.nk k8 (.sq fun k10=>.sq fun k11=>.dr (.m [] rfl (.so [79] rfl (.neI (.t rfl) (.cI 0 rfl)) (.m [80] rfl (.s [81] rfl rfl rfl (.F rfl rfl rfl (fun hg=>.mv (.t rfl))) (.s [81,82] rfl rfl rfl (.F rfl rfl rfl (fun hg=>.ltI (Has.g rfl hg) (.cI 0 rfl))) (.so [81,83] rfl (.pickOr (.t rfl) (fun h=>Has.g rfl (ng h))) (.m [84] rfl (.s [85] rfl rfl rfl (.F rfl rfl rfl (fun hg=>.load (.t rfl) (i:=0) rfl zL rfl (Ss':=[_,_,_]) rfl)) ?_))))))))))
    refine .s [85,86] rfl rfl rfl (.F rfl rfl rfl (fun hg=>have hg':=BP.t hg;OK1.eq (.call (cw (l:=Wl) hWb (by decide) (by omega)) (.cons (Has.g rfl hg) .nil)) ((show isB _=isB true from zl (qK hR hR hWl))))) ?_
    refine .s [85,87] rfl rfl rfl (.F rfl rfl rfl (fun hg=>.not (Has.g rfl hg))) (.so [85,88] rfl (.pickOr (.t rfl) (fun h=>Has.g rfl (ng h))) (.m [89] rfl (.s [90] rfl rfl rfl (.F rfl rfl rfl (fun hg=>.fieldAddr (.t rfl) zY ty3)) (.s [90,91] rfl rfl rfl (.F rfl rfl rfl (fun hg=>.load1 (Has.g rfl hg) (i:=0) rfl ty3 rfl)) (.s [90] rfl rfl rfl (.F rfl rfl rfl (fun hg=>.fieldAddr (.t rfl) zY ty3)) (.s [90,93] rfl rfl rfl (.F rfl rfl rfl (fun hg=>.load1 (Has.g rfl hg) (i:=4) rfl ty3 rfl)) (.s [90,92,94] rfl rfl rfl (.F rfl rfl rfl (fun hg=>.neI (Has.g rfl hg) (Has.g rfl hg))) (.so [90,95] rfl (.pickOr (.t rfl) (fun h=>Has.g rfl (ng h))) (.m [96] rfl (.s [97] rfl rfl rfl (.F rfl rfl rfl (fun hg=>.load (.t rfl) (i:=0) rfl zL rfl (Ss':=[_,_,_]) rfl)) ?_))))))))))
    refine .s [97,98] rfl rfl rfl (.F rfl rfl rfl (fun hg=>have hg':=BP.t hg;OK1.call (df (l:=Wl) hWb (by decide) hR hWl hdet) (.cons (Has.g rfl hg) .nil))) ?_
    refine .s [97,99] rfl rfl rfl (.F rfl rfl rfl (fun hg=>.not (Has.g rfl hg))) (.so [97,100] rfl (.pickOr (.t rfl) (fun h=>Has.g rfl (ng h))) (.m [101] rfl (.s [102] rfl rfl rfl (.F rfl rfl rfl (fun hg=>.load (.t rfl) (i:=1) rfl zL rfl (Ss':=[_,_,_]) rfl)) (.s [102] rfl rfl rfl (.F rfl rfl rfl (fun hg=>.fieldAddr (.t rfl) zY ty3)) (.s [102,104] rfl rfl rfl (.F rfl rfl rfl (fun hg=>.load1 (Has.g rfl hg) (i:=4) rfl ty3 rfl)) (.s [102] rfl rfl rfl (.F rfl rfl rfl (fun hg=>.fieldAddr (.t rfl) zo ty3)) (.s [102,106] rfl rfl rfl (.F rfl rfl rfl (fun hg=>.load1 (Has.g rfl hg) (i:=4) rfl ty3 rfl)) (.s [102] rfl rfl rfl (.F rfl rfl rfl (fun hg=>.load (.t rfl) (i:=0) rfl zL rfl (Ss':=[_,_,_]) rfl)) (.s [102] rfl rfl rfl (.F rfl rfl rfl (fun hg=>.load (.t rfl) (i:=4) rfl zL rfl (Ss':=[_,_,_]) rfl)) ?_)))))))))
    refine .s [102,108,109] rfl rfl rfl (.F rfl rfl rfl (fun hg=>have hg':=BP.t hg;OK1.eq (.call (iq (R:=R) (C:=R) (D:=C) (K:=2000000) (N:=1) (xs:=Wl.map nz) (by rw[zQ];exact hWb) hb (by decide) hR hR hC (by rw[List.length_map];exact hWl) hl) (.cons (Has.g rfl hg) (.cons (Has.g rfl hg) .nil))) ((show _=isP (tab (R*C) C fun i k=>vI (fun j=>cf Wl (i*R+j)) (fun j=>cf (zG xs) (j*C+k)) R) from wM (by rw[zQ]))))) ?_
    refine .fn (n:=32) zW (.w [3,4,5,6,7,102,103,105,107,110] rfl ?_)
    refine stF rfl rfl (fun hg=>have hg':=BP.t hg;OK1.call (yB (K:=300) (N:=2000010) (l:=Ml) (ys:=(tab (R*C) C fun i k=>vI (fun j=>cf Wl (i*R+j)) (fun j=>cf (zG xs) (j*C+k)) R).map nz) hMb (by rw[zQ];exact (xr fun i k=>jC (K:=2000000) (L:=1) (fun _=>hWb _) (fun _=>hb _) R).mono (by omega)) (by decide) (by decide) hR hC hMl (by rw[List.length_map,qi]) (fun j hj=>by rw[zQ];exact hprd j hj)) (.cons (Has.g rfl hg) (.cons (Has.g rfl hg) (.cons (Has.g rfl hg) (.cons (Has.g rfl hg) .nil))))) rfl ?_
    refine stF rfl rfl (fun hg=>.not (Has.g rfl hg)) rfl (st (.pickOr (.t rfl) (fun h=>Has.g rfl (ng h))) rfl (nkQ k11 (.w [3,4,5,6,7,113] rfl (.cd rfl (fun hc4=>?_) (fun hc4=>?_)))))
    ·exfalso;simp at hc4;omega
    ·refine .skip (.nk k10 (.sr fun k12=>st (.load (.t rfl) (i:=4) rfl zL rfl (Ss':=[_,_,_]) rfl) rfl (st (.eq (.call (mN hb (by decide) (by omega) (by omega) hl) (.cons (.t rfl) .nil)) ((show isI _=isI (P:Int) from zF (by rw[hP])))) rfl (stM rfl (nkQ k12 (.sr fun k13=>st (.fieldAddr (.t rfl) zY ty3) rfl (st (.load1 (.t rfl) (i:=4) rfl ty3 rfl) rfl (stM rfl (st (.eq (.subI (.t rfl) (.t rfl) (by first|omega|assumption) (by first|omega|assumption)) ((show isI _=isI ((R-P:Nat):Int) from zF (by omega)))) rfl (stM rfl (nkQ k13 (.w [4,5,6,7,11,12] rfl (.sq fun k14=>.sr fun k15=>st (.fieldAddr (.t rfl) qU zP) rfl (st (.load1 (.t rfl) (i:=1) rfl zP rfl) rfl (stM rfl (st (.fieldAddr (.t rfl) zo ty3) rfl (st (.load1 (.t rfl) (i:=1) rfl ty3 rfl) rfl (st (.eq (.mulI (.t rfl) (.t rfl) (by first|omega|assumption) (by first|omega|assumption)) ((show isI _=isI (((R-P)*C:Nat):Int) from zF (Int.natCast_mul _ _).symm))) rfl ?_))))))))))))))))))
     refine st (.eq (.slHK zz zE zN (.t rfl) (.t rfl) ⟨by omega,by rw[List.length_map,hMl];omega⟩) ((show _=isP (Ml.take ((R-P)*C)) from ln (by rw[Int.toNat_natCast,List.map_take])))) rfl ?_
     refine st (.eq (.call (oT (K:=300) (xs:=(Ml.take ((R-P)*C)).map nz) (by rw[zQ];exact zFS hMb _) (by decide)) (.cons (.t rfl) .nil)) ((show isB _=isB true from zl (dX.2 fun j hj=>by rw[zQ] at hj ⊢;exact hzt j (Nat.lt_of_lt_of_le hj (by rw[List.length_take];exact Nat.min_le_left _ _)))))) rfl ?_
     refine st (.not (.t rfl)) rfl (nkQ k15 (.w [4,5,6,7,11,12,128] rfl (.cd rfl (fun hc5=>?_) (fun hc5=>?_))))
     ·exfalso;simp at hc5
     ·refine .skip (.nk k14 (.sq fun k16=>.drh [true,true,true,true,true] (Ms:=[_,_,_,_,_]) rfl (.m [] rfl (.so [] rfl (.fieldAddr (.t rfl) zo ty3) (.so [130] rfl (.load1 (.t rfl) (i:=1) rfl ty3 rfl) (.so [] rfl (.fieldAddr (.t rfl) qU zP) (.so [132] rfl (.load1 (.t rfl) (i:=1) rfl zP rfl) (.m [] rfl (.so [] rfl (.fieldAddr (.t rfl) zo ty3) (.so [135] rfl (.load1 (.t rfl) (i:=1) rfl ty3 rfl) (.so [134,136] rfl (.eq (.mulI (.t rfl) (.t rfl) (by first|omega|assumption) (by first|omega|assumption)) ((show isI _=isI (((R-P)*C:Nat):Int) from zF (Int.natCast_mul _ _).symm))) ?_)))))))))))
      refine .so [133,137] rfl (.eq (.slLK zz zE zN (.t rfl) (.t rfl) ⟨by omega,by rw[List.length_map,hMl];omega⟩) ((show _=isP Bl from ln (by rw[hBl,Int.toNat_natCast,List.map_drop])))) ?_
      refine .so [129,131,138] rfl (.build [isI 0,isI 0,zi] bx zX (fun _ _=>⟨⟨rfl,by decide,by decide⟩,⟨rfl,by decide,by decide⟩,rfl,trivial⟩) (.cons (.t rfl) rfl rfl rfl (.cons (.t rfl) rfl rfl rfl (.cons (.t rfl) rfl rfl rfl .nil))) (Z'':=[_,_,_]) rfl) (.als2 (n1:=12) (ds:=[13]) (zs:=[[isI 0,isI 0,zi]]) rfl (.cons rfl rfl zX (fun _ _=>⟨⟨rfl,by decide,by decide⟩,⟨rfl,by decide,by decide⟩,rfl,trivial⟩) .nil) (.cons_cons _ (.cons_cons _ (.cons_cons _ (.cons_cons _ (.cons_cons _ .slnil))))) (Cs:=[_]) rfl (.fn (n:=12) zW rfl (fun bs hbs=>?_)))
      obtain⟨b6,rfl⟩:=dw hbs
      refine .memEq (M':=[_,_,_,_,_,_]) rfl (.cv (Cv.wk (.k 4 rfl (.k 5 rfl (.k 6 rfl (.k 139 rfl (.cons (t:=13) (Has.op rfl) .nil)))))) (.store (.t rfl) (.t rfl) (i:=0) rfl zL rfl rfl (Ss':=[_,_,_]) rfl (M':=[(some _,zC [_,_,_]),_,_,_,_,_]) rfl (nkQ k16 (.sr fun k17=>st (.load (.t rfl) (i:=0) rfl zL rfl (Ss':=[_,_,_]) rfl) rfl (st (.eq (.call (yr (R:=P) (C:=C) (K:=300) (xs:=Bl.map nz) (by rw[zQ];exact hBb) (by decide) (by omega) hC hBn2) (.cons (.t rfl) .nil)) ((show _=xW P P Gl from by rw[zQ,hGl]))) rfl ?_)))))
      refine .alloc [isI 0,isI 0,zi] zX (fun _ _=>⟨⟨rfl,by decide,by decide⟩,⟨rfl,by decide,by decide⟩,rfl,trivial⟩) rfl fun b7=>.store (.t rfl) (.t rfl) (i:=0) rfl zL rfl rfl (Ss':=[_,_,_]) rfl (M':=[(some _,zC [_,_,_]),_,_,_,_,_,_]) rfl (nkQ k17 (.sr fun k18=>st (.load (.t rfl) (i:=0) rfl zL rfl (Ss':=[_,_,_]) rfl) rfl (st (.call (yA hGb (by decide) (by omega) hGn hGs hGp) (.cons (.t rfl) .nil)) rfl (stM rfl (stT rfl rfl (fun hg=>.load (.t rfl) (i:=0) rfl zL rfl (Ss':=[_,_,_]) rfl) rfl (stT rfl rfl (fun hg=>.load (.t rfl) (i:=5) rfl zE rfl (Ss':=[_,_]) rfl) rfl (stT rfl rfl (fun hg=>.load (.t rfl) (i:=4) rfl zE rfl (Ss':=[_,_]) rfl) rfl ?_)))))))
      refine stT rfl rfl (fun hg=>have hg':=BP.t hg;OK1.call (iL (n0:=C) (A:=mf C Bl) (K:=604) (Q:=4000) (by omega) hGn hGg hrd.pos hGr hQ5 (by decide) hpw hqw hq hrd) (.cons (Has.g rfl hg) (.cons (Has.g rfl hg) (.cons (Has.g rfl hg) .nil)))) rfl ?_
      refine st (.pickAnd (.t rfl) (fun h=>Has.g rfl h)) rfl (stM rfl (nkQ k18 (.w [6] rfl (.ret (rG (.cons _ (.cons _ (.cons _ (.cons _ (.cons _ (.cons _ (.cons _ .slnil))))))) (.inl rfl) Tryz.results3 rfl (.tmp (.t rfl) .nil) (rfl))))))
theorem iU (r c:Int) (xs:List (Bool×List Nat)) (m:Bool) (ps:List Nat) (n:Bool) (ws:List Nat):Ctr Tryz.prog 3 [isM r c xs,zk [isB m,zD ps],zk [isB n,zD ws]] (isB true):=by
  cases h:xc r c xs.length with
  | true=>
    obtain⟨R,C,rfl,rfl,h1,h2,h3⟩:=kL.1 h
    cases hm:(decide (0<sgn (zv n ws))&&decide (0<ql (zv m ps*4) (zv n ws))&&decide (ql (zv m ps) (zv n ws)<0)) with
    | true=>exact (eE R C xs h1 h2 h3 m ps n ws hm).toCtr fun S' M' hh=>hh
    | false=>exact dT R C xs h1 h2 h3 m ps n ws hm
  | false=>exact dS r c xs h m ps n ws
end Go.Proofs.YtchbfpcaibfkdaaGreat
namespace Go.En
open Go.RowKit Go.ChangeShapes Go.WideShapes Go.ChangeAt
theorem dA {α β:Type} (g h:α→β):∀(l:List α) (j:Nat),(l.flatMap fun a=>[g a,h a])[j]?=(l[j/2]?).map (fun a=>if j%2=0 then g a else h a)
  | [],j=>by simp
  | a::l,0=>by simp
  | a::l,1=>by simp
  | a::l,j+2=>by
    have:=dA g h l j
    rw[show (j+2)/2=j/2+1 by omega,show (j+2)%2=j%2 by omega]
    simpa using this
section
variable {H : Type} {enc : TypeId × Value → H} {P : Program}
end
end Go.En
namespace Go.En
open Go.RowKit Go.ChangeShapes Go.WideShapes Go.ChangeAt
section
variable {H : Type} {enc : TypeId × Value → H} {P : Program}
theorem rd_Zs {W:World} {T e tb ts T':TypeId} {fuel:Nat} {cs:List Value} {x:DataW H×List MemPlace} (hT:P.underlying T=some (.slice e)) (hfs:fsB P e=some [(tb,0),(ts,1)]) (hub:P.underlying tb=some .bool) (hu:P.underlying ts=some (.slice T')) (hu':P.underlying T'=some (.int .u64)) (hc:P.cellsOf T'=1) (hcb:P.cellsOf tb=1) (hcs:P.cellsOf ts=1) (hce:P.cellsOf e=2)
    (hf:DataW.trod enc P W 0 (fun _=>true) true fuel T cs=some x) (hps:∀y∈x.2,y.block<W.heap.size):∃(v:Value) (xs:List (Bool×List Nat)),cs=[v]∧(isZs xs).h W (fun b=>b<W.heap.size) v:=by
  obtain⟨d,ps⟩:=x
  obtain⟨fs,hue,hsz,hget⟩:=gc hfs
  obtain⟨f0,g0,rfl,e0⟩:=hget 0 tb 0 rfl
  obtain⟨f1,g1,rfl,e1⟩:=hget 1 ts 1 rfl
  have hfs2:fs=#[f0,f1]:=by
    apply Array.ext'
    have hl:fs.toList.length=2:=by simpa using hsz
    match hq:fs.toList,hl with
    | [p,q],_=>
      have a0:fs.toList[0]?=some f0:=by simpa using g0
      have a1:fs.toList[1]?=some f1:=by simpa using g1
      rw[hq] at a0 a1
      simp at a0 a1
      rw[a0,a1]
  subst hfs2
  rcases Deep.open_slice_pairs hT hue hce e0 e1 hcb hcs hf with ⟨h1,_⟩|⟨a,len,cap,m,n,V0,V1,D0,D1,P0,P1,h1,_,hlc,hcm,hm,hx,hel⟩
  · exact⟨_,[],h1,vm⟩
  · simp only[if_true] at hm
    subst m
    have hps':∀i,i<cap→∀y∈P1 i,y.block<W.heap.size:=fun i hi y hy=>hps y (by
      have:=(Prod.mk.inj hx).2
      rw[this]
      exact List.mem_append_right _ (List.mem_flatMap.2 ⟨i,List.mem_range.2 hi,List.mem_append_right _ hy⟩))
    obtain⟨l,hl,hgl⟩:=bC (p:=fun i (x:Bool×List Nat)=>V0 i=.bool x.1∧(zD x.2).h W (fun b=>b<W.heap.size) (V1 i)) len (fun i hi=>by
      obtain⟨_,_,q0,q1⟩:=hel i (by omega)
      obtain⟨b,hb,_⟩:=DataW.trod_bool hub q0
      obtain⟨v,ws,hv1,hw⟩:=yE hu hu' hc pf q1 (hps' i (by omega))
      obtain rfl:V1 i=v:=by simpa using hv1
      exact⟨(b,ws),by simpa using hb,hw⟩)
    refine⟨_,l,h1,some a,cap,by rw[hl],by rw[hl];exact hlc,hcm,xa zN l,?_⟩
    rcases Nat.eq_zero_or_pos len with h0|h0
    · exact .inl (by omega)
    · have hc0:=(hel 0 (by omega)).1
      have hs:a.spot=none:=by
        cases hsp:a.spot with
        | none=>rfl
        | some s=>
          simp only[Addr.add,Nat.zero_mul,if_true] at hc0
          unfold World.cell? at hc0
          rw[hsp] at hc0
          split at hc0 <;> simp at hc0
      obtain⟨b,off,sp⟩:=a
      simp only at hs
      subst hs
      right
      refine⟨b,off,rfl,?_,(List.range len).flatMap (fun i=>[V0 i,V1 i]),?_,fun j u hj=>?_⟩
      · have:MemPlace.cell b (off+0)∈ps:=by
          have:=(Prod.mk.inj hx).2
          rw[this]
          exact List.mem_append_left _ (List.mem_map.2 ⟨0,by simp;omega,rfl⟩)
        exact hps _ this
      · have hlen2:((List.range len).flatMap fun i=>[V0 i,V1 i]).length=len*2:=by
          have:=xa (fk:=fun (i:Nat)=>[isB true,isB true]) (k:=2) (fun _=>rfl) (List.range len)
          rw[List.length_flatMap] at this⊢
          simpa using this
        refine bI (by rw[xa zN,hlen2,hl]) (fun j S v hS hv=>?_)
        have hz:=dA (fun p:Bool×List Nat=>isB p.1) (fun p=>zD p.2) l j
        rw[show (l.flatMap fun a=>[isB a.1,zD a.2])=l.flatMap zc from rfl,hS] at hz
        have hw:=dA V0 V1 (List.range len) j
        rw[hv] at hw
        have hj:j/2<l.length:=by
          rcases Nat.lt_or_ge (j/2) l.length with h|h
          · exact h
          · rw[List.getElem?_eq_none h] at hz;cases hz
        rw[List.getElem?_eq_getElem hj] at hz
        rw[List.getElem?_range (by omega)] at hw
        simp only[Option.map_some,Option.some.injEq] at hz hw
        obtain⟨k1,k2⟩:=hgl (j/2) hj
        subst hz;subst hw
        by_cases hp:j%2=0
        · rw[if_pos hp,if_pos hp,k1];rfl
        · rw[if_neg hp,if_neg hp];exact k2
      · have hw:=dA V0 V1 (List.range len) j
        rw[hj] at hw
        have hjl:j/2<len:=by
          rcases Nat.lt_or_ge (j/2) len with h|h
          · exact h
          · rw[List.getElem?_eq_none (by simpa using h)] at hw;cases hw
        rw[List.getElem?_range hjl] at hw
        simp only[Option.map_some,Option.some.injEq] at hw
        obtain⟨q0,q1,_,_⟩:=hel (j/2) (by omega)
        rw[xN] at q0
        rw[xN] at q1
        by_cases hp:j%2=0
        · rw[if_pos hp] at hw;subst hw
          rw[show off+j=off+j/2*2 by omega];exact q0
        · rw[if_neg hp] at hw;subst hw
          rw[show off+j=off+(j/2*2+1) by omega];exact q1
theorem zIB {W:World} {base:Nat} {T ti tm e tb ts T':TypeId} {v:Value} {d:DataW H} {ps:List MemPlace} (hfM:fsB P T=some [(ti,0),(ti,1),(tm,2)]) (hui:P.underlying ti=some (.int .i64)) (hT:P.underlying tm=some (.slice e)) (hfs:fsB P e=some [(tb,0),(ts,1)]) (hub:P.underlying tb=some .bool) (hu:P.underlying ts=some (.slice T')) (hu':P.underlying T'=some (.int .u64)) (hc:P.cellsOf T'=1) (hcb:P.cellsOf tb=1) (hcs:P.cellsOf ts=1) (hce:P.cellsOf e=2)
    (hci:P.cellsOf ti=1) (hcm:P.cellsOf tm=1) (hcT:P.cellsOf T=3) (hv:Value.okWide P W .any base T v) (h:DataW.Trod enc P W 0 (fun _=>true) true T v d ps) (hps:∀x∈ps,x.block<W.heap.size):∃x:Int×Int×List (Bool×List Nat),(isM x.1 x.2.1 x.2.2).h W (fun b=>b<W.heap.size) v:=by
  obtain⟨fs,huT,hsz,hget⟩:=gc hfM
  have hv':=hv
  simp only[Value.okWide,huT] at hv'
  obtain⟨cs,rfl,_,_⟩:=hv'
  obtain⟨fuel,hf⟩:=h
  obtain⟨xs,m,_,hx,hl,hxl,hfe⟩:=DataW.trod_struct huT hf
  simp[Value.cells] at hl hx
  obtain⟨f0,g0,rfl,e0⟩:=hget 0 ti 0 rfl
  obtain⟨f1,g1,k1,e1⟩:=hget 1 _ 1 rfl
  obtain⟨f2,g2,rfl,e2⟩:=hget 2 tm 2 rfl
  have h0:=hfe 0 f0 g0
  have h1:=hfe 1 f1 g1
  have h2:=hfe 2 f2 g2
  rw[List.getElem?_eq_getElem (by rw[hxl,hsz];simp)] at h0 h1 h2
  rw[e0,hci] at h0
  rw[e1,k1,hci] at h1
  rw[e2,hcm] at h2
  obtain⟨r,hr,hr1,hr2⟩:=rd_I hui h0
  obtain⟨c,hc1,hc2,hc3⟩:=rd_I hui h1
  obtain⟨u,ws,hu1,hw⟩:=rd_Zs hT hfs hub hu hu' hc hcb hcs hce h2 (fun y hy=>hps y (by
    rw[hx.2]
    exact List.mem_flatMap.2 ⟨_,List.getElem_mem _,hy⟩))
  refine⟨(r,c,ws),cs.toList,by simp,?_⟩
  have hcs2:cs.toList=[.int .i64 r,.int .i64 c,u]:=by
    have hlen:cs.toList.length=3:=by rw[←hcT];simpa using hl
    match hq:cs.toList,hlen with
    | [p,q,t],_=>
      have a1:[p]=[Value.int .i64 r]:=by have:=hr;simpa [Value.cells,hq] using this
      have a2:[q]=[Value.int .i64 c]:=by have:=hc1;simpa [Value.cells,hq] using this
      have a3:[t]=[u]:=by have:=hu1;simpa [Value.cells,hq] using this
      rw[List.cons.inj a1 |>.1,List.cons.inj a2 |>.1,List.cons.inj a3 |>.1]
  rw[hcs2]
  exact⟨⟨rfl,hr1,hr2⟩,⟨rfl,hc2,hc3⟩,hw,trivial⟩
end
end Go.En
namespace Go.Proofs.YtchbfpcaibfkdaaGreat
open Go.En Go.RowKit
set_option maxRecDepth 10000
open Go.ChangeShapes
open Go.WideShapes
open Go.ChangeAt
open Go.Nt
open Go.Pz
open Go.Mz
theorem dB : zGO Tryz.prog Tryz.f3 3:=by
 intro H enc W base args ds ps hval hA hlt
 rw[Tryz.params3] at hA hval
 obtain⟨v0,vs0,d0,ds0,p0,q0,hargs,rfl,rfl,h0,r0⟩:=trodAll_cons hA
 obtain⟨v1,vs1,d1,ds1,p1,q1,rfl,rfl,rfl,h1,r1⟩:=trodAll_cons r0
 obtain⟨v2,vs2,d2,ds2,p2,q2,rfl,rfl,rfl,h2,r2⟩:=trodAll_cons r1
 obtain⟨rfl,rfl,rfl⟩:=trodAll_nil r2
 obtain rfl:args=#[v0,v1,v2]:=by cases args;simp_all
 obtain⟨x0,o0⟩:=zIB fs24 un3 un22 fs28 un4 zGZ sa (by kernel_rfl) (by kernel_rfl) (by kernel_rfl) (by kernel_rfl) (by kernel_rfl) (by kernel_rfl) (by kernel_rfl) (hval 0 24 v0 rfl rfl) h0 (fun x hx=>hlt x (by simp[hx]))
 obtain⟨x1,o1⟩:=yT fs28 un4 zGZ sa (by kernel_rfl) (by kernel_rfl) (by kernel_rfl) (by kernel_rfl) (hval 1 28 v1 rfl rfl) h1 (fun x hx=>hlt x (by simp[hx]))
 obtain⟨x2,o2⟩:=yT fs28 un4 zGZ sa (by kernel_rfl) (by kernel_rfl) (by kernel_rfl) (by kernel_rfl) (hval 2 28 v2 rfl rfl) h2 (fun x hx=>hlt x (by simp[hx]))
 refine⟨_,?_,iU x0.1 x0.2.1 x0.2.2 x1.1 x1.2 x2.1 x2.2⟩
 exact⟨o0,o1,o2,trivial⟩
theorem gP : Tryz.pinned.checked.prog.funcNamed Rows.gramReducesRow.func=some 3:=by kernel_rfl
theorem gR : joinedFacts Tryz.pinned.checked.prog 3 Tryz.f3 Rows.gramReducesSpec Rows.gramReducesRow=true:=by kernel_rfl
theorem gQ : laidOutB Tryz.checked.prog=true:=by kernel_rfl
theorem gramReduces_said : Rows.GramReducesSaid :=
 OpenClaim.holds_of_wide 3 Tryz.f3 rfl rfl rfl rfl rfl rfl rfl ⟨rfl, rfl, rfl, rfl, rfl⟩ rfl rfl rfl rfl rfl gP Tryz.func3 gR
  (of_decide_eq_true (by kernel_rfl)) (by unfold Func.isWrapper; first | (rw [if_pos (by decide +kernel)]; kernel_rfl) | (rw [if_neg (by decide +kernel)]; exact ⟨rfl, rfl⟩))
  (fun os started H enc _ => yo (C := Tryz.checked) (s := Rows.gramReducesSpec) (by kernel_rfl) started (by kernel_rfl) Tryz.func3
   (ChangeSpec.witness6 (enc := enc) (C := Tryz.checked) false ⟨#[], #[.agg #[.int .i64 0, .int .i64 0, .slice none 0 0], .agg #[.bool false, .slice none 0 0], .agg #[.bool false, .slice none 0 0]], []⟩ 8 (by kernel_rfl) (by kernel_rfl) (by kernel_rfl) (by kernel_rfl))
   gQ (by kernel_rfl) rfl rfl un4 (fun ds h => by match ds, h with | [d0, d1, d2], _ => rfl) dB)
#print axioms gramReduces_said
end Go.Proofs.YtchbfpcaibfkdaaGreat
