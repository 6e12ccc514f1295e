/- Rules and contracts, part 4 of 6. -/
import Derived.Test.YtchbfpcaibfkdaaGreatQGramReduces3
set_option linter.unusedVariables false
namespace Go.Proofs.YtchbfpcaibfkdaaGreat
open Go.En Go.RowKit
set_option maxRecDepth 10000
set_option maxHeartbeats 4000000
open Go.Nt
open Go.Pz
theorem oX {m:Bool} {xs:List Nat} (hx:(List.length (zA (val xs)))≤4000000000):Ctr Tryz.prog 44 [zk [isB m,zD xs]] (isQ ((zv m xs:Int):Rat)):=by
 refine Ctr.i Tryz.func44 rfl Tryz.ntmps44 fun w0 F0=>.w [0] rfl (.fact (Has.okZ (Has.t (t:=0) rfl)) fun okz0=>.sr fun k1=>.box (.t rfl) rfl fun b1=>.alloc [isB false,SlM isU [],isB false,SlM isU []] qu (fun _ _=>⟨rfl,nilM _ _,rfl,nilM _ _,trivial⟩) rfl fun b2=>nkQ k1 (.sr fun k2=>st (.fieldAddr (.t rfl) qM qc) rfl (st (.load1 (.t rfl) (i:=1) rfl qc rfl) rfl (st (.fieldAddr (.t rfl) xL ty4) rfl (st (.load1 (.t rfl) (i:=1) rfl ty4 rfl) rfl (st (.call (qq (by omega)) (.cons (.t rfl) (.cons (.t rfl) .nil))) rfl (st (.call (xC) (.cons (.cI 1 rfl) .nil)) rfl (st (.build [isB false,SlM isU [],isB false,SlM isU []] tA qu (fun _ _=>⟨rfl,nilM _ _,rfl,nilM _ _,trivial⟩) (.cons (.t rfl) rfl rfl rfl (.cons (.t rfl) rfl rfl rfl .nil)) (Z'':=[_,_,_,_]) rfl) rfl (.store (.t rfl) (.t rfl) (i:=0) rfl qI rfl rfl (Ss':=[_,_,_,_]) rfl (M':=[(some _,zC [_,_,_,_]),_]) rfl (nkQ k2 (.w [2] rfl (.ret (rt1 (.inl rfl) Tryz.results44 rfl (.cell rfl (i:=0) rfl qI rfl ?_ .nil))))))))))))))
 all_goals (rfl)
theorem fx {m n:Bool} {xs ys:List Nat} (hx:(List.length (zA (val xs)))≤4000000000) (hy:(List.length (zA (val ys)))≤4000000000) (h0:zv n ys≠0):Ctr Tryz.prog 43 [zk [isB m,zD xs],zk [isB n,zD ys]] (zZ [isQ (Rat.divInt (zv m xs) (zv n ys)),isB true]):=by
 refine Ctr.i Tryz.func43 rfl Tryz.ntmps43 fun w0 F0=>.w [0,1] rfl (.fact (Has.okZ (Has.t (t:=0) rfl)) fun okz0=>.fact (Has.okZ (Has.t (t:=1) rfl)) fun okz1=>?_)
 have ha:=xt m xs
 have hb:=xt n ys
 obtain⟨q,hqd⟩:∃q,q=(Rat.divInt (zv m xs) (zv n ys)):=⟨_,rfl⟩
 rw[←hqd]
 refine .sr fun k1=>.box (.t rfl) rfl fun b1=>.box (.t rfl) rfl fun b2=>.alloc [isB false,SlM isU [],isB false,SlM isU []] qu (fun _ _=>⟨rfl,nilM _ _,rfl,nilM _ _,trivial⟩) rfl fun b3=>st (.as (.cB false)) rfl (nkQ k1 (.sq fun k2=>.sr fun k3=>st (.load (.t rfl) (i:=1) rfl zE rfl (Ss':=[_,_]) rfl) rfl (st (.call (qC (by omega)) (.cons (.t rfl) .nil)) rfl (st (.eqI (.t rfl) (.cI 0 rfl)) rfl (nkQ k3 (.cd rfl (fun hc1=>?_) (fun hc1=>?_)))))))
 ·exact absurd ((xQ _).1 hc1) h0
 ·refine .skip (.nk k2 (.w [2,3,4,5] rfl (.sq fun k4=>.sr fun k5=>st (.load (.t rfl) (i:=1) rfl zE rfl (Ss':=[_,_]) rfl) rfl (st (.call (qC (by omega)) (.cons (.t rfl) .nil)) rfl (st (.ltI (.t rfl) (.cI 0 rfl)) rfl (nkQ k5 (.cd rfl (fun hc2=>?_) (fun hc2=>?_))))))))
  ·have hc2':=(ar _).1 hc2
   obtain⟨N,hN⟩:∃N,N = -(zv m xs):=⟨_,rfl⟩
   obtain⟨D,hD⟩:∃D,D = -(zv n ys):=⟨_,rfl⟩
   have hZ1:zv m xs = -N:=by omega
   have hZ2:zv n ys = -D:=by omega
   have hD0:0<D:=by omega
   have hR1:val xs=N.natAbs:=by have:=jK m xs;omega
   have hR2:val ys=D.natAbs:=by have:=jK n ys;omega
   have hNw:(List.length (zA N.natAbs))≤4000000000:=by rw[←hR1];exact hx
   have hDw:(List.length (zA D.natAbs))≤4000000000:=by rw[←hR2];exact hy
   obtain⟨hq1,hq2,hq3,hq4⟩:=yg (N:=N) hD0 (q:=q) (hqd.trans (by rw[hZ1,hZ2];try exact Rat.neg_divInt_neg _ _))
   have hgw:(List.length (zA (Nat.gcd N.natAbs D.natAbs)))≤4000000000:=Nat.le_trans (qF (Nat.le_of_dvd (by omega) (Nat.gcd_dvd_right _ _))) hDw
   obtain⟨g,hg⟩:∃g:Int,g=((Nat.gcd N.natAbs D.natAbs:Nat):Int):=⟨_,rfl⟩
   have hgw2:(List.length (zA g.natAbs))≤4000000000:=by rw[hg,Int.natAbs_natCast];exact hgw
   rw[←hg] at hq1 hq2 hq3 hq4
   refine .dr (.so [] rfl (.load (.t rfl) (i:=2) rfl zE rfl (Ss':=[_,_]) rfl) (.so [14] rfl (.call (vj (by omega)) (.cons (.t rfl) .nil)) (.so [] rfl (.load (.t rfl) (i:=1) rfl zE rfl (Ss':=[_,_]) rfl) (.fn (n:=3) zW (.w [2,3,4,5,15,16] rfl (st (.call (vj (by omega)) (.cons (.t rfl) .nil)) rfl (.store (.t rfl) (.t rfl) (i:=2) rfl zE rfl rfl (Ss':=[_,_]) rfl (M':=[_,_,(some _,zC [_,_])]) rfl (.store (.t rfl) (.t rfl) (i:=1) rfl zE rfl rfl (Ss':=[_,_]) rfl (M':=[_,(some _,zC [_,_]),_]) rfl (nkQ k4 (.sr fun k6=>st (.load (.t rfl) (i:=2) rfl zE rfl (Ss':=[_,_]) rfl) rfl (st (.load (.t rfl) (i:=1) rfl zE rfl (Ss':=[_,_]) rfl) rfl (st (.eq (.call (lu (by simp only[zB,zH,hZ1,hZ2,hR1,hR2,Int.neg_neg];omega) (by simp only[zB,zH,hZ1,hZ2,hR1,hR2,Int.neg_neg];omega)) (.cons (.t rfl) (.cons (.t rfl) .nil))) ((show isZ _=isZ g from zO (by rw[hg];simp only[zB,zH,hZ1,hZ2,hR1,hR2,Int.neg_neg])))) rfl ?_))))))))))))
   refine .alloc [isB false,SlM isU []] zK (fun _ _=>⟨rfl,nilM _ _,trivial⟩) rfl fun b4=>.store (.t rfl) (.t rfl) (i:=0) rfl zE rfl rfl (Ss':=[_,_]) rfl (M':=[(some _,zC [_,_]),_,_,_]) rfl (nkQ k6 (.w [2,3,4,5,6] rfl (.sr fun k7=>st (.load (.t rfl) (i:=3) rfl zE rfl (Ss':=[_,_]) rfl) rfl ?_)))
   refine st (.load (.t rfl) (i:=0) rfl zE rfl (Ss':=[_,_]) rfl) rfl (st (.eq (.call (xd (by simp only[zB,zH,hZ1,hZ2,hR1,hR2,Int.neg_neg];omega) (by simp only[zB,zH,hZ1,hZ2,hR1,hR2,Int.neg_neg];omega)) (.cons (.t rfl) (.cons (.t rfl) .nil))) ((show zZ [isZ _,isB _]=zZ [isZ (q.num),isB true] from by simp only[zB,zH,hZ1,hZ2,hR1,hR2,Int.neg_neg];rw[if_pos hq1,decide_eq_true hq1,hq2]))) rfl ?_)
   refine stM rfl (st (.ext (.t rfl) rfl) rfl (st (.ext (.t rfl) rfl) rfl (.store (.t rfl) (.t rfl) (i:=3) rfl zE rfl rfl (Ss':=[_,_]) rfl (M':=[_,_,_,(some _,zC [_,_])]) rfl (nkQ k7 (.w [2,3,4,5,6] rfl (.sr fun k8=>st (.load (.t rfl) (i:=2) rfl zE rfl (Ss':=[_,_]) rfl) rfl ?_))))))
   refine st (.load (.t rfl) (i:=0) rfl zE rfl (Ss':=[_,_]) rfl) rfl (st (.eq (.call (xd (by simp only[zB,zH,hZ1,hZ2,hR1,hR2,Int.neg_neg];omega) (by simp only[zB,zH,hZ1,hZ2,hR1,hR2,Int.neg_neg];omega)) (.cons (.t rfl) (.cons (.t rfl) .nil))) ((show zZ [isZ _,isB _]=zZ [isZ ((q.den:Nat):Int),isB true] from by simp only[zB,zH,hZ1,hZ2,hR1,hR2,Int.neg_neg];rw[if_pos hq3,decide_eq_true hq3,hq4]))) rfl ?_)
   refine stM rfl (st (.ext (.t rfl) rfl) rfl (st (.ext (.t rfl) rfl) rfl (.store (.t rfl) (.t rfl) (i:=2) rfl zE rfl rfl (Ss':=[_,_]) rfl (M':=[_,_,(some _,zC [_,_]),_]) rfl (nkQ k8 (.w [2,3,4,5] rfl (.sr fun k9=>st (.load (.t rfl) (i:=3) rfl zE rfl (Ss':=[_,_]) rfl) rfl (st (.load (.t rfl) (i:=2) rfl zE rfl (Ss':=[_,_]) rfl) rfl (st (.build [isB false,SlM isU [],isB false,SlM isU []] tA qu (fun _ _=>⟨rfl,nilM _ _,rfl,nilM _ _,trivial⟩) (.cons (.t rfl) rfl rfl rfl (.cons (.t rfl) rfl rfl rfl .nil)) (Z'':=[_,_,_,_]) rfl) rfl (.store (.t rfl) (.t rfl) (i:=1) rfl qI rfl rfl (Ss':=[_,_,_,_]) rfl (M':=[_,(some _,zC [_,_,_,_]),_,_]) rfl (st (.as (.cB true)) rfl (nkQ k9 (.w [4,5] rfl (.ret (rtN (.inl rfl) Tryz.results43 rfl rfl (.cell rfl (i:=1) rfl qI rfl ?_ (.tmp (Has.t' rfl ?_) .nil))))))))))))))))
   ·rfl
   ·rfl
  ·have hc2':0≤zv n ys:=by rcases qR (zv n ys) with h|h|h <;> omega
   obtain⟨N,hN⟩:∃N,N=zv m xs:=⟨_,rfl⟩
   obtain⟨D,hD⟩:∃D,D=zv n ys:=⟨_,rfl⟩
   have hZ1:zv m xs=N:=by omega
   have hZ2:zv n ys=D:=by omega
   have hD0:0<D:=by omega
   have hR1:val xs=N.natAbs:=by have:=jK m xs;omega
   have hR2:val ys=D.natAbs:=by have:=jK n ys;omega
   have hNw:(List.length (zA N.natAbs))≤4000000000:=by rw[←hR1];exact hx
   have hDw:(List.length (zA D.natAbs))≤4000000000:=by rw[←hR2];exact hy
   obtain⟨hq1,hq2,hq3,hq4⟩:=yg (N:=N) hD0 (q:=q) (hqd.trans (by rw[hZ1,hZ2];try exact Rat.neg_divInt_neg _ _))
   have hgw:(List.length (zA (Nat.gcd N.natAbs D.natAbs)))≤4000000000:=Nat.le_trans (qF (Nat.le_of_dvd (by omega) (Nat.gcd_dvd_right _ _))) hDw
   obtain⟨g,hg⟩:∃g:Int,g=((Nat.gcd N.natAbs D.natAbs:Nat):Int):=⟨_,rfl⟩
   have hgw2:(List.length (zA g.natAbs))≤4000000000:=by rw[hg,Int.natAbs_natCast];exact hgw
   rw[←hg] at hq1 hq2 hq3 hq4
   refine .skip (.nk k4 (.sr fun k10=>st (.load (.t rfl) (i:=2) rfl zE rfl (Ss':=[_,_]) rfl) rfl (st (.load (.t rfl) (i:=1) rfl zE rfl (Ss':=[_,_]) rfl) rfl (st (.eq (.call (lu (by omega) (by omega)) (.cons (.t rfl) (.cons (.t rfl) .nil))) ((show isZ _=isZ g from zO (by rw[hg];simp only[zB,zH,hZ1,hZ2,hR1,hR2,Int.neg_neg])))) rfl ?_))))
   refine .alloc [isB false,SlM isU []] zK (fun _ _=>⟨rfl,nilM _ _,trivial⟩) rfl fun b5=>.store (.t rfl) (.t rfl) (i:=0) rfl zE rfl rfl (Ss':=[_,_]) rfl (M':=[(some _,zC [_,_]),_,_,_]) rfl (nkQ k10 (.w [2,3,4,5,6] rfl (.sr fun k11=>st (.load (.t rfl) (i:=3) rfl zE rfl (Ss':=[_,_]) rfl) rfl ?_)))
   refine st (.load (.t rfl) (i:=0) rfl zE rfl (Ss':=[_,_]) rfl) rfl (st (.eq (.call (xd (by omega) (by simp only[zB,zH,hZ1,hZ2,hR1,hR2,Int.neg_neg];omega)) (.cons (.t rfl) (.cons (.t rfl) .nil))) ((show zZ [isZ _,isB _]=zZ [isZ (q.num),isB true] from by simp only[zB,zH,hZ1,hZ2,hR1,hR2,Int.neg_neg];rw[if_pos hq1,decide_eq_true hq1,hq2]))) rfl ?_)
   refine stM rfl (st (.ext (.t rfl) rfl) rfl (st (.ext (.t rfl) rfl) rfl (.store (.t rfl) (.t rfl) (i:=3) rfl zE rfl rfl (Ss':=[_,_]) rfl (M':=[_,_,_,(some _,zC [_,_])]) rfl (nkQ k11 (.w [2,3,4,5,6] rfl (.sr fun k12=>st (.load (.t rfl) (i:=2) rfl zE rfl (Ss':=[_,_]) rfl) rfl ?_))))))
   refine st (.load (.t rfl) (i:=0) rfl zE rfl (Ss':=[_,_]) rfl) rfl (st (.eq (.call (xd (by omega) (by simp only[zB,zH,hZ1,hZ2,hR1,hR2,Int.neg_neg];omega)) (.cons (.t rfl) (.cons (.t rfl) .nil))) ((show zZ [isZ _,isB _]=zZ [isZ ((q.den:Nat):Int),isB true] from by simp only[zB,zH,hZ1,hZ2,hR1,hR2,Int.neg_neg];rw[if_pos hq3,decide_eq_true hq3,hq4]))) rfl ?_)
   refine stM rfl (st (.ext (.t rfl) rfl) rfl (st (.ext (.t rfl) rfl) rfl (.store (.t rfl) (.t rfl) (i:=2) rfl zE rfl rfl (Ss':=[_,_]) rfl (M':=[_,_,(some _,zC [_,_]),_]) rfl (nkQ k12 (.w [2,3,4,5] rfl (.sr fun k13=>st (.load (.t rfl) (i:=3) rfl zE rfl (Ss':=[_,_]) rfl) rfl (st (.load (.t rfl) (i:=2) rfl zE rfl (Ss':=[_,_]) rfl) rfl (st (.build [isB false,SlM isU [],isB false,SlM isU []] tA qu (fun _ _=>⟨rfl,nilM _ _,rfl,nilM _ _,trivial⟩) (.cons (.t rfl) rfl rfl rfl (.cons (.t rfl) rfl rfl rfl .nil)) (Z'':=[_,_,_,_]) rfl) rfl (.store (.t rfl) (.t rfl) (i:=1) rfl qI rfl rfl (Ss':=[_,_,_,_]) rfl (M':=[_,(some _,zC [_,_,_,_]),_,_]) rfl (st (.as (.cB true)) rfl (nkQ k13 (.w [4,5] rfl (.ret (rtN (.inl rfl) Tryz.results43 rfl rfl (.cell rfl (i:=1) rfl qI rfl ?_ (.tmp (Has.t' rfl ?_) .nil))))))))))))))))
   ·rfl
   ·rfl
theorem mO {m n:Bool} {xs ys:List Nat} (hx:(List.length (zA (val xs)))≤4000000000) (hy:(List.length (zA (val ys)))≤4000000000) (h0:zv n ys≠0):Ctr Tryz.prog 81 [zk [isB m,zD xs,isB n,zD ys]] (isQ (Rat.divInt (zv m xs) (zv n ys))):=by
 refine Ctr.i Tryz.func81 rfl Tryz.ntmps81 fun w0 F0=>.w [0] rfl (.sr fun k1=>.box (.t rfl) rfl fun b1=>.alloc [isB false,SlM isU [],isB false,SlM isU []] qu (fun _ _=>⟨rfl,nilM _ _,rfl,nilM _ _,trivial⟩) rfl fun b2=>nkQ k1 (.sr fun k2=>st (.fieldAddr (.t rfl) jc zE) rfl (st (.load (.t rfl) (i:=1) rfl zE rfl (Ss':=[_,_]) rfl) rfl (st (.fieldAddr (.t rfl) vo zE) rfl (st (.load (.t rfl) (i:=1) rfl zE rfl (Ss':=[_,_]) rfl) rfl (st (.call (fx (m:=m) (n:=n) (xs:=xs) (ys:=ys) hx hy h0) (.cons (.t rfl) (.cons (.t rfl) .nil))) rfl (stM rfl (st (.ext (.t rfl) rfl) rfl (st (.ext (.t rfl) rfl) rfl (.alloc [isB false,SlM isU [],isB false,SlM isU []] qu (fun _ _=>⟨rfl,nilM _ _,rfl,nilM _ _,trivial⟩) rfl fun b3=>.store (.t rfl) (.t rfl) (i:=0) rfl qI rfl rfl (Ss':=[_,_,_,_]) rfl (M':=[(some _,zC [_,_,_,_]),_,_]) rfl (stM rfl (nkQ k2 (.w [2,3] rfl (.sr fun k3=>st (.load (.t rfl) (i:=0) rfl qI rfl (Ss':=[_,_,_,_]) rfl) rfl (.store (.t rfl) (.t rfl) (i:=1) rfl qI rfl rfl (Ss':=[_,_,_,_]) rfl (M':=[_,(some _,zC [_,_,_,_]),_]) rfl (nkQ k3 (.ret (rt1 (.inl rfl) Tryz.results81 rfl (.cell rfl (i:=1) rfl qI rfl ?_ .nil)))))))))))))))))))
 all_goals (rfl)
theorem vu {q:Rat} (hq:qs q≤4000000000):Ctr Tryz.prog 81 [isQ q] (isQ q):=by
 have h:=mO (m:=decide (q.num<0)) (n:=decide ((q.den:Int)<0)) (xs:=zA q.num.natAbs) (ys:=zA ((q.den:Int)).natAbs) (by rw[zB];exact vl hq) (by rw[zB];exact wy hq) (by rw[zH];exact jO q)
 rw[zH,zH,Rat.num_divInt_den] at h
 exact h
theorem ir {x y:Int} (hx:(List.length (zA x.natAbs))≤4000000000) (hy:(List.length (zA y.natAbs))≤4000000000) (h0:y≠0):Ctr Tryz.prog 81 [zk [isB (decide (x<0)),SlM isU (zA x.natAbs),isB (decide (y<0)),SlM isU (zA y.natAbs)]] (isQ (Rat.divInt x y)):=by
 have h:=mO (m:=decide (x<0)) (n:=decide (y<0)) (xs:=zA x.natAbs) (ys:=zA y.natAbs) (by rw[zB];exact hx) (by rw[zB];exact hy) (by rw[zH];exact h0)
 rw[zH,zH] at h
 exact h
theorem sy {x y:Int} (hx:(List.length (zA x.natAbs))≤4000000000) (hy:(List.length (zA y.natAbs))≤4000000000) (h0:y≠0):Ctr Tryz.prog 43 [isZ x,isZ y] (zZ [isQ (Rat.divInt x y),isB true]):=by
 have h:=fx (m:=decide (x<0)) (n:=decide (y<0)) (xs:=zA x.natAbs) (ys:=zA y.natAbs) (by rw[zB];exact hx) (by rw[zB];exact hy) (by rw[zH];exact h0)
 rw[zH,zH] at h
 exact h
theorem rN {p q:Rat} {A B:Nat} (hp:qs p≤A) (hq:qs q≤B) (hAB:A+B≤1000000000):Ctr Tryz.prog 45 [isQ p,isQ q] (isQ (p+q)):=by
 refine Ctr.i Tryz.func45 rfl Tryz.ntmps45 fun w0 F0=>.w [0,1] rfl ?_
 have g1:=vl hp
 have g2:=wy hp
 have g3:=vl hq
 have g4:=wy hq
 have m1:=qA p.num q.den
 have m2:=qA q.num p.den
 have m3:=qA p.den q.den
 have m4:=xh (p.num*q.den) (q.num*p.den)
 refine .sr fun k1=>.box (.t rfl) rfl fun b1=>.box (.t rfl) rfl fun b2=>.alloc [isB false,SlM isU [],isB false,SlM isU []] qu (fun _ _=>⟨rfl,nilM _ _,rfl,nilM _ _,trivial⟩) rfl fun b3=>nkQ k1 (.sq fun k2=>.dr (.so [] rfl (.load (.t rfl) (i:=2) rfl qI rfl (Ss':=[_,_,_,_]) rfl) (.so [5] rfl (.call (vu (q:=p) (by omega)) (.cons (.t rfl) .nil)) (.so [] rfl (.load (.t rfl) (i:=1) rfl qI rfl (Ss':=[_,_,_,_]) rfl) (.fn (n:=3) zW (.w [2,3,4,6,7] rfl (st (.call (vu (q:=q) (by omega)) (.cons (.t rfl) .nil)) rfl (.store (.t rfl) (.t rfl) (i:=2) rfl qI rfl rfl (Ss':=[_,_,_,_]) rfl (M':=[_,_,(some _,zC [_,_,_,_])]) rfl (.store (.t rfl) (.t rfl) (i:=1) rfl qI rfl rfl (Ss':=[_,_,_,_]) rfl (M':=[_,(some _,zC [_,_,_,_]),_]) rfl (nkQ k2 (.sq fun k3=>.dr (.so [] rfl (.fieldAddr (.t rfl) jc zE) (.so [9] rfl (.load (.t rfl) (i:=2) rfl zE rfl (Ss':=[_,_]) rfl) (.so [] rfl (.fieldAddr (.t rfl) vo zE) (.so [11] rfl (.load (.t rfl) (i:=1) rfl zE rfl (Ss':=[_,_]) rfl) (.so [10,12] rfl (.eq (.call (qE (by rw[zB];omega) (by rw[zB];omega)) (.cons (.t rfl) (.cons (.t rfl) .nil))) ((show isZ _=isZ (p.num*q.den) from zO (by simp only[zH])))) ?_))))))))))))))))
 refine .so [] rfl (.fieldAddr (.t rfl) jc zE) (.so [14] rfl (.load (.t rfl) (i:=1) rfl zE rfl (Ss':=[_,_]) rfl) (.so [] rfl (.fieldAddr (.t rfl) vo zE) (.so [16] rfl (.load (.t rfl) (i:=2) rfl zE rfl (Ss':=[_,_]) rfl) (.so [15,17] rfl (.eq (.call (qE (by rw[zB];omega) (by rw[zB];omega)) (.cons (.t rfl) (.cons (.t rfl) .nil))) ((show isZ _=isZ (q.num*p.den) from zO (by simp only[zH])))) ?_))))
 refine .so [13,18] rfl (.eq (.call (qz (by rw[zB];omega) (by rw[zB];omega)) (.cons (.t rfl) (.cons (.t rfl) .nil))) ((show isZ _=isZ (p.num*q.den+q.num*p.den) from zO (by simp only[zH])))) ?_
 refine .so [] rfl (.fieldAddr (.t rfl) vo zE) (.so [20] rfl (.load (.t rfl) (i:=2) rfl zE rfl (Ss':=[_,_]) rfl) (.so [] rfl (.fieldAddr (.t rfl) vo zE) (.so [22] rfl (.load (.t rfl) (i:=1) rfl zE rfl (Ss':=[_,_]) rfl) (.fn (n:=15) zW (.w [4,19,21,23] rfl (st (.eq (.call (qE (by rw[zB];omega) (by rw[zB];omega)) (.cons (.t rfl) (.cons (.t rfl) .nil))) ((show isZ _=isZ (p.den*q.den) from zO (by simp only[zH])))) rfl ?_))))))
 refine st (.build [isB false,SlM isU [],isB false,SlM isU []] tA qu (fun _ _=>⟨rfl,nilM _ _,rfl,nilM _ _,trivial⟩) (.cons (.t rfl) rfl rfl rfl (.cons (.t rfl) rfl rfl rfl .nil)) (Z'':=[_,_,_,_]) rfl) rfl (st (.eq (.call (ir (x:=p.num*q.den+q.num*p.den) (y:=p.den*q.den) (by omega) (by omega) (Int.mul_ne_zero (jO p) (jO q))) (.cons (.t rfl) .nil)) ((cO (iC p q)))) rfl (.store (.t rfl) (.t rfl) (i:=0) rfl qI rfl rfl (Ss':=[_,_,_,_]) rfl (M':=[(some _,zC [_,_,_,_]),_,_]) rfl (nkQ k3 (.w [4] rfl (.ret (rt1 (.inl rfl) Tryz.results45 rfl (.cell rfl (i:=0) rfl qI rfl ?_ .nil)))))))
 all_goals (rfl)
theorem bX {p q:Rat} {A B:Nat} (hp:qs p≤A) (hq:qs q≤B) (hAB:A+B≤1000000000):Ctr Tryz.prog 48 [isQ p,isQ q] (isQ (p*q)):=by
 refine Ctr.i Tryz.func48 rfl Tryz.ntmps48 fun w0 F0=>.w [0,1] rfl ?_
 have g1:=vl hp
 have g2:=wy hp
 have g3:=vl hq
 have g4:=wy hq
 have m1:=qA p.num q.num
 have m3:=qA p.den q.den
 refine .sr fun k1=>.box (.t rfl) rfl fun b1=>.box (.t rfl) rfl fun b2=>.alloc [isB false,SlM isU [],isB false,SlM isU []] qu (fun _ _=>⟨rfl,nilM _ _,rfl,nilM _ _,trivial⟩) rfl fun b3=>nkQ k1 (.sq fun k2=>.dr (.so [] rfl (.load (.t rfl) (i:=2) rfl qI rfl (Ss':=[_,_,_,_]) rfl) (.so [5] rfl (.call (vu (q:=p) (by omega)) (.cons (.t rfl) .nil)) (.so [] rfl (.load (.t rfl) (i:=1) rfl qI rfl (Ss':=[_,_,_,_]) rfl) (.fn (n:=3) zW (.w [2,3,4,6,7] rfl (st (.call (vu (q:=q) (by omega)) (.cons (.t rfl) .nil)) rfl (.store (.t rfl) (.t rfl) (i:=2) rfl qI rfl rfl (Ss':=[_,_,_,_]) rfl (M':=[_,_,(some _,zC [_,_,_,_])]) rfl (.store (.t rfl) (.t rfl) (i:=1) rfl qI rfl rfl (Ss':=[_,_,_,_]) rfl (M':=[_,(some _,zC [_,_,_,_]),_]) rfl (nkQ k2 (.sq fun k3=>.dr (.so [] rfl (.fieldAddr (.t rfl) jc zE) (.so [9] rfl (.load (.t rfl) (i:=2) rfl zE rfl (Ss':=[_,_]) rfl) (.so [] rfl (.fieldAddr (.t rfl) jc zE) (.so [11] rfl (.load (.t rfl) (i:=1) rfl zE rfl (Ss':=[_,_]) rfl) (.so [10,12] rfl (.eq (.call (qE (by rw[zB];omega) (by rw[zB];omega)) (.cons (.t rfl) (.cons (.t rfl) .nil))) ((show isZ _=isZ (p.num*q.num) from zO (by simp only[zH])))) ?_))))))))))))))))
 refine .so [] rfl (.fieldAddr (.t rfl) vo zE) (.so [14] rfl (.load (.t rfl) (i:=2) rfl zE rfl (Ss':=[_,_]) rfl) (.so [] rfl (.fieldAddr (.t rfl) vo zE) (.so [16] rfl (.load (.t rfl) (i:=1) rfl zE rfl (Ss':=[_,_]) rfl) (.fn (n:=9) zW (.w [4,13,15,17] rfl (st (.eq (.call (qE (by rw[zB];omega) (by rw[zB];omega)) (.cons (.t rfl) (.cons (.t rfl) .nil))) ((show isZ _=isZ (p.den*q.den) from zO (by simp only[zH])))) rfl ?_))))))
 refine st (.build [isB false,SlM isU [],isB false,SlM isU []] tA qu (fun _ _=>⟨rfl,nilM _ _,rfl,nilM _ _,trivial⟩) (.cons (.t rfl) rfl rfl rfl (.cons (.t rfl) rfl rfl rfl .nil)) (Z'':=[_,_,_,_]) rfl) rfl (st (.eq (.call (ir (x:=p.num*q.num) (y:=p.den*q.den) (by omega) (by omega) (Int.mul_ne_zero (jO p) (jO q))) (.cons (.t rfl) .nil)) ((cO (gG p q)))) rfl (.store (.t rfl) (.t rfl) (i:=0) rfl qI rfl rfl (Ss':=[_,_,_,_]) rfl (M':=[(some _,zC [_,_,_,_]),_,_]) rfl (nkQ k3 (.w [4] rfl (.ret (rt1 (.inl rfl) Tryz.results48 rfl (.cell rfl (i:=0) rfl qI rfl ?_ .nil)))))))
 all_goals (rfl)
theorem zDJ {p q:Rat} {A B:Nat} (hp:qs p≤A) (hq:qs q≤B) (hAB:A+B≤1000000000) (h0:q≠0):Ctr Tryz.prog 106 [isQ p,isQ q] (zZ [isQ (p/q),isB true]):=by
 refine Ctr.i Tryz.func106 rfl Tryz.ntmps106 fun w0 F0=>.w [0,1] rfl ?_
 have g1:=vl hp
 have g2:=wy hp
 have g3:=vl hq
 have g4:=wy hq
 have m1:=qA p.num q.den
 have m3:=qA p.den q.num
 refine .sr fun k1=>.box (.t rfl) rfl fun b1=>.box (.t rfl) rfl fun b2=>.alloc [isB false,SlM isU [],isB false,SlM isU []] qu (fun _ _=>⟨rfl,nilM _ _,rfl,nilM _ _,trivial⟩) rfl fun b3=>st (.as (.cB false)) rfl (nkQ k1 (.sq fun k2=>.dr (.so [] rfl (.load (.t rfl) (i:=2) rfl qI rfl (Ss':=[_,_,_,_]) rfl) (.so [6] rfl (.call (vu (q:=p) (by omega)) (.cons (.t rfl) .nil)) (.so [] rfl (.load (.t rfl) (i:=1) rfl qI rfl (Ss':=[_,_,_,_]) rfl) (.fn (n:=3) zW (.w [2,3,4,5,7,8] rfl (st (.call (vu (q:=q) (by omega)) (.cons (.t rfl) .nil)) rfl (.store (.t rfl) (.t rfl) (i:=2) rfl qI rfl rfl (Ss':=[_,_,_,_]) rfl (M':=[_,_,(some _,zC [_,_,_,_])]) rfl (.store (.t rfl) (.t rfl) (i:=1) rfl qI rfl rfl (Ss':=[_,_,_,_]) rfl (M':=[_,(some _,zC [_,_,_,_]),_]) rfl (nkQ k2 (.sq fun k3=>.dr (.so [] rfl (.fieldAddr (.t rfl) jc zE) (.so [10] rfl (.load (.t rfl) (i:=2) rfl zE rfl (Ss':=[_,_]) rfl) (.so [] rfl (.fieldAddr (.t rfl) vo zE) (.so [12] rfl (.load (.t rfl) (i:=1) rfl zE rfl (Ss':=[_,_]) rfl) (.so [11,13] rfl (.eq (.call (qE (by rw[zB];omega) (by rw[zB];omega)) (.cons (.t rfl) (.cons (.t rfl) .nil))) ((show isZ _=isZ (p.num*q.den) from zO (by simp only[zH])))) ?_)))))))))))))))))
 refine .so [] rfl (.fieldAddr (.t rfl) vo zE) (.so [15] rfl (.load (.t rfl) (i:=2) rfl zE rfl (Ss':=[_,_]) rfl) (.so [] rfl (.fieldAddr (.t rfl) jc zE) (.so [17] rfl (.load (.t rfl) (i:=1) rfl zE rfl (Ss':=[_,_]) rfl) (.so [16,18] rfl (.eq (.call (qE (by rw[zB];omega) (by rw[zB];omega)) (.cons (.t rfl) (.cons (.t rfl) .nil))) ((show isZ _=isZ (p.den*q.num) from zO (by simp only[zH])))) ?_))))
 refine .so [14,19] rfl (.eq (.call (sy (x:=p.num*q.den) (y:=p.den*q.num) (by omega) (by omega) (Int.mul_ne_zero (jO p) (zID h0))) (.cons (.t rfl) (.cons (.t rfl) .nil))) ((show _=zZ [isQ (p/q),isB true] from by rw[oY]))) (.so [20] rfl (.ext (.t rfl) rfl) (.so [20] rfl (.ext (.t rfl) rfl) (.fn (n:=13) zW (.w [4,5,21,22] rfl (.store (.t rfl) (.t rfl) (i:=0) rfl qI rfl rfl (Ss':=[_,_,_,_]) rfl (M':=[(some _,zC [_,_,_,_]),_,_]) rfl (stM rfl (nkQ k3 (.ret (rtN (.inl rfl) Tryz.results106 rfl rfl (.cell rfl (i:=0) rfl qI rfl ?_ (.tmp (Has.t' rfl ?_) .nil)))))))))))
 ·rfl
 ·rfl
theorem rM {q:Rat} {A:Nat} (hq:qs q≤A) (hA:A≤1000000000):Ctr Tryz.prog 47 [isQ q] (isQ (-q)):=by
 refine Ctr.i Tryz.func47 rfl Tryz.ntmps47 fun w0 F0=>.w [0] rfl ?_
 have g3:=vl hq
 have g4:=wy hq
 refine .sr fun k1=>.box (.t rfl) rfl fun b1=>.alloc [isB false,SlM isU [],isB false,SlM isU []] qu (fun _ _=>⟨rfl,nilM _ _,rfl,nilM _ _,trivial⟩) rfl fun b2=>nkQ k1 (.sr fun k2=>st (.load (.t rfl) (i:=1) rfl qI rfl (Ss':=[_,_,_,_]) rfl) rfl (st (.call (vu (q:=q) (by omega)) (.cons (.t rfl) .nil)) rfl (.store (.t rfl) (.t rfl) (i:=1) rfl qI rfl rfl (Ss':=[_,_,_,_]) rfl (M':=[_,(some _,zC [_,_,_,_])]) rfl (nkQ k2 (.sq fun k3=>.dr (.so [] rfl (.fieldAddr (.t rfl) jc zE) (.so [5] rfl (.load (.t rfl) (i:=1) rfl zE rfl (Ss':=[_,_]) rfl) (.so [6] rfl (.eq (.call (vj (by rw[zB];omega)) (.cons (.t rfl) .nil)) ((show isZ _=isZ (-q.num) from zO (by simp only[zH])))) ?_))))))))
 refine .so [] rfl (.fieldAddr (.t rfl) vo zE) (.so [8] rfl (.load (.t rfl) (i:=1) rfl zE rfl (Ss':=[_,_]) rfl) (.fn (n:=5) zW (.w [2,7,9] rfl (st (.build [isB false,SlM isU [],isB false,SlM isU []] tA qu (fun _ _=>⟨rfl,nilM _ _,rfl,nilM _ _,trivial⟩) (.cons (.t rfl) rfl rfl rfl (.cons (.t rfl) rfl rfl rfl .nil)) (Z'':=[_,_,_,_]) rfl) rfl (.store (.t rfl) (.t rfl) (i:=0) rfl qI rfl rfl (Ss':=[_,_,_,_]) rfl (M':=[(some _,zC [_,_,_,_]),_]) rfl (nkQ k3 (.ret (rt1 (.inl rfl) Tryz.results47 rfl (.cell rfl (i:=0) rfl qI rfl ?_ .nil)))))))))
 all_goals (rfl)
theorem eo {p q:Rat} {A B:Nat} (hp:qs p≤A) (hq:qs q≤B) (hAB:A+B≤1000000000):Ctr Tryz.prog 49 [isQ p,isQ q] (isQ (p-q)):=by
 refine Ctr.i Tryz.func49 rfl Tryz.ntmps49 fun w0 F0=>.w [0,1] rfl (.sr fun k1=>.box (.t rfl) rfl fun b1=>.box (.t rfl) rfl fun b2=>.alloc [isB false,SlM isU [],isB false,SlM isU []] qu (fun _ _=>⟨rfl,nilM _ _,rfl,nilM _ _,trivial⟩) rfl fun b3=>nkQ k1 (.sq fun k2=>.dr (.so [] rfl (.load (.t rfl) (i:=2) rfl qI rfl (Ss':=[_,_,_,_]) rfl) (.so [] rfl (.load (.t rfl) (i:=1) rfl qI rfl (Ss':=[_,_,_,_]) rfl) (.so [6] rfl (.call (rM hq (by omega)) (.cons (.t rfl) .nil)) (.fn (n:=3) zW (.w [4,5,7] rfl (st (.eq (.call (rN hp (oa hq) hAB) (.cons (.t rfl) (.cons (.t rfl) .nil))) ((cO (Rat.sub_eq_add_neg p q).symm))) rfl (.store (.t rfl) (.t rfl) (i:=0) rfl qI rfl rfl (Ss':=[_,_,_,_]) rfl (M':=[(some _,zC [_,_,_,_]),_,_]) rfl (nkQ k2 (.ret (rt1 (.inl rfl) Tryz.results49 rfl (.cell rfl (i:=0) rfl qI rfl ?_ .nil)))))))))))))
 all_goals (rfl)
theorem yH {q:Rat} {A:Nat} (hq:qs q≤A) (hA:A≤2000000000):Ctr Tryz.prog 82 [isQ q] (isI (sgn q.num)):=by
 refine Ctr.i Tryz.func82 rfl Tryz.ntmps82 fun w0 F0=>.w [0] rfl ?_
 have g3:=vl hq
 have g4:=wy hq
 have hd:=zFL q
 have hsd:sgn ((q.den:Nat):Int)=1:=by rcases qR ((q.den:Nat):Int) with h|h|h <;> omega
 have hsr:=da q.num
 refine .sr fun k1=>.box (.t rfl) rfl fun b1=>st (.as (.cI 0 rfl)) rfl (nkQ k1 (.sq fun k2=>.dr (.so [] rfl (.fieldAddr (.t rfl) jc zE) (.so [3] rfl (.load (.t rfl) (i:=0) rfl zE rfl (Ss':=[_,_]) rfl) (.so [4] rfl (.eq (.call (qC (by rw[zB];omega)) (.cons (.t rfl) .nil)) ((show isI _=isI (sgn q.num) from zF (by rw[zH])))) ?_)))))
 refine .so [] rfl (.fieldAddr (.t rfl) vo zE) (.so [6] rfl (.load (.t rfl) (i:=0) rfl zE rfl (Ss':=[_,_]) rfl) (.fn (n:=5) zW (.w [2,5,7] rfl (st (.eq (.call (qC (by rw[zB];omega)) (.cons (.t rfl) .nil)) ((show isI _=isI 1 from zF (by rw[zH,hsd])))) rfl ?_))))
 refine st (.mulI (.t rfl) (.t rfl) (by omega) (by omega)) rfl (stM rfl (nkQ k2 (.ret (rt1 (.inl rfl) Tryz.results82 rfl (.tmp (Has.t' rfl ?_) .nil)))))
 all_goals (exact zF (Int.mul_one _))
theorem kz {p q:Rat} {A B:Nat} (hp:qs p≤A) (hq:qs q≤B) (hAB:A+B≤1000000000):Ctr Tryz.prog 46 [isQ p,isQ q] (isI (sgn (p-q).num)):=by
 refine Ctr.i Tryz.func46 rfl Tryz.ntmps46 fun w0 F0=>.w [0,1] rfl (.sr fun k1=>.box (.t rfl) rfl fun b1=>.box (.t rfl) rfl fun b2=>st (.as (.cI 0 rfl)) rfl (nkQ k1 (.sr fun k2=>st (.load (.t rfl) (i:=1) rfl qI rfl (Ss':=[_,_,_,_]) rfl) rfl (st (.load (.t rfl) (i:=0) rfl qI rfl (Ss':=[_,_,_,_]) rfl) rfl (st (.call (eo hp hq hAB) (.cons (.t rfl) (.cons (.t rfl) .nil))) rfl (st (.call (yH (A:=1000000001) (Nat.le_trans (oZ hp hq) (by omega)) (by omega)) (.cons (.t rfl) .nil)) rfl (stM rfl (nkQ k2 (.w [4] rfl (.ret (rt1 (.inl rfl) Tryz.results46 rfl (.tmp (Has.t' rfl ?_) .nil))))))))))))
 all_goals (rfl)
theorem oA {m n:Bool} {xs ys:List Nat} (hx:(List.length (zA (val xs)))≤1000000000) (hy:(List.length (zA (val ys)))≤1000000000) (hp:0<zv n ys):Ctr Tryz.prog 115 [zk [isB m,zD xs],zk [isB n,zD ys]] (zZ [isZ ((zv m xs+zv m xs+zv n ys)/(zv n ys+zv n ys)),isB true]):=by
 refine Ctr.i Tryz.func115 rfl Tryz.ntmps115 fun w0 F0=>.w [0,1] rfl (.fact (Has.okZ (Has.t (t:=0) rfl)) fun okz0=>.fact (Has.okZ (Has.t (t:=1) rfl)) fun okz1=>?_)
 have ha:=xt m xs
 have hb:=xt n ys
 have h1:=xh (zv m xs) (zv m xs)
 have h2:=xh (zv m xs+zv m xs) (zv n ys)
 have h3:=xh (zv n ys) (zv n ys)
 refine .sr fun k1=>.box (.t rfl) rfl fun b1=>.box (.t rfl) rfl fun b2=>.alloc [isB false,SlM isU []] zK (fun _ _=>⟨rfl,nilM _ _,trivial⟩) rfl fun b3=>st (.as (.cB false)) rfl (nkQ k1 (.sq fun k2=>.sr fun k3=>st (.load (.t rfl) (i:=1) rfl zE rfl (Ss':=[_,_]) rfl) rfl (st (.call (qC (by omega)) (.cons (.t rfl) .nil)) rfl (st (.ltI (.t rfl) (.cI 0 rfl)) rfl (nkQ k3 (.cd rfl (fun hc1=>?_) (fun hc1=>?_)))))))
 ·exfalso;have:=(ar _).1 hc1;omega
 ·refine .skip (.nk k2 (.w [2,3,4,5] rfl (.sq fun k4=>.drh [true,true,true] (Ms:=[_,_,_]) rfl (.so [] rfl (.load (.t rfl) (i:=2) rfl zE rfl (Ss':=[_,_]) rfl) (.so [] rfl (.load (.t rfl) (i:=2) rfl zE rfl (Ss':=[_,_]) rfl) (.so [17,18] rfl (.call (qz (by omega) (by omega)) (.cons (.t rfl) (.cons (.t rfl) .nil))) (.so [] rfl (.load (.t rfl) (i:=1) rfl zE rfl (Ss':=[_,_]) rfl) (.so [19,20] rfl (.eq (.call (qz (by rw[zB];omega) (by omega)) (.cons (.t rfl) (.cons (.t rfl) .nil))) ((show isZ _=isZ (zv m xs+zv m xs+zv n ys) from zO (by simp only[zH])))) ?_))))))))
  refine .so [] rfl (.load (.t rfl) (i:=1) rfl zE rfl (Ss':=[_,_]) rfl) (.so [] rfl (.load (.t rfl) (i:=1) rfl zE rfl (Ss':=[_,_]) rfl) (.so [22,23] rfl (.call (qz (by omega) (by omega)) (.cons (.t rfl) (.cons (.t rfl) .nil))) (.so [21,24] rfl (.eq (.call (fT (by rw[zB];omega) (by rw[zB];omega) (by rw[zH];omega)) (.cons (.t rfl) (.cons (.t rfl) .nil))) ((show zZ [isZ _,isZ _,isB true]=zZ [isZ ((zv m xs+zv m xs+zv n ys)/(zv n ys+zv n ys)),isZ ((zv m xs+zv m xs+zv n ys)%(zv n ys+zv n ys)),isB true] from by simp only[zH]))) ?_)))
  refine .m [25] rfl (.so [16] rfl (.ext (.t rfl) rfl) (.so [16] rfl (.ext (.t rfl) rfl) (.so [16] rfl (.ext (.t rfl) rfl) (.als2 (n1:=15) (ds:=[6,7]) (zs:=[[isB false,SlM isU []],[isB false,SlM isU []]]) rfl (.cons rfl rfl zK (fun _ _=>⟨rfl,nilM _ _,trivial⟩) (.cons rfl rfl zK (fun _ _=>⟨rfl,nilM _ _,trivial⟩) .nil)) (.cons_cons _ (.cons_cons _ (.cons_cons _ .slnil))) (Cs:=[_,_]) rfl (.new [26] 0 (Ss':=[_,_]) (Cs':=[zC [_,_],_]) rfl (by kernel_rfl) (by kernel_rfl) rfl rfl rfl (by kernel_rfl) rfl (.t rfl) zE rfl rfl rfl rfl (.new [27] 1 (Ss':=[_,_]) (Cs':=[_,zC [_,_]]) rfl (by kernel_rfl) (by kernel_rfl) rfl rfl rfl (by kernel_rfl) rfl (.t rfl) zE rfl rfl rfl rfl (.fn (n:=17) zW rfl (fun bs hbs=>?_))))))))
  obtain⟨b4,b5,rfl⟩:=len2 hbs
  refine .memEq (M':=[_,_,_,_,_]) rfl (.cv (Cv.wk (.k 4 rfl (.k 5 rfl (.k 28 rfl (.cons (t:=6) (Has.op rfl) .nil))))) (stM rfl (nkQ k4 (.sr fun k5=>st (.load (.t rfl) (i:=0) rfl zE rfl (Ss':=[_,_]) rfl) rfl (stM rfl (.store (.t rfl) (.t rfl) (i:=2) rfl zE rfl rfl (Ss':=[_,_]) rfl (M':=[_,_,(some _,zC [_,_]),_,_]) rfl (stM rfl (nkQ k5 (.w [4,5] rfl (.ret (rtN (.inl rfl) Tryz.results115 rfl rfl (.cell rfl (i:=2) rfl zE rfl ?_ (.tmp (Has.t' rfl ?_) .nil)))))))))))))
  ·rfl
  ·rfl
end Go.Proofs.YtchbfpcaibfkdaaGreat
namespace Go.Proofs.YtchbfpcaibfkdaaGreat
open Go.En Go.RowKit
set_option maxRecDepth 10000
set_option maxHeartbeats 4000000
open Go.Nt
open Go.Pz
open Go.Mz
theorem ot {bw N K:Nat} {gd:Gr (Bool×List Nat)} {gl gu:Gr Row} {ds:List Int} {ls us:List Row} {m n:Bool} {ps qs:List Nat} {sw:Int} (hdl:ds.length=N+1) (hdb:Bd ds K) (hll:ls.length=N) (hul:us.length=N) (hlr:∀r∈ls,r.2.length=N) (hur:∀r∈us,r.2.length=N) (hlb:∀r∈ls,Bd r.2 K) (hub:∀r∈us,Bd r.2 K) (hN:N≤64) (hK:K≤100000000) {s:Nat} {r:Row} (hi:ls[s+1]?=some r) (hpw:(List.length (zA (val ps)))≤1000) (hqw:(List.length (zA (val qs)))≤1000):CtrX Tryz.prog 95 [qX bw 0,isI ((s+1:Nat):Int)] (lwM bw N gd gl gu ds ls us m n ps qs sw) (fun S M=>S=isB (decide (0≤ql (zv n qs*(cf ds s*cf ds (s+2)+cf r.2 s*cf r.2 s)) (zv m ps*(cf ds (s+1)*cf ds (s+1)))))∧M=lwM bw N gd gl gu ds ls us m n ps qs sw):=by
 refine CtrX.i Tryz.func95 rfl Tryz.ntmps95 fun w0 F0=>.w [0,1] rfl (.fact (Has.rngI (Has.t (t:=1) rfl)) fun lt1=>?_)
 have hrC:=hlr r (List.mem_of_getElem? hi)
 have hrB:=hlb r (List.mem_of_getElem? hi) s
 have hrL:(r.2.map nz).length=N:=by rw[List.length_map,hrC]
 have hiL:s+1<ls.length:=by
  rcases Nat.lt_or_ge (s+1) ls.length with g|g
  ·exact g
  ·rw[List.getElem?_eq_none g] at hi;cases hi
 have hd0:=hdb s
 have hd1:=hdb (s+1)
 have hd2:=hdb (s+2)
 have hpz:=xt m ps
 have hqz:=xt n qs
 have m1:=qA (cf ds s) (cf ds (s+2))
 have m2:=qA (cf r.2 s) (cf r.2 s)
 have m3:=xh (cf ds s*cf ds (s+2)) (cf r.2 s*cf r.2 s)
 have m4:=qA (cf ds (s+1)) (cf ds (s+1))
 have m5:=qA (zv n qs) (cf ds s*cf ds (s+2)+cf r.2 s*cf r.2 s)
 have m6:=qA (zv m ps) (cf ds (s+1)*cf ds (s+1))
 have hdL:(ds.map nz).length=N+1:=by rw[List.length_map,hdl]
 refine .sr fun k1=>st (.as (.cB false)) rfl (nkQ k1 (.sr fun k2=>stM rfl (st (.nilc (.t rfl)) rfl (st (.fieldAddr (.t rfl) qa zu) rfl (st (.load1 (.t rfl) (i:=0) rfl zu rfl) rfl (stM rfl (st (.ixGr qn zP (.t rfl) (.t rfl) (by omega)) rfl (st (.loadGM (.t rfl) (i:=2) rfl zP hi) rfl (stM rfl (st (.eq (.subI (.t rfl) (.cI 1 rfl) (by first|omega|assumption) (by first|omega|assumption)) ((show isI _=isI ((s:Nat):Int) from zF (by omega)))) rfl (st (.ixGr zz zE (.t rfl) (.t rfl) (by omega)) rfl (st (.loadGK zN (.t rfl) (i:=4+(s+1)) (jU (pre:=[_,_,_,_]) (lwL hi)) zE (xn (i:=s) (by omega))) rfl (.alloc [isB false,SlM isU []] zK (fun _ _=>⟨rfl,nilM _ _,trivial⟩) rfl fun b1=>.store (.t rfl) (.t rfl) (i:=0) rfl zE rfl rfl (Ss':=[_,_]) rfl (M':=((some _,zC [_,_])::_::_::_::_::_)) rfl (nkQ k2 (.w [0,1,4,5] rfl (.sq fun k3=>.drhS (.cons_cons _ (.cons_cons _ (.cons_cons _ (.cons_cons _ (.cons_cons _ (List.Sublist.refl _)))))) (.m [] rfl (.so [18] rfl (.nilc (.t rfl)) (.so [19] rfl (.fieldAddr (.t rfl) xG zP) (.so [20] rfl (.load1 (.t rfl) (i:=1) rfl zP rfl) (.m [] rfl (.so [22] rfl (.eq (.subI (.t rfl) (.cI 1 rfl) (by first|omega|assumption) (by first|omega|assumption)) ((show isI _=isI ((s:Nat):Int) from zF (by omega)))) (.so [21,23] rfl (.ixGr zz zE (.t rfl) (.t rfl) (by omega)) ?_)))))))))))))))))))))))
 refine .so [24] rfl (.loadGK zN (.t rfl) (i:=2) rfl zE (xn (i:=s) (by omega))) (.m [] rfl (.so [26] rfl (.nilc (.t rfl)) (.so [27] rfl (.fieldAddr (.t rfl) xG zP) (.so [28] rfl (.load1 (.t rfl) (i:=1) rfl zP rfl) (.m [] rfl (.so [30] rfl (.eq (.addI (.t rfl) (.cI 1 rfl) (by first|omega|assumption) (by first|omega|assumption)) ((show isI _=isI ((s+2:Nat):Int) from zF (by omega)))) (.so [29,31] rfl (.ixGr zz zE (.t rfl) (.t rfl) (by omega)) ?_)))))))
 refine .so [32] rfl (.loadGK zN (.t rfl) (i:=2) rfl zE (xn (i:=s+2) (by omega))) (.so [25,33] rfl (.eq (.call (qE (by first|omega|(rw[zB];omega)) (by first|omega|(rw[zB];omega))) (.cons (.t rfl) (.cons (.t rfl) .nil))) ((show isZ _=isZ (cf ds s*cf ds (s+2)) from zO (by (try simp only[qN]);(try simp only[zH]))))) ?_)
 refine .so [] rfl (.load (.t rfl) (i:=0) rfl zE rfl (Ss':=[_,_]) rfl) (.so [] rfl (.load (.t rfl) (i:=0) rfl zE rfl (Ss':=[_,_]) rfl) (.so [35,36] rfl (.eq (.call (qE (by first|omega|(rw[zB];omega)) (by first|omega|(rw[zB];omega))) (.cons (.t rfl) (.cons (.t rfl) .nil))) ((show isZ _=isZ (cf r.2 s*cf r.2 s) from zO (by (try simp only[qN]);(try simp only[zH]))))) ?_))
 refine .so [34,37] rfl (.eq (.call (qz (by first|omega|(rw[zB];omega)) (by first|omega|(rw[zB];omega))) (.cons (.t rfl) (.cons (.t rfl) .nil))) ((show isZ _=isZ (cf ds s*cf ds (s+2)+cf r.2 s*cf r.2 s) from zO (by (try simp only[qN]);(try simp only[zH]))))) ?_
 refine .als2 (n1:=22) (ds:=[6]) (zs:=[[isB false,SlM isU []]]) rfl (.cons rfl rfl zK (fun _ _=>⟨rfl,nilM _ _,trivial⟩) .nil) (.cons_cons _ (.cons_cons _ (.cons_cons _ (.cons_cons _ (.cons_cons _ (List.Sublist.refl _)))))) (Cs:=[_]) rfl (.fn (n:=22) zW rfl (fun bs hbs=>?_))
 obtain⟨b2,rfl⟩:=dw hbs
 refine .memEq (M':=(_::_::_::_::_::_::_)) rfl (.cv (Cv.wk (.k 0 rfl (.k 1 rfl (.k 4 rfl (.k 38 rfl (.cons (t:=6) (Has.op rfl) .nil)))))) (.store (.t rfl) (.t rfl) (i:=0) rfl zE rfl rfl (Ss':=[_,_]) rfl (M':=((some _,zC [_,_])::_::_::_::_::_::_)) rfl (nkQ k3 (.sq fun k4=>.dr (.m [] rfl (.so [39] rfl (.nilc (.t rfl)) (.so [40] rfl (.fieldAddr (.t rfl) lU zE) (.so [41] rfl (.load (.t rfl) (i:=2) rfl zE rfl (Ss':=[_,_]) rfl) (.so [] rfl (.load (.t rfl) (i:=0) rfl zE rfl (Ss':=[_,_]) rfl) (.so [42,43] rfl (.eq (.call (qE (by first|omega|(rw[zB];omega)) (by first|omega|(rw[zB];omega))) (.cons (.t rfl) (.cons (.t rfl) .nil))) ((show isZ _=isZ (zv n qs*(cf ds s*cf ds (s+2)+cf r.2 s*cf r.2 s)) from zO (by (try simp only[qN]);(try simp only[zH]))))) ?_))))))))))
 refine .m [] rfl (.so [45] rfl (.nilc (.t rfl)) (.so [46] rfl (.fieldAddr (.t rfl) lV zE) (.so [47] rfl (.load (.t rfl) (i:=2) rfl zE rfl (Ss':=[_,_]) rfl) (.m [] rfl (.so [49] rfl (.nilc (.t rfl)) (.so [50] rfl (.fieldAddr (.t rfl) xG zP) (.so [51] rfl (.load1 (.t rfl) (i:=2) rfl zP rfl) (.m [] rfl (.so [52,53] rfl (.ixGr zz zE (.t rfl) (.t rfl) (by omega)) ?_)))))))))
 refine .so [54] rfl (.loadGK zN (.t rfl) (i:=3) rfl zE (xn (i:=s+1) (by omega))) (.m [] rfl (.so [56] rfl (.nilc (.t rfl)) (.so [57] rfl (.fieldAddr (.t rfl) xG zP) (.so [58] rfl (.load1 (.t rfl) (i:=2) rfl zP rfl) (.m [] rfl (.so [59,60] rfl (.ixGr zz zE (.t rfl) (.t rfl) (by omega)) ?_))))))
 refine .so [61] rfl (.loadGK zN (.t rfl) (i:=3) rfl zE (xn (i:=s+1) (by omega))) (.so [55,62] rfl (.eq (.call (qE (by first|omega|(rw[zB];omega)) (by first|omega|(rw[zB];omega))) (.cons (.t rfl) (.cons (.t rfl) .nil))) ((show isZ _=isZ (cf ds (s+1)*cf ds (s+1)) from zO (by (try simp only[qN]);(try simp only[zH]))))) ?_)
 refine .fn (n:=25) zW (.w [4,44,48,63] rfl (st (.eq (.call (qE (by first|omega|(rw[zB];omega)) (by first|omega|(rw[zB];omega))) (.cons (.t rfl) (.cons (.t rfl) .nil))) ((show isZ _=isZ (zv m ps*(cf ds (s+1)*cf ds (s+1))) from zO (by (try simp only[qN]);(try simp only[zH]))))) rfl ?_))
 refine st (.eq (.call (jm (by first|omega|(rw[zB];omega)) (by first|omega|(rw[zB];omega))) (.cons (.t rfl) (.cons (.t rfl) .nil))) ((show isI _=isI (ql (zv n qs*(cf ds s*cf ds (s+2)+cf r.2 s*cf r.2 s)) (zv m ps*(cf ds (s+1)*cf ds (s+1)))) from zF (by (try simp only[qN]);(try simp only[zH]))))) rfl ?_
 refine st (.geI (.t rfl) (.cI 0 rfl)) rfl (stM rfl (nkQ k4 (.w [4] rfl (.ret (rG (.cons _ (.cons _ (.cons_cons _ (.cons_cons _ (.cons_cons _ (.cons_cons _ (List.Sublist.refl _))))))) (.inl rfl) Tryz.results95 rfl (.tmp (.t rfl) .nil) (⟨rfl,rfl⟩))))))
theorem bg {m n:Bool} {xs ys:List Nat} (hx:(List.length (zA (val xs)))<4294700000) (hy:(List.length (zA (val ys)))<4294700000) (h0:zv n ys≠0) (hd:zv n ys∣zv m xs):Ctr Tryz.prog 117 [zk [isB m,zD xs],zk [isB n,zD ys]] (isZ ((zv m xs).tdiv (zv n ys))):=by
 refine Ctr.i Tryz.func117 rfl Tryz.ntmps117 fun w0 F0=>.w [0,1] rfl (.fact (Has.okZ (Has.t (t:=0) rfl)) fun okz0=>.fact (Has.okZ (Has.t (t:=1) rfl)) fun okz1=>?_)
 have hE:zv n ys≠0∧(zv m xs).tmod (zv n ys)=0:=⟨h0,Int.tmod_eq_zero_of_dvd hd⟩
 refine .sr fun k1=>.box (.t rfl) rfl fun b1=>.box (.t rfl) rfl fun b2=>.alloc [isB false,SlM isU []] zK (fun _ _=>⟨rfl,nilM _ _,trivial⟩) rfl fun b3=>nkQ k1 (.sr fun k2=>st (.load (.t rfl) (i:=2) rfl zE rfl (Ss':=[_,_]) rfl) rfl (st (.load (.t rfl) (i:=1) rfl zE rfl (Ss':=[_,_]) rfl) rfl (st (.call (xd (by first|omega|assumption) (by first|omega|assumption)) (.cons (.t rfl) (.cons (.t rfl) .nil))) rfl (stM rfl (st (.ext (.t rfl) rfl) rfl (st (.ext (.t rfl) rfl) rfl (.alloc [isB false,SlM isU []] zK (fun _ _=>⟨rfl,nilM _ _,trivial⟩) rfl fun b4=>.store (.t rfl) (.t rfl) (i:=0) rfl zE rfl rfl (Ss':=[_,_]) rfl (M':=[(some _,zC [_,_]),_,_,_]) rfl (stM rfl (nkQ k2 (.w [4,5] rfl (.sr fun k3=>st (.load (.t rfl) (i:=0) rfl zE rfl (Ss':=[_,_]) rfl) rfl (.store (.t rfl) (.t rfl) (i:=1) rfl zE rfl rfl (Ss':=[_,_]) rfl (M':=[_,(some _,zC [_,_]),_,_]) rfl (nkQ k3 (.ret (rt1 (.inl rfl) Tryz.results117 rfl (.cell rfl (i:=1) rfl zE rfl ?_ .nil))))))))))))))))
 all_goals (exact zO (if_pos hE))
end Go.Proofs.YtchbfpcaibfkdaaGreat
namespace Go.Dt
abbrev zI : Type:=Nat→Nat→Int
def sm : Nat→(Nat→Int)→Int
 | 0,_=>0
 | n+1,f=>sm n f+f n
theorem zS {f g:Nat→Int}:∀{n:Nat},(∀i,i<n→f i=g i)→sm n f=sm n g
  | 0,_=>rfl
  | n+1,h=>by
    show sm n f+f n=sm n g+g n
    rw[zS (n:=n) fun i hi=>h i (by omega),h n (by omega)]
theorem xu {f:Nat→Int} {n:Nat} (h:∀i,i<n→f i=0):sm n f=0:=by
 have e:sm n f=sm n (fun _=>0):=zS h
 rw[e]
 induction n with
 | zero=>rfl
 | succ n ih=>show sm n _+0=0;rw[ih (fun i hi=>h i (by omega)) (zS fun i hi=>h i (by omega))];rfl
theorem wV (x y:Int) (f g:Nat→Int):∀n:Nat,sm n (fun i=>x*f i+y*g i)=x*sm n f+y*sm n g
  | 0=>by show (0:Int)=x*0+y*0;omega
  | n+1=>by
    show sm n _+(x*f n+y*g n)=x*(sm n f+f n)+y*(sm n g+g n)
    rw[wV x y f g n,Int.mul_add,Int.mul_add];omega
theorem xf (x:Int) (f:Nat→Int) (n:Nat):sm n (fun i=>x*f i)=x*sm n f:=by
 have h:=wV x 0 f f n
 rw[Int.zero_mul,Int.add_zero] at h
 rw[←h]
 exact zS fun i _=>by rw[Int.zero_mul,Int.add_zero]
theorem kt (f g:Nat→Int) (n:Nat):sm n (fun i=>f i+g i)=sm n f+sm n g:=by
 have h:=wV 1 1 f g n
 rw[Int.one_mul,Int.one_mul] at h
 rw[←h]
 exact zS fun i _=>by rw[Int.one_mul,Int.one_mul]
theorem aK {f:Nat→Int} {n c:Nat} (hc:c<n) (h:∀i,i<n→i≠c→f i=0):sm n f=f c:=by
  induction n with
  | zero=>omega
  | succ n ih=>
    show sm n f+f n=f c
    by_cases e:c=n
    · subst e
      rw[xu fun i hi=>h i (by omega) (by omega)];omega
    · rw[ih (by omega) fun i hi=>h i (by omega),h n (by omega) (by omega)];omega
theorem zHK {f:Nat→Int} {n c:Nat} (hc:c+1<n) (h2:f c+f (c+1)=0) (h:∀i,i<n→i≠c→i≠c+1→f i=0):sm n f=0:=by
  induction n with
  | zero=>omega
  | succ n ih=>
    show sm n f+f n=0
    by_cases e:c+1=n
    · subst e
      rw[aK (c:=c) (by omega) fun i hi hne=>h i (by omega) hne (by omega)];exact h2
    · rw[ih (by omega) fun i hi=>h i (by omega),h n (by omega) (by omega) (by omega)];rfl
theorem cm (f:Nat→Nat→Int) (m:Nat):∀n:Nat,sm n (fun i=>sm m fun j=>f i j)=sm m (fun j=>sm n fun i=>f i j)
  | 0=>(xu fun _ _=>rfl).symm
  | n+1=>by
    show sm n _+sm m _=sm m fun j=>sm n (fun i=>f i j)+f n j
    rw[cm f m n,←kt]
def sg (k:Nat):Int:=if k%2=1 then -1 else 1
theorem rC (k:Nat):sg (k+1) = - sg k:=by
 unfold sg
 rcases Nat.mod_two_eq_zero_or_one k with h|h
 ·rw[if_pos (by omega),if_neg (by omega)]
 ·rw[if_neg (by omega),if_pos h];rfl
def skip (k j:Nat):Nat:=if j<k then j else j+1
def xM (k j:Nat):Nat:=if j<k then j else j-1
theorem zCX (k j:Nat):skip k j≠k:=by unfold skip;split <;> omega
theorem mA (k j:Nat):xM k (skip k j)=j:=by unfold xM skip;(repeat' split) <;> omega
theorem wK {k j:Nat} (h:j≠k):skip k (xM k j)=j:=by unfold xM skip;(repeat' split) <;> omega
theorem zCY {k j n:Nat} (h:j<n):skip k j<n+1:=by unfold skip;split <;> omega
theorem bN {k j n:Nat} (h:j<n+1) (hk:k<n+1) (hne:j≠k):xM k j<n:=by unfold xM;split <;> omega
theorem pz {k j c:Nat} (h:c≠k):skip k j=c↔j=xM k c:=⟨fun e=>by rw[←e,mA],fun e=>by rw[e,wK h]⟩
def det : Nat→zI→Int
 | 0,_=>1
 | n+1,A=>sm (n+1) fun k=>sg k*(A 0 k*det n fun i j=>A (i+1) (skip k j))
theorem vW (n:Nat) (A:zI):det (n+1) A=sm (n+1) fun k=>sg k*(A 0 k*det n fun i j=>A (i+1) (skip k j)):=rfl
theorem zy : ∀{n:Nat} {A B:zI},(∀i j,i<n→j<n→A i j=B i j)→det n A=det n B
  | 0,_,_,_=>rfl
  | n+1,A,B,h=>zS fun k hk=>by
    rw[h 0 k (by omega) hk,zy (n:=n) fun i j hi hj=>h (i+1) (skip k j) (by omega) (zCY hj)]
def kv (A:zI) (c:Nat) (v:Nat→Int):zI:=fun i j=>if j=c then v i else A i j
def zw (A:zI) (r:Nat) (v:Nat→Int):zI:=fun i j=>if i=r then v j else A i j
theorem fo (A:zI) (c:Nat) (v:Nat→Int) {k:Nat} (h:c≠k):(fun i j=>kv A c v (i+1) (skip k j))=kv (fun i j=>A (i+1) (skip k j)) (xM k c) (fun i=>v (i+1)):=by
 funext i j
 unfold kv
 by_cases e:j=xM k c
 ·rw[if_pos e,if_pos ((pz h).2 e)]
 ·rw[if_neg e,if_neg fun e2=>e ((pz h).1 e2)]
theorem fm (A:zI) (k:Nat) (v:Nat→Int):(fun i j=>kv A k v (i+1) (skip k j))=fun i j=>A (i+1) (skip k j):=by
 funext i j
 exact if_neg (zCX k j)
theorem sF (x y:Int) (u v:Nat→Int):∀{n:Nat} (A:zI) (c:Nat),c<n→det n (kv A c fun i=>x*u i+y*v i)=x*det n (kv A c u)+y*det n (kv A c v)
  | 0,_,_,h=>by omega
  | n+1,A,c,h=>by
    rw[vW,vW,vW,←wV]
    refine zS fun k hk=>?_
    by_cases e:k=c
    · subst e
      rw[fm,fm,fm]
      have h1:∀w:Nat→Int,kv A k w 0 k=w 0:=fun w=>if_pos rfl
      rw[h1,h1,h1]
      generalize det n (fun i j=>A (i+1) (skip k j))=d
      generalize sg k=s
      rw[Int.add_mul,Int.mul_add,Int.mul_assoc,Int.mul_assoc,Int.mul_left_comm s x,Int.mul_left_comm s y]
    · have hc:c≠k:=fun e2=>e e2.symm
      rw[fo _ _ _ hc,fo _ _ _ hc,fo _ _ _ hc,sF x y _ _ _ _ (bN h hk hc)]
      have h1:∀w:Nat→Int,kv A c w 0 k=A 0 k:=fun w=>if_neg e
      rw[h1,h1,h1]
      generalize sg k=s
      generalize A 0 k=a
      rw[Int.mul_add,Int.mul_add,Int.mul_left_comm a x,Int.mul_left_comm a y,Int.mul_left_comm s x,Int.mul_left_comm s y]
theorem eP : ∀{n:Nat} (A:zI) (c:Nat),c+1<n→(∀i,i<n→A i c=A i (c+1))→det n A=0
  | 0,_,_,h,_=>by omega
  | n+1,A,c,h,hA=>by
    rw[vW]
    refine zHK h ?_ fun k hk h1 h2=>?_
    · rw[←hA 0 (by omega),rC]
      have e:det n (fun i j=>A (i+1) (skip c j))=det n (fun i j=>A (i+1) (skip (c+1) j)):=zy fun i j hi hj=>by
        unfold skip
        by_cases e1:j<c
        · rw[if_pos e1,if_pos (by omega)]
        · rw[if_neg e1]
          by_cases e2:j<c+1
          · rw[if_pos e2]
            obtain rfl:j=c:=by omega
            exact (hA (i+1) (by omega)).symm
          · rw[if_neg e2]
      rw[e,Int.neg_mul];omega
    · have hu:xM k (c+1)=xM k c+1:=by unfold xM;split <;> split <;> omega
      rw[eP (n:=n) _ (xM k c) (by have:=bN h hk (fun e=>h2 e.symm);omega) fun i hi=>?_,Int.mul_zero,Int.mul_zero]
      rw[←hu,wK (fun e=>h1 e.symm),wK (fun e=>h2 e.symm)]
      exact hA (i+1) (by omega)
def one : zI:=fun i j=>if i=j then 1 else 0
theorem br : ∀n:Nat,det n one=1
  | 0=>rfl
  | n+1=>by
    rw[vW,aK (c:=0) (by omega) fun k hk hne=>?_]
    · have e:det n (fun i j=>one (i+1) (skip 0 j))=det n one:=zy fun i j _ _=>by
        unfold one skip
        repeat' split
        all_goals omega
      rw[e,br n];rfl
    · have e:one 0 k=0:=if_neg (by omega)
      rw[e,Int.zero_mul,Int.mul_zero]
structure RowF (n:Nat) (F:zI→Int):Prop where
 congr:∀{A B:zI},(∀i j,i<n→j<n→A i j=B i j)→F A=F B
 lin:∀(A:zI) (r:Nat) (x y:Int) (u v:Nat→Int),r<n→F (zw A r fun j=>x*u j+y*v j)=x*F (zw A r u)+y*F (zw A r v)
 alt:∀(A:zI) (r:Nat),r+1<n→(∀j,j<n→A r j=A (r+1) j)→F A=0
namespace RowF
variable {n : Nat} {F : zI → Int}
theorem set_self (A:zI) (r:Nat):zw A r (A r)=A:=by
 funext i j;unfold zw;split
 ·rename_i e;rw[e]
 ·rfl
theorem set_set (A:zI) (r:Nat) (u v:Nat→Int):zw (zw A r u) r v=zw A r v:=by
 funext i j;unfold zw;split <;> rfl
theorem wt (A:zI) {r s:Nat} (h:r≠s) (u v:Nat→Int):zw (zw A r u) s v=zw (zw A s v) r u:=by
 funext i j;unfold zw
 by_cases e1:i=s
 ·rw[if_pos e1,if_neg (by omega),if_pos e1]
 ·rw[if_neg e1,if_neg e1]
theorem set_at (A:zI) (r:Nat) (u:Nat→Int):zw A r u r=u:=by funext j;exact if_pos rfl
theorem set_ne (A:zI) {r s:Nat} (h:s≠r) (u:Nat→Int):zw A r u s=A s:=by funext j;exact if_neg h
theorem zero (h:RowF n F) {A:zI} {r:Nat} (hr:r<n) (hz:∀j,j<n→A r j=0):F A=0:=by
 have e:F A=F (zw A r fun j=>0*A r j+0*A r j):=h.congr fun i j _ hj=>by
  unfold zw;split
  ·rename_i e;show _=0*A r j+0*A r j;rw[e,hz j hj];rfl
  ·rfl
 rw[e,h.lin A r 0 0 _ _ hr];omega
theorem add (h:RowF n F) (A:zI) {r:Nat} (hr:r<n) (u v:Nat→Int):F (zw A r fun j=>u j+v j)=F (zw A r u)+F (zw A r v):=by
 have e:=h.lin A r 1 1 u v hr
 rw[Int.one_mul,Int.one_mul] at e
 rw[←e]
 congr 2;funext j;omega
theorem smul (h:RowF n F) (A:zI) {r:Nat} (hr:r<n) (x:Int) (u:Nat→Int):F (zw A r fun j=>x*u j)=x*F (zw A r u):=by
 have e:=h.lin A r x 0 u u hr
 rw[Int.zero_mul,Int.add_zero] at e
 rw[←e]
 congr 2;funext j;omega
theorem sum (h:RowF n F) (A:zI) {r:Nat} (hr:r<n) (c:Nat→Int) (u:Nat→Nat→Int):∀m:Nat,F (zw A r fun j=>sm m fun k=>c k*u k j)=sm m fun k=>c k*F (zw A r (u k))
  | 0=>h.zero (A:=zw A r _) hr fun j _=>by rw[set_at];rfl
  | m+1=>by
    show F (zw A r fun j=>sm m (fun k=>c k*u k j)+c m*u m j)=_
    rw[h.add A hr,sum h A hr c u m,h.smul A hr];rfl
theorem two (h:RowF n F) (A:zI) {r s:Nat} (hr:r<n) (hs:s<n) (hne:r≠s) (heq:∀u:Nat→Int,F (zw (zw A r u) s u)=0) (u v:Nat→Int):F (zw (zw A r u) s v) = - F (zw (zw A r v) s u):=by
 have e:=heq fun j=>u j+v j
 rw[h.add _ hs,wt _ hne,wt _ hne,h.add _ hr,h.add _ hr,←wt _ hne,←wt _ hne,←wt _ hne,←wt _ hne,heq u,heq v] at e
 omega
theorem swap1 (h:RowF n F) (A:zI) {r:Nat} (hr:r+1<n) (u v:Nat→Int):F (zw (zw A r u) (r+1) v) = - F (zw (zw A r v) (r+1) u):=
 h.two A (by omega) hr (by omega) (fun u=>h.alt _ r hr fun j _=>by rw[set_at,set_ne _ (by omega),set_at]) u v
theorem same (h:RowF n F):∀(d:Nat) (A:zI) (r:Nat),r+1+d<n→(∀j,j<n→A r j=A (r+1+d) j)→F A=0
  | 0,A,r,hr,hA=>h.alt A r hr hA
  | d+1,A,r,hr,hA=>by
    have e:A=zw (zw A (r+1+d) (A (r+1+d))) (r+1+d+1) (A (r+1+d+1)):=by rw[set_self,set_self]
    rw[e,h.swap1 A (by omega),same h d _ r (by omega) fun j hj=>?_]
    · rfl
    · rw[set_ne _ (by omega),set_ne _ (by omega),set_ne _ (by omega),set_at,hA j hj];rfl
theorem eqr (h:RowF n F) {A:zI} {r s:Nat} (hr:r<n) (hs:s<n) (hne:r≠s) (hA:∀j,j<n→A r j=A s j):F A=0:=by
 rcases Nat.lt_or_gt_of_ne hne with hl|hl
 ·obtain⟨d,rfl⟩:∃d,s=r+1+d:=⟨s-r-1,by omega⟩
  exact h.same d A r hs hA
 ·obtain⟨d,rfl⟩:∃d,r=s+1+d:=⟨r-s-1,by omega⟩
  exact h.same d A s hr fun j hj=>(hA j hj).symm
theorem swap (h:RowF n F) (A:zI) {r s:Nat} (hr:r<n) (hs:s<n) (hne:r≠s) (u v:Nat→Int):F (zw (zw A r u) s v) = - F (zw (zw A r v) s u):=
 h.two A hr hs hne (fun u=>h.eqr hr hs hne fun j _=>by rw[set_at,set_ne _ hne,set_at]) u v
theorem addrow (h:RowF n F) (A:zI) {r s:Nat} (hr:r<n) (hs:s<n) (hne:r≠s) (x:Int):F (zw A r fun j=>A r j+x*A s j)=F A:=by
 rw[h.add A hr,set_self,h.smul A hr,h.eqr hr hs hne (A:=zw A r (A s)) fun j _=>by rw[set_at,set_ne _ (fun e=>hne e.symm)]];omega
def ins (k:Nat) (B:zI):zI:=fun i j=>if i=0 then (if j=k then 1 else 0) else if j=k then 0 else B (i-1) (xM k j)
theorem nE (k:Nat) (B:zI) (j:Nat):ins k B 0 j=if j=k then 1 else 0:=rfl
theorem vU (k:Nat) (B:zI) (i j:Nat):ins k B (i+1) j=if j=k then 0 else B i (xM k j):=rfl
theorem zEJ (k:Nat) (B:zI) (r:Nat) (v:Nat→Int):ins k (zw B r v)=zw (ins k B) (r+1) (fun j=>if j=k then 0 else v (xM k j)):=by
  funext i j
  cases i with
  | zero=>exact (if_neg (by omega)).symm
  | succ i=>
    show _=if i+1=r+1 then (if j=k then 0 else v (xM k j)) else ins k B (i+1) j
    rw[vU,vU]
    unfold zw
    by_cases e:i=r
    · rw[if_pos (c:=i+1=r+1) (by omega),if_pos e]
    · rw[if_neg (c:=i+1=r+1) (by omega),if_neg e]
theorem insF {F:zI→Int} (h:RowF (n+1) F) {k:Nat} (hk:k<n+1):RowF n fun B=>F (ins k B) where
  congr {A B} e:=h.congr fun i j hi hj=>by
    cases i with
    | zero=>rfl
    | succ i=>
      rw[vU,vU]
      by_cases h1:j=k
      · rw[if_pos h1,if_pos h1]
      · rw[if_neg h1,if_neg h1];exact e _ _ (by omega) (bN hj hk h1)
  lin A r x y u v hr:=by
    simp only[zEJ]
    rw[←h.lin _ (r+1) x y _ _ (by omega)]
    congr 2;funext j;split
    · omega
    · rfl
  alt A r hr e:=h.alt _ (r+1) (by omega) fun j hj=>by
    rw[vU,vU]
    split
    · rfl
    · rename_i h1;exact e _ (bN hj hk h1)
theorem rg (h:RowF (n+1) F):∀k:Nat,k<n+1→F (ins k one)=sg k*F one
  | 0,_=>by
    have e:F (ins 0 one)=F one:=h.congr fun i j _ _=>by
      unfold ins one xM
      repeat' split
      all_goals omega
    rw[e];show _=1*_;omega
  | k+1,hk=>by
    have ih:=rg h k (by omega)
    have e1:ins k one=zw (zw (ins k one) 0 (ins k one 0)) (k+1) (ins k one (k+1)):=by rw[set_self,set_self]
    have e2:F (ins (k+1) one)=F (zw (zw (ins k one) 0 (ins k one (k+1))) (k+1) (ins k one 0)):=h.congr fun i j hi hj=>by
      unfold zw
      by_cases hik:i=k+1
      · rw[if_pos hik,hik,nE,vU]
        unfold one xM
        repeat' split
        all_goals omega
      · rw[if_neg hik]
        cases i with
        | zero=>
          rw[if_pos rfl,nE,vU]
          unfold one xM
          repeat' split
          all_goals omega
        | succ i=>
          rw[if_neg (by omega),vU,vU]
          unfold one xM
          repeat' split
          all_goals omega
    have e3:F (ins (k+1) one) = - F (ins k one):=by rw[e2,h.swap _ (by omega) hk (by omega),←e1]
    rw[e3,ih,rC,Int.neg_mul]
def nZ (A:zI) (k m:Nat):zI:=fun i j=>if i=0 then (if j=k then 1 else 0) else if j=k∧i≤m then 0 else A i j
theorem zBP (h:RowF (n+1) F) (A:zI) {k:Nat} (hk:k<n+1):∀m:Nat,m≤n→F (nZ A k m)=F (nZ A k 0)
  | 0,_=>rfl
  | m+1,hm=>by
    rw[←zBP h A hk m (by omega),←h.addrow (nZ A k m) (r:=m+1) (s:=0) (by omega) (by omega) (by omega) (- A (m+1) k)]
    refine h.congr fun i j hi hj=>?_
    unfold zw
    by_cases e:i=m+1
    · rw[if_pos e,e]
      show (if j=k∧m+1≤m+1 then 0 else A (m+1) j)=(if j=k∧m+1≤m then 0 else A (m+1) j) + -A (m+1) k*(if j=k then 1 else 0)
      by_cases h1:j=k
      · rw[h1,if_pos ⟨rfl,Nat.le_refl _⟩,if_neg (by omega),if_pos rfl];omega
      · rw[if_neg (by omega),if_neg (by omega),if_neg h1];omega
    · rw[if_neg e]
      unfold nZ
      split
      · rfl
      · by_cases h1:j=k∧i≤m
        · rw[if_pos h1,if_pos ⟨h1.1,by omega⟩]
        · rw[if_neg h1,if_neg (by omega)]
end RowF
open RowF
theorem RowF.uniq : ∀{n:Nat} {F:zI→Int},RowF n F→∀A:zI,F A=F one*det n A
  | 0,F,h,A=>by
    rw[show det 0 A=1 from rfl,Int.mul_one]
    exact h.congr fun i j hi=>by omega
  | n+1,F,h,A=>by
    have e1:F A=F (zw A 0 fun j=>sm (n+1) fun k=>A 0 k*(if j=k then 1 else 0)):=h.congr fun i j hi hj=>by
      unfold zw;split
      · rename_i e
        show _=sm (n+1) fun k=>A 0 k*(if j=k then 1 else 0)
        rw[e,aK (c:=j) hj fun k _ hne=>by rw[if_neg (fun e=>hne e.symm),Int.mul_zero],if_pos rfl,Int.mul_one]
      · rfl
    rw[e1,h.sum A (by omega) (fun k=>A 0 k) (fun k j=>if j=k then 1 else 0),vW,←xf]
    refine zS fun k hk=>?_
    have e2:F (zw A 0 fun j=>if j=k then 1 else 0)=F (nZ A k 0):=h.congr fun i j _ _=>by
      unfold zw nZ;split
      · rfl
      · rw[if_neg (by omega)]
    have e3:F (nZ A k n)=F (ins k fun i j=>A (i+1) (skip k j)):=h.congr fun i j hi hj=>by
      unfold nZ ins
      split
      · rfl
      · rename_i h0
        by_cases h1:j=k
        · rw[if_pos ⟨h1,by omega⟩,if_pos h1]
        · rw[if_neg (by omega),if_neg h1]
          show A i j=A (i-1+1) (skip k (xM k j))
          rw[wK h1,show i-1+1=i by omega]
    have e4:=RowF.uniq (h.insF hk) fun i j=>A (i+1) (skip k j)
    simp only[rg h k hk] at e4
    rw[e2,←zBP h A hk n (Nat.le_refl _),e3,e4]
    generalize det n (fun i j=>A (i+1) (skip k j))=d
    generalize A 0 k=a
    generalize sg k=s
    generalize F one=f
    rw[Int.mul_left_comm f s,Int.mul_left_comm f a,Int.mul_assoc,Int.mul_left_comm a s]
def tr (A:zI):zI:=fun i j=>A j i
theorem kS (n:Nat):RowF n fun A=>det n (tr A) where
 congr e:=zy fun i j hi hj=>e j i hj hi
 lin A r x y u v hr:=sF x y u v (tr A) r hr
 alt A r hr e:=eP (tr A) r hr e
theorem aX (n:Nat) (A:zI):det n (tr A)=det n A:=by
 have h:=(kS n).uniq A
 have e:det n (tr one)=1:=by
  rw[←br n]
  exact zy fun i j _ _=>by
   unfold tr one
   repeat' split
   all_goals omega
 rw[h,e,Int.one_mul]
theorem xK (n:Nat):RowF n (det n):=by
 have e:det n=fun A=>det n (tr A):=funext fun A=>(aX n A).symm
 rw[e];exact kS n
def iP (n:Nat) (A B:zI):zI:=fun i j=>sm n fun k=>A i k*B k j
theorem yb (n:Nat) (A B:zI) (r:Nat) (v:Nat→Int):iP n (zw A r v) B=zw (iP n A B) r fun j=>sm n fun k=>v k*B k j:=by
 funext i j
 unfold iP zw
 split <;> rfl
theorem tI (n m:Nat) (B:zI):RowF n fun A=>det n (iP n A B) where
 congr e:=zy fun i j hi hj=>zS fun k hk=>by rw[e i k hi hk]
 lin A r x y u v hr:=by
  simp only[yb]
  rw[←(xK n).lin _ r x y _ _ hr]
  congr 2;funext j
  rw[←wV]
  exact zS fun k _=>by rw[Int.add_mul,Int.mul_assoc,Int.mul_assoc]
 alt A r hr e:=(xK n).alt _ r hr fun j hj=>zS fun k hk=>by rw[e k hk]
theorem lZ (n:Nat) (A B:zI):det n (iP n A B)=det n A*det n B:=by
 have h:=(tI n n B).uniq A
 have e:det n (iP n one B)=det n B:=zy fun i j hi _=>by
  unfold iP one
  rw[aK (c:=i) hi fun k _ hne=>by rw[if_neg (fun e=>hne e.symm),Int.zero_mul],if_pos rfl,Int.one_mul]
 rw[h,e,Int.mul_comm]
end Go.Dt
namespace Go.Dt
open RowF
theorem bV (f:Nat→Int):∀n:Nat,sm (n+1) f=f 0+sm n (fun i=>f (i+1))
  | 0=>by show (0:Int)+f 0=f 0+0;omega
  | n+1=>by
    show sm (n+1) f+f (n+1)=f 0+(sm n (fun i=>f (i+1))+f (n+1))
    rw[bV f n];omega
def sub (A:zI) (rs cs:List Nat):zI:=fun i j=>A (rs.getD i 0) (cs.getD j 0)
def mn (A:zI) (rs cs:List Nat):Int:=det rs.length (sub A rs cs)
theorem iS {n:Nat} {A:zI} {c d:Nat} (hc:c<n) (hd:d<n) (hne:c≠d) (h:∀i,i<n→A i c=A i d):det n A=0:=by
 rw[←aX];exact (xK n).eqr (A:=tr A) hc hd hne h
theorem eD {n:Nat} {N:zI} (h:∀j,j<n→N 0 (j+1)=0):det (n+1) N=N 0 0*det n (fun i j=>N (i+1) (j+1)):=by
 rw[vW,bV,xu fun j hj=>by rw[h j hj,Int.zero_mul,Int.mul_zero]]
 have e:(fun i j=>N (i+1) (skip 0 j))=fun i j=>N (i+1) (j+1):=by
  funext i j;unfold skip;rw[if_neg (by omega)]
 rw[e];show 1*_+0=_;omega
theorem vV {l:List Nat} {j:Nat} (h:j<l.length):l.getD j 0∈l:=by
 rw[List.getD,List.getElem?_eq_getElem h];exact List.getElem_mem h
theorem gK {l:List Nat} {k:Nat} (h:k∈l):∃j,j<l.length∧l.getD j 0=k:=by
 obtain⟨j,hj,e⟩:=List.mem_iff_getElem.1 h
 exact⟨j,hj,by rw[List.getD,List.getElem?_eq_getElem hj];exact e⟩
def ec (A:zI) (rs cs:List Nat) (i r:Nat):Int:=sg (r+1)*det rs.length (fun p q=>A ((i::rs).getD (skip (r+1) q) 0) (cs.getD p 0))
theorem dq (A:zI) (rs cs:List Nat) (i k:Nat):mn A (i::rs) (k::cs)=mn A rs cs*A i k+sm rs.length fun r=>ec A rs cs i r*A (rs.getD r 0) k:=by
 show det (rs.length+1) _=_
 rw[←aX,vW,bV]
 have e0:det rs.length (fun p q=>tr (sub A (i::rs) (k::cs)) (p+1) (skip 0 q))=mn A rs cs:=by
  unfold mn
  rw[←aX (A:=sub A rs cs)]
  refine congrArg _ ?_
  funext p q
  unfold skip
  rw[if_neg (by omega)];rfl
 rw[e0]
 have e1:sg 0*(tr (sub A (i::rs) (k::cs)) 0 0*mn A rs cs)=mn A rs cs*A i k:=by
  show 1*(A i k*_)=_
  rw[Int.one_mul,Int.mul_comm]
 rw[e1]
 refine congrArg _ (zS fun r _=>?_)
 show sg (r+1)*(A (rs.getD r 0) k*det rs.length (fun p q=>A ((i::rs).getD (skip (r+1) q) 0) (cs.getD p 0)))=_
 unfold ec
 rw[Int.mul_comm (A (rs.getD r 0) k),Int.mul_assoc]
theorem oo (A:zI) {rs cs:List Nat} (hl:cs.length=rs.length) (i:Nat) {k:Nat} (hk:k∈cs):mn A (i::rs) (k::cs)=0:=by
 obtain⟨j,hj,e⟩:=gK hk
 refine iS (c:=0) (d:=j+1) (by show 0<rs.length+1;omega) (by show j+1<rs.length+1;omega) (by omega) fun p _=>?_
 show A _ k=A _ (cs.getD j 0)
 rw[e]
theorem yd (A:zI) {rs cs:List Nat} {i:Nat} (hi:i∈rs) (k:Nat):mn A (i::rs) (k::cs)=0:=by
 obtain⟨j,hj,e⟩:=gK hi
 refine (xK _).eqr (r:=0) (s:=j+1) (by show 0<rs.length+1;omega) (by show j+1<rs.length+1;omega) (by omega) fun q _=>?_
 show A i _=A (rs.getD j 0) _
 rw[e]
theorem RowF.comb {n:Nat} {F:zI→Int} (h:RowF n F) (A:zI) {r:Nat} (hr:r<n) (D:Int) (e:Nat→Int) (f:Nat→Nat) (m:Nat) (hf:∀p,p<m→f p<n∧f p≠r):
  F (zw A r fun j=>D*A r j+sm m fun p=>e p*A (f p) j)=D*F A:=by
 rw[h.add A hr,h.smul A hr,set_self,h.sum A hr e (fun p=>A (f p)),xu fun p hp=>?_]
 ·omega
 ·obtain⟨h1,h2⟩:=hf p hp
  rw[h.eqr hr h1 (fun e=>h2 e.symm) (A:=zw A r (A (f p))) fun j _=>by rw[set_at,set_ne _ h2],Int.mul_zero]
theorem mn_two (A:zI) {rs cs:List Nat} (hl:cs.length=rs.length) (i1 i2 k1 k2:Nat):
  mn A rs cs*(mn A rs cs*mn A (i1::i2::rs) (k1::k2::cs))=mn A rs cs*(mn A (i1::rs) (k1::cs)*mn A (i2::rs) (k2::cs)-mn A (i1::rs) (k2::cs)*mn A (i2::rs) (k1::cs)):=by
 obtain⟨t,ht⟩:∃t,t=rs.length:=⟨_,rfl⟩
 obtain⟨M,hM⟩:∃M,M=sub A (i1::i2::rs) (k1::k2::cs):=⟨_,rfl⟩
 obtain⟨w,hw⟩:∃w:Nat→Nat→Int,w=fun i j=>mn A (i::rs) ((k1::k2::cs).getD j 0::cs):=⟨_,rfl⟩
 have hR:=xK (t+2)
 have h1:w i1=fun j=>mn A rs cs*M 0 j+sm t fun p=>ec A rs cs i1 p*M (p+2) j:=by
  rw[hw,hM,ht];funext j;exact dq A rs cs i1 _
 have h2:w i2=fun j=>mn A rs cs*M 1 j+sm t fun p=>ec A rs cs i2 p*M (p+2) j:=by
  rw[hw,hM,ht];funext j;exact dq A rs cs i2 _
 have g1:det (t+2) (zw M 0 (w i1))=mn A rs cs*det (t+2) M:=by
  rw[h1];exact hR.comb M (r:=0) (by omega) (mn A rs cs) (ec A rs cs i1) (fun p=>p+2) t (fun p hp=>⟨by omega,by omega⟩)
 have g2:det (t+2) (zw (zw M 0 (w i1)) 1 (w i2))=mn A rs cs*det (t+2) (zw M 0 (w i1)):=by
  have e:w i2=fun j=>mn A rs cs*zw M 0 (w i1) 1 j+sm t fun p=>ec A rs cs i2 p*zw M 0 (w i1) (p+2) j:=by
   rw[h2];funext j
   rw[set_ne M (by omega)]
   refine congrArg _ (zS fun p _=>?_)
   rw[set_ne M (by omega)]
  rw[congrArg (zw (zw M 0 (w i1)) 1) e]
  exact hR.comb (zw M 0 (w i1)) (r:=1) (by omega) (mn A rs cs) (ec A rs cs i2) (fun p=>p+2) t (fun p hp=>⟨by omega,by omega⟩)
 have hz:∀i j,j<t→w i (j+2)=0:=fun i j hj=>by
  rw[hw];exact oo A hl i (vV (by omega))
 have e3:mn A (i1::i2::rs) (k1::k2::cs)=det (t+2) M:=by rw[hM,ht];rfl
 have e4:∀i,w i 0=mn A (i::rs) (k1::cs):=fun i=>by rw[hw];rfl
 have e5:∀i,w i 1=mn A (i::rs) (k2::cs):=fun i=>by rw[hw];rfl
 rw[e3,←g1,←g2,←e4,←e5,←e5,←e4,vW,bV,bV,xu fun j hj=>?_]
 ·have d0:det (t+1) (fun i j=>zw (zw M 0 (w i1)) 1 (w i2) (i+1) (skip 0 j))=w i2 1*mn A rs cs:=by
   rw[eD fun j hj=>?_]
   ·have:(fun i j=>zw (zw M 0 (w i1)) 1 (w i2) (i+1+1) (skip 0 (j+1)))=sub A rs cs:=by
     rw[hM];rfl
    rw[this,ht];rfl
   ·exact hz i2 j hj
  have d1:det (t+1) (fun i j=>zw (zw M 0 (w i1)) 1 (w i2) (i+1) (skip 1 j))=w i2 0*mn A rs cs:=by
   have s1:∀j,skip 1 (j+1)=j+2:=fun j=>by unfold skip;rw[if_neg (by omega)]
   rw[eD fun j hj=>?_]
   ·have:(fun i j=>zw (zw M 0 (w i1)) 1 (w i2) (i+1+1) (skip 1 (j+1)))=sub A rs cs:=by
     funext i j
     rw[s1,hM];rfl
    rw[this,ht];rfl
   ·show w i2 (skip 1 (j+1))=0
    rw[s1];exact hz i2 j hj
  show sg 0*(zw (zw M 0 (w i1)) 1 (w i2) 0 0*_)+(sg 1*(zw (zw M 0 (w i1)) 1 (w i2) 0 1*_)+0)=_
  rw[d0,show (0+1:Nat)=1 from rfl,d1]
  show 1*(w i1 0*(w i2 1*mn A rs cs))+(-1*(w i1 1*(w i2 0*mn A rs cs))+0)=mn A rs cs*(w i1 0*w i2 1-w i1 1*w i2 0)
  rw[Int.mul_sub,←Int.mul_assoc (w i1 0),←Int.mul_assoc (w i1 1),Int.mul_comm (mn A rs cs),Int.mul_comm (mn A rs cs)]
  omega
 ·show sg (j+1+1)*(w i1 (j+2)*_)=0
  rw[hz i1 j hj,Int.zero_mul,Int.mul_zero]
theorem rW (A:zI) {rs cs:List Nat} (hl:cs.length=rs.length) (h0:mn A rs cs≠0) (i1 i2 k1 k2:Nat):
  mn A (i1::rs) (k1::cs)*mn A (i2::rs) (k2::cs)-mn A (i1::rs) (k2::cs)*mn A (i2::rs) (k1::cs)=mn A rs cs*mn A (i1::i2::rs) (k1::k2::cs):=
 (Int.eq_of_mul_eq_mul_left h0 (mn_two A hl i1 i2 k1 k2)).symm
theorem zFK (n:Nat) (A:zI):det n (fun i j=>A (n-1-i) (n-1-j))=det n A:=by
 have hF:RowF n fun A:zI=>det n (fun i j=>A (n-1-i) (n-1-j)):={
  congr:=fun e=>zy fun i j hi hj=>e _ _ (by omega) (by omega)
  lin:=fun A r x y u v hr=>by
   have e:∀w:Nat→Int,(fun i j=>zw A r w (n-1-i) (n-1-j))=fun i j=>if n-1-i=r then w (n-1-j) else A (n-1-i) (n-1-j):=fun w=>rfl
   have e2:∀w:Nat→Int,det n (fun i j=>zw A r w (n-1-i) (n-1-j))=det n (zw (fun i j=>A (n-1-i) (n-1-j)) (n-1-r) fun j=>w (n-1-j)):=fun w=>zy fun i j hi hj=>by
    unfold zw
    by_cases h:n-1-i=r
    ·rw[if_pos h,if_pos (by omega)]
    ·rw[if_neg h,if_neg (by omega)]
   rw[e2,e2,e2]
   exact (xK n).lin _ (n-1-r) x y _ _ (by omega)
  alt:=fun A r hr e=>(xK n).eqr (r:=n-1-r) (s:=n-1-(r+1)) (by omega) (by omega) (by omega) fun j hj=>by
   show A (n-1-(n-1-r)) _=A (n-1-(n-1-(r+1))) _
   rw[show n-1-(n-1-r)=r by omega,show n-1-(n-1-(r+1))=r+1 by omega]
   exact e _ (by omega) }
 have h:=hF.uniq A
 have e:det n (fun i j=>one (n-1-i) (n-1-j))=1:=by
  rw[←br n]
  exact zy fun i j _ _=>by
   unfold one
   repeat' split
   all_goals omega
 rw[h,e,Int.one_mul]
theorem gZ (l:List Nat) {i:Nat} (h:i<l.length):l.reverse.getD i 0=l.getD (l.length-1-i) 0:=by
 rw[List.getD,List.getD,List.getElem?_reverse h]
theorem yf (A:zI) {rs cs:List Nat} (hl:cs.length=rs.length):mn A rs.reverse cs.reverse=mn A rs cs:=by
 unfold mn
 rw[List.length_reverse,←zFK _ (sub A rs cs)]
 refine zy fun i j hi hj=>?_
 unfold sub
 rw[gZ _ hi,gZ _ (by omega),hl]
theorem zBI (D:Int) {n:Nat} (A:zI):det n (fun i j=>D*A i j)=D^n*det n A:=by
  have key:∀m:Nat,m≤n→det n (fun i j=>if i<m then D*A i j else A i j)=D^m*det n A:=by
    intro m
    induction m with
    | zero=>
      intro _
      rw[Int.pow_zero,Int.one_mul]
      exact zy fun i j _ _=>if_neg (by omega)
    | succ m ih=>
      intro hm
      have e:det n (fun i j=>if i<m+1 then D*A i j else A i j)=det n (zw (fun i j=>if i<m then D*A i j else A i j) m fun j=>D*A m j):=zy fun i j _ _=>by
        unfold zw
        by_cases h:i=m
        · rw[if_pos h,if_pos (by omega),h]
        · rw[if_neg h]
          show _=if i<m then D*A i j else A i j
          by_cases h2:i<m
          · rw[if_pos h2,if_pos (by omega)]
          · rw[if_neg h2,if_neg (by omega)]
      have e2:zw (fun i j=>if i<m then D*A i j else A i j) m (fun j=>A m j)=fun i j=>if i<m then D*A i j else A i j:=by
        funext i j
        unfold zw
        by_cases h:i=m
        · rw[if_pos h,if_neg (by omega),h]
        · rw[if_neg h]
      rw[e,(xK n).smul _ (by omega),e2,ih (by omega),Int.pow_succ,Int.mul_comm (D^m) D,Int.mul_assoc]
  rw[←key n (Nat.le_refl _)]
  exact zy fun i j hi _=>(if_pos hi).symm
theorem la {t:Nat} {A:zI} {D:Int} (hD:D≠0) {e:Nat→Nat→Int} {V:zI} (h:∀i j,i<t+1→j<t+1→D*A i j=sm t fun r=>e i r*V r j):det (t+1) A=0:=by
 have h1:det (t+1) (fun i j=>D*A i j)=0:=by
  have e1:det (t+1) (fun i j=>D*A i j)=det (t+1) (iP (t+1) (fun i r=>if r<t then e i r else 0) V):=zy fun i j hi hj=>by
   rw[h i j hi hj]
   show _=sm t (fun k=>(if k<t then e i k else 0)*V k j)+(if t<t then e i t else 0)*V t j
   rw[if_neg (c:=t<t) (by omega),Int.zero_mul,Int.add_zero]
   exact zS fun r hr=>by rw[if_pos hr]
  rw[e1,lZ,←aX,(xK (t+1)).zero (r:=t) (by omega) fun j _=>?_,Int.zero_mul]
  show (if t<t then _ else (0:Int))=0
  rw[if_neg (by omega)]
 rw[zBI] at h1
 rcases Int.mul_eq_zero.1 h1 with h2|h2
 ·exact absurd h2 (Int.pow_ne_zero hD)
 ·exact h2
theorem zDY (A:zI) {cs l1 l2:List Nat} (h:l1.Perm l2):∀pre:List Nat,mn A (pre++l1) cs≠0→mn A (pre++l2) cs≠0:=by
  induction h with
  | nil=>exact fun pre h=>h
  | cons x h ih=>
    intro pre k
    have:=ih (pre++[x]) (by rw[List.append_assoc];exact k)
    rw[List.append_assoc] at this;exact this
  | swap x y l=>
    intro pre k h0
    refine k ?_
    have hlen:(pre++y::x::l).length=(pre++x::y::l).length:=by simp
    have hp:pre.length+1<(pre++x::y::l).length:=by simp only[List.length_append,List.length_cons];omega
    have hR:=xK (pre++x::y::l).length
    have ea:∀(a b:Nat),(pre++a::b::l).getD pre.length 0=a:=fun a b=>by
      rw[List.getD,List.getElem?_append_right (Nat.le_refl _),Nat.sub_self];rfl
    have eb:∀(a b:Nat),(pre++a::b::l).getD (pre.length+1) 0=b:=fun a b=>by
      rw[List.getD,List.getElem?_append_right (by omega),show pre.length+1-pre.length=1 by omega];rfl
    have ec:∀(i:Nat),i≠pre.length→i≠pre.length+1→(pre++y::x::l).getD i 0=(pre++x::y::l).getD i 0:=fun i h1 h2=>by
      rw[List.getD,List.getD]
      rcases Nat.lt_or_ge i pre.length with h3|h3
      · rw[List.getElem?_append_left h3,List.getElem?_append_left h3]
      · obtain⟨d,rfl⟩:∃d,i=pre.length+(d+2):=⟨i-pre.length-2,by omega⟩
        rw[List.getElem?_append_right (by omega),List.getElem?_append_right (by omega),Nat.add_sub_cancel_left];rfl
    have e1:sub A (pre++x::y::l) cs=zw (zw (sub A (pre++x::y::l) cs) pre.length (sub A (pre++x::y::l) cs pre.length)) (pre.length+1) (sub A (pre++x::y::l) cs (pre.length+1)):=by rw[set_self,set_self]
    have e2:sub A (pre++y::x::l) cs=zw (zw (sub A (pre++x::y::l) cs) pre.length (sub A (pre++x::y::l) cs (pre.length+1))) (pre.length+1) (sub A (pre++x::y::l) cs pre.length):=by
      funext i j
      unfold zw
      by_cases h2:i=pre.length+1
      · rw[if_pos h2,h2];unfold sub;rw[eb,ea]
      · rw[if_neg h2]
        by_cases h1:i=pre.length
        · rw[if_pos h1,h1];unfold sub;rw[ea,eb]
        · rw[if_neg h1];unfold sub;rw[ec i h1 h2]
    unfold mn at h0⊢
    rw[hlen,e2,hR.swap _ (by omega) hp (by omega),←e1,h0];rfl
  | trans _ _ ih1 ih2=>exact fun pre k=>ih2 pre (ih1 pre k)
end Go.Dt
namespace Go.Hp
open Go.Dt
/-! ### a row's first number that isn't 0 -/
def fc : Nat→(Nat→Int)→Nat
 | 0,_=>0
 | n+1,f=>if fc n f<n then fc n f else if f n=0 then n+1 else n
theorem fM (f:Nat→Int):∀C:Nat,fc C f≤C∧(∀k,k<fc C f→f k=0)∧(fc C f<C→f (fc C f)≠0)
  | 0=>⟨Nat.le_refl _,fun k hk=>absurd hk (Nat.not_lt_zero _),fun h=>absurd h (Nat.not_lt_zero _)⟩
  | n+1=>by
    obtain⟨h1,h2,h3⟩:=fM f n
    have e:fc (n+1) f=if fc n f<n then fc n f else if f n=0 then n+1 else n:=rfl
    by_cases h:fc n f<n
    · rw[e,if_pos h];exact⟨by omega,h2,fun _=>h3 h⟩
    · have hn:fc n f=n:=by omega
      rw[hn] at h2
      by_cases h0:f n=0
      · rw[e,if_neg h,if_pos h0]
        refine⟨Nat.le_refl _,fun k hk=>?_,fun h=>by omega⟩
        rcases Nat.lt_or_ge k n with h4|h4
        · exact h2 k h4
        · rw[show k=n by omega];exact h0
      · rw[e,if_neg h,if_neg h0]
        exact⟨by omega,h2,fun _=>h0⟩
theorem zBA (f:Nat→Int) (C:Nat):fc C f≤C:=(fM f C).1
theorem jB {f:Nat→Int} {C k:Nat} (h:k<fc C f):f k=0:=(fM f C).2.1 k h
theorem sB {f:Nat→Int} {C:Nat} (h:fc C f<C):f (fc C f)≠0:=(fM f C).2.2 h
theorem nV {f:Nat→Int} {C c:Nat} (hc:c<C) (h0:∀k,k<c→f k=0) (h:f c≠0):fc C f=c:=by
 rcases Nat.lt_trichotomy (fc C f) c with h1|h1|h1
 ·exact absurd (h0 _ h1) (sB (by omega))
 ·exact h1
 ·exact absurd (jB h1) h
theorem pH {f:Nat→Int} {C:Nat} (h:∀k,k<C→f k=0):fc C f=C:=by
 rcases Nat.lt_or_ge (fc C f) C with h1|h1
 ·exact absurd (h _ h1) (sB h1)
 ·have:=zBA f C;omega
theorem gg {f g:Nat→Int} {C:Nat} (h:∀k,k<C→f k=g k):fc C f=fc C g:=by
 rcases Nat.lt_or_ge (fc C g) C with h1|h1
 ·refine nV h1 (fun k hk=>by rw[h k (by omega)];exact jB hk) ?_
  rw[h _ h1];exact sB h1
 ·have hg:=zBA g C
  have e:fc C g=C:=by omega
  rw[e]
  exact pH fun k hk=>by rw[h k hk];exact jB (C:=C) (by omega)
/-! ### what rows span -/
def SpZ (R W:Nat) (A:zI) (v:Nat→Int):Prop:=∃c:Nat→Int,∀k,k<W→v k=sm R fun i=>c i*A i k
theorem wq {R i:Nat} (f:Nat→Int) (hi:i<R):(sm R fun j=>(if j=i then 1 else 0)*f j)=f i:=by
 rw[aK (c:=i) hi (fun j _ hj=>by simp[hj])];simp
theorem SpZ.row {R W:Nat} (A:zI) {i:Nat} (hi:i<R):SpZ R W A (A i):=⟨fun j=>if j=i then 1 else 0,fun k _=>(wq (fun j=>A j k) hi).symm⟩
theorem SpZ.congr {R W:Nat} {A:zI} {u v:Nat→Int} (h:SpZ R W A u) (e:∀k,k<W→v k=u k):SpZ R W A v:=by
 obtain⟨c,hc⟩:=h
 exact⟨c,fun k hk=>(e k hk).trans (hc k hk)⟩
theorem SpZ.comb {R W:Nat} {A:zI} {u v:Nat→Int} (x y:Int) (h:SpZ R W A u) (k:SpZ R W A v):SpZ R W A fun j=>x*u j+y*v j:=by
 obtain⟨c,hc⟩:=h
 obtain⟨d,hd⟩:=k
 refine⟨fun i=>x*c i+y*d i,fun j hj=>?_⟩
 show x*u j+y*v j=_
 rw[hc j hj,hd j hj,←wV]
 exact zS fun i _=>by grind
theorem SpZ.zero {R W:Nat} (A:zI):SpZ R W A fun _=>0:=⟨fun _=>0,fun k _=>by rw[xu fun i _=>Int.zero_mul _]⟩
theorem SpZ.sum {R W:Nat} {A:zI} (c:Nat→Int) (u:Nat→Nat→Int):∀m:Nat,(∀i,i<m→SpZ R W A (u i))→SpZ R W A fun k=>sm m fun i=>c i*u i k
 | 0,_=>SpZ.zero A
 | m+1,h=>((SpZ.sum c u m fun i hi=>h i (by omega)).comb 1 (c m) (h m (by omega))).congr fun k _=>by show sm m _+_=_;rw[Int.one_mul]
theorem SpZ.trans {R R' W:Nat} {A B:zI} {v:Nat→Int} (h:SpZ R W A v) (hA:∀i,i<R→SpZ R' W B (A i)):SpZ R' W B v:=by
 obtain⟨c,hc⟩:=h
 exact (SpZ.sum c A R hA).congr hc
theorem SpZ.mono {R W W':Nat} {A:zI} {v:Nat→Int} (h:SpZ R W A v) (hW:W'≤W):SpZ R W' A v:=by
 obtain⟨c,hc⟩:=h
 exact⟨c,fun k hk=>hc k (by omega)⟩
def Eqv (R R' W:Nat) (A B:zI):Prop:=(∀i,i<R→SpZ R' W B (A i))∧∀i,i<R'→SpZ R W A (B i)
theorem Eqv.refl (R W:Nat) (A:zI):Eqv R R W A A:=⟨fun _ h=>SpZ.row A h,fun _ h=>SpZ.row A h⟩
theorem Eqv.symm {R R' W:Nat} {A B:zI} (h:Eqv R R' W A B):Eqv R' R W B A:=⟨h.2,h.1⟩
theorem Eqv.trans {R R' R'' W:Nat} {A B D:zI} (h:Eqv R R' W A B) (k:Eqv R' R'' W B D):Eqv R R'' W A D:=⟨fun i hi=>(h.1 i hi).trans k.1,fun i hi=>(k.2 i hi).trans h.2⟩
theorem Eqv.mono {R R' W W':Nat} {A B:zI} (h:Eqv R R' W A B) (hW:W'≤W):Eqv R R' W' A B:=⟨fun i hi=>(h.1 i hi).mono hW,fun i hi=>(h.2 i hi).mono hW⟩
theorem Eqv.of_eq {R W:Nat} {A B:zI} (h:∀i k,i<R→k<W→A i k=B i k):Eqv R R W A B:=
 ⟨fun i hi=>(SpZ.row B hi).congr fun k hk=>h i k hi hk,fun i hi=>(SpZ.row A hi).congr fun k hk=>(h i k hi hk).symm⟩
/-! ### Hermite's form -/
def HermF (R C:Nat) (A:zI):Prop:=∀i,i<R→fc C (A i)<C→(0<i→fc C (A (i-1))<fc C (A i))∧0<A i (fc C (A i))∧∀r,r<i→0≤A r (fc C (A i))∧A r (fc C (A i))<A i (fc C (A i))
theorem HermF.congr {R C:Nat} {A B:zI} (h:HermF R C A) (e:∀i k,i<R→k<C→B i k=A i k):HermF R C B:=fun i hi hc=>by
 have e1:∀j,j<R→fc C (B j)=fc C (A j):=fun j hj=>gg fun k hk=>e j k hj hk
 rw[e1 i hi] at hc
 obtain⟨h1,h2,h3⟩:=h i hi hc
 rw[e1 i hi]
 refine⟨fun h0=>by rw[e1 (i-1) (by omega)];exact h1 h0,by rw[e i _ hi hc];exact h2,fun r hr=>?_⟩
 rw[e r _ (by omega) hc,e i _ hi hc];exact h3 r hr
theorem HermF.up {R C:Nat} {A:zI} (h:HermF R C A) {i:Nat}:∀{j:Nat},i<j→j<R→fc C (A j)<C→fc C (A i)<fc C (A j)
  | j+1,hij,hj,hc=>by
    have h1:=(h (j+1) hj hc).1 (by omega)
    rw[Nat.add_sub_cancel] at h1
    rcases Nat.lt_or_ge i j with h2|h2
    · have:=HermF.up h h2 (by omega) (by omega:fc C (A j)<C)
      omega
    · rw[show i=j by omega];exact h1
theorem HermF.later {R C:Nat} {A:zI} (h:HermF R C A) {i j k:Nat} (hij:i<j) (hj:j<R) (hi:fc C (A i)<C) (hk:k≤fc C (A i)):A j k=0:=by
 have:=zBA (A j) C
 rcases Nat.lt_or_ge (fc C (A j)) C with h1|h1
 ·have:=h.up hij hj h1
  exact jB (C:=C) (by omega)
 ·exact jB (C:=C) (by omega)
theorem dN {p:Nat→Prop}:∀n,(∃i,i<n∧p i)→∃i,i<n∧p i∧∀j,j<i→¬p j
  | 0,⟨i,hi,_⟩=>absurd hi (Nat.not_lt_zero _)
  | n+1,h=>by
    by_cases h1:∃i,i<n∧p i
    · obtain⟨i,h2,h3,h4⟩:=dN n h1
      exact⟨i,by omega,h3,h4⟩
    · obtain⟨i,hi,hp⟩:=h
      have:i=n:=by
        rcases Nat.lt_or_ge i n with h2|h2
        · exact absurd ⟨i,h2,hp⟩ h1
        · omega
      subst this
      exact⟨i,by omega,hp,fun j hj hpj=>h1 ⟨j,hj,hpj⟩⟩
theorem HermF.key {R C:Nat} {A:zI} (h:HermF R C A) {v:Nat→Int} (hv:SpZ R C A v) {c:Nat} (hc:c<C) (h0:∀k,k<c→v k=0) (hn:v c≠0):∃i,i<R∧fc C (A i)=c∧A i c∣v c:=by
 obtain⟨a,ha⟩:=hv
 have hex:∃i,i<R∧(a i≠0∧fc C (A i)<C):=by
  refine Classical.byContradiction fun hno=>hn ?_
  rw[ha c hc]
  refine xu fun i hi=>?_
  by_cases h1:a i=0
  ·rw[h1,Int.zero_mul]
  ·have h2:¬fc C (A i)<C:=fun h2=>hno ⟨i,hi,h1,h2⟩
   rw[jB (f:=A i) (C:=C) (k:=c) (by omega),Int.mul_zero]
 obtain⟨i,hi,⟨ha0,hfi⟩,hmin⟩:=dN R hex
 have hval:∀k,k≤fc C (A i)→v k=a i*A i k:=fun k hk=>by
  rw[ha k (by omega)]
  refine aK hi fun j hj hne=>?_
  rcases Nat.lt_or_ge j i with h1|h1
  ·have h2:=hmin j h1
   by_cases h3:a j=0
   ·rw[h3,Int.zero_mul]
   ·have h4:¬fc C (A j)<C:=fun h4=>h2 ⟨h3,h4⟩
    rw[jB (f:=A j) (C:=C) (k:=k) (by omega),Int.mul_zero]
  ·rw[h.later (show i<j by omega) hj hfi hk,Int.mul_zero]
 have hp:=hval _ (Nat.le_refl _)
 have hpne:v (fc C (A i))≠0:=by
  rw[hp];exact Int.mul_ne_zero ha0 (sB hfi)
 have hfc:fc C (A i)=c:=by
  rcases Nat.lt_trichotomy (fc C (A i)) c with h1|h1|h1
  ·exact absurd (h0 _ h1) hpne
  ·exact h1
  ·exact absurd (by rw[hval c (by omega),jB h1,Int.mul_zero]) hn
 subst hfc
 exact⟨i,hi,rfl,⟨a i,by rw[hp,Int.mul_comm]⟩⟩
theorem HermF.inj {R C:Nat} {A:zI} (h:HermF R C A) {i j:Nat} (hi:i<R) (hj:j<R) (hc:fc C (A i)<C) (e:fc C (A i)=fc C (A j)):i=j:=by
 rcases Nat.lt_trichotomy i j with h1|h1|h1
 ·have:=h.up h1 hj (by omega);omega
 ·exact h1
 ·have:=h.up h1 hi hc;omega
end Go.Hp
namespace Go.Dt
open RowF
def ip (n:Nat) (u v:Nat→Int):Int:=sm n fun k=>u k*v k
theorem zf (n:Nat) (u v:Nat→Int):ip n u v=ip n v u:=zS fun _ _=>Int.mul_comm _ _
theorem qY {n:Nat} {u u' v:Nat→Int} (h:∀k,k<n→u k=u' k):ip n u v=ip n u' v:=zS fun k hk=>by rw[h k hk]
theorem dJ (n m:Nat) (D:Int) (u v:Nat→Int) (e:Nat→Int) (U:Nat→Nat→Int):ip n (fun k=>D*u k+sm m fun r=>e r*U r k) v=D*ip n u v+sm m fun r=>e r*ip n (U r) v:=by
 unfold ip
 have h1:(sm n fun k=>(D*u k+sm m fun r=>e r*U r k)*v k)=sm n fun k=>D*(u k*v k)+sm m fun r=>e r*(U r k*v k):=zS fun k _=>by
  rw[Int.add_mul,Int.mul_assoc]
  refine congrArg _ ?_
  rw[Int.mul_comm,←xf]
  exact zS fun r _=>by rw[Int.mul_comm (v k),Int.mul_assoc]
 rw[h1,kt,xf,cm]
 refine congrArg _ (zS fun r _=>?_)
 rw[xf]
theorem bU {f:Nat→Int}:∀{n:Nat},(∀i,i<n→0≤f i)→0≤sm n f
 | 0,_=>Int.le_refl _
 | n+1,h=>Int.add_nonneg (bU fun i hi=>h i (by omega)) (h n (by omega))
theorem xE (x:Int):0≤x*x:=by
 rcases Int.le_total 0 x with h|h
 ·exact Int.mul_nonneg h h
 ·exact Int.mul_nonneg_of_nonpos_of_nonpos h h
theorem xF (n:Nat) (u:Nat→Int):0≤ip n u u:=bU fun _ _=>xE _
theorem fG {u:Nat→Int}:∀{n:Nat},ip n u u=0→∀k,k<n→u k=0
  | n+1,h,k,hk=>by
    have h1:ip n u u+u n*u n=0:=h
    have h2:=xF n u
    have h3:=xE (u n)
    rcases Nat.lt_succ_iff_lt_or_eq.1 hk with h4|h4
    · exact fG (n:=n) (by omega) k h4
    · rw[h4]
      have h5:u n*u n=0:=by omega
      rcases Int.mul_eq_zero.1 h5 with h6|h6 <;> exact h6
def qj (n:Nat) (A:zI):zI:=fun i j=>ip n (A i) (A j)
def rl : Nat→List Nat
 | 0=>[]
 | t+1=>t::rl t
theorem jM : ∀t,(rl t).length=t
 | 0=>rfl
 | t+1=>by show (rl t).length+1=t+1;rw[jM t]
theorem oQ {t j:Nat}:j∈rl t↔j<t:=by
  induction t with
  | zero=>simp[rl]
  | succ t ih=>
    show j∈t::rl t↔_
    rw[List.mem_cons,ih];omega
theorem il {t i:Nat} (h:i<t):(rl t).getD i 0=t-1-i:=by
  induction t generalizing i with
  | zero=>omega
  | succ t ih=>
    cases i with
    | zero=>rfl
    | succ i=>show (rl t).getD i 0=_;rw[ih (by omega)];omega
def gd (n:Nat) (A:zI) (t:Nat):Int:=mn (qj n A) (rl t) (rl t)
def gw (n:Nat) (A:zI) (t:Nat):Nat→Int:=fun k=>gd n A t*A t k+sm t fun r=>ec (qj n A) (rl t) (rl t) t r*A ((rl t).getD r 0) k
theorem gX (n:Nat) (A:zI) (t j:Nat):ip n (gw n A t) (A j)=mn (qj n A) (t::rl t) (j::rl t):=by
 rw[dq,jM]
 exact dJ n t (gd n A t) (A t) (A j) (fun r=>ec (qj n A) (rl t) (rl t) t r) (fun r=>A ((rl t).getD r 0))
theorem dz (n:Nat) (A:zI) {t j:Nat} (h:j<t):ip n (gw n A t) (A j)=0:=by
 rw[gX];exact oo _ rfl _ (oQ.2 h)
theorem fJ (n:Nat) (A:zI) (t:Nat):ip n (gw n A t) (A t)=gd n A (t+1):=gX n A t t
theorem zGK (n:Nat) (A:zI) (t:Nat):ip n (gw n A t) (gw n A t)=gd n A t*gd n A (t+1):=by
 have h:=dJ n t (gd n A t) (A t) (gw n A t) (fun r=>ec (qj n A) (rl t) (rl t) t r) (fun r=>A ((rl t).getD r 0))
 have h2:ip n (gw n A t) (gw n A t)=ip n (fun k=>gd n A t*A t k+sm t fun r=>ec (qj n A) (rl t) (rl t) t r*A ((rl t).getD r 0) k) (gw n A t):=rfl
 rw[h2,h,zf n (A t),fJ,xu fun r hr=>?_]
 ·omega
 ·rw[zf n (A _),dz n A (oQ.1 (vV (by rw[jM];exact hr))),Int.mul_zero]
def gp (n:Nat) (A:zI) (t:Nat):Nat→Int:=fun k=>0*A t k+sm t fun r=>ec (qj n A) (rl t) (rl t) t r*A ((rl t).getD r 0) k
theorem zEX (n:Nat) (A:zI) (t:Nat):ip n (gp n A t) (gw n A t)=0:=by
 have h:=dJ n t 0 (A t) (gw n A t) (fun r=>ec (qj n A) (rl t) (rl t) t r) (fun r=>A ((rl t).getD r 0))
 have h2:ip n (gp n A t) (gw n A t)=ip n (fun k=>0*A t k+sm t fun r=>ec (qj n A) (rl t) (rl t) t r*A ((rl t).getD r 0) k) (gw n A t):=rfl
 rw[h2,h,Int.zero_mul,xu fun r hr=>?_]
 ·rfl
 ·rw[zf n (A _),dz n A (oQ.1 (vV (by rw[jM];exact hr))),Int.mul_zero]
theorem ip_sub (n:Nat) (u v:Nat→Int):ip n (fun k=>u k-v k) (fun k=>u k-v k)=ip n u u-2*ip n v u+ip n v v:=by
  unfold ip
  induction n with
  | zero=>rfl
  | succ n ih=>
    show sm n _+_=(sm n _+u n*u n)-2*(sm n _+v n*u n)+(sm n _+v n*v n)
    rw[ih]
    simp only[Int.mul_sub,Int.sub_mul]
    have:=Int.mul_comm (u n) (v n)
    omega
theorem nP (n:Nat) (A:zI) (t:Nat):gd n A t*gd n A (t+1)≤gd n A t*gd n A t*qj n A t t:=by
 have h1:∀k,gd n A t*A t k=gw n A t k-gp n A t k:=fun k=>by unfold gw gp;omega
 have h2:gd n A t*gd n A t*qj n A t t=ip n (fun k=>gw n A t k-gp n A t k) (fun k=>gw n A t k-gp n A t k):=by
  unfold qj ip
  rw[←xf]
  refine zS fun k _=>?_
  show _=(gw n A t k-gp n A t k)*(gw n A t k-gp n A t k)
  rw[←h1,Int.mul_assoc,Int.mul_assoc,Int.mul_left_comm (A t k)]
 rw[h2,ip_sub,zEX,zGK]
 have:=xF n (gp n A t)
 omega
def pd : Nat→(Nat→Int)→Int
 | 0,_=>1
 | t+1,f=>pd t f*f t
end Go.Dt
namespace Go.Ll
open Go.Dt Go.Hp
theorem qp (n:Nat) (x y:Int) (u v z:Nat→Int):ip n (fun k=>x*u k+y*v k) z=x*ip n u z+y*ip n v z:=by
 unfold ip
 rw[←wV]
 exact zS fun k _=>by grind
theorem bj {n t:Nat} {A:zI} {v z:Nat→Int} (h:SpZ t n A v) (hz:∀r,r<t→ip n (A r) z=0):ip n v z=0:=by
 obtain⟨c,hc⟩:=h
 rw[qY (u':=fun k=>0*(0:Int)+sm t fun r=>c r*A r k) fun k hk=>by rw[hc k hk];omega]
 rw[dJ n t 0 (fun _=>0) z c A,Int.zero_mul,Int.zero_add]
 exact xu fun r hr=>by rw[hz r hr,Int.mul_zero]
theorem jg {n t:Nat} {A:zI} {v:Nat→Int} (h:SpZ t n A v) (hz:∀r,r<t→ip n v (A r)=0):∀k,k<n→v k=0:=
 fG (bj h fun r hr=>by rw[zf];exact hz r hr)
structure OD (n m:Nat) (A:zI) (d:Nat→Int) (w:zI):Prop where
 d0:d 0=1
 pos:∀t,t≤m→0<d t
 sp:∀t,t<m→SpZ t n A fun k=>1*w t k+(-(d t))*A t k
 ort:∀t j,t<m→j<t→ip n (w t) (A j)=0
 nx:∀t,t<m→ip n (w t) (A t)=d (t+1)
variable {n m : Nat} {A : zI} {d : Nat → Int} {w : zI}
theorem fH (n:Nat) (u v z:Nat→Int):ip n (fun k=>u k-v k) z=ip n u z-ip n v z:=by
 have:=qp n 1 (-1) u v z
 rw[qY (u':=fun k=>u k-v k) fun k _=>by omega] at this
 omega
theorem aD (n:Nat) (c:Int) (u v z:Nat→Int):ip n (fun k=>u k-c*v k) z=ip n u z-c*ip n v z:=by
 have:=qp n 1 (-c) u v z
 rw[qY (u':=fun k=>u k-c*v k) fun k _=>by grind] at this
 rw[this];grind
theorem OD.uniq {d':Nat→Int} {w':zI} (h:OD n m A d w) (h':OD n m A d' w'):∀t,t≤m→d t=d' t∧∀s,s<t→∀k,k<n→w s k=w' s k
  | 0,_=>⟨h.d0.trans h'.d0.symm,fun s hs=>absurd hs (Nat.not_lt_zero _)⟩
  | t+1,ht=>by
    obtain⟨e,ew⟩:=OD.uniq h h' t (by omega)
    have hw:∀k,k<n→w t k=w' t k:=fun k hk=>by
      have h1:=(h.sp t (by omega)).comb 1 (-1) (h'.sp t (by omega))
      have h2:SpZ t n A fun k=>w t k-w' t k:=h1.congr fun k _=>by rw[e];grind
      have h3:=jg h2 (fun r hr=>by rw[fH,h.ort t r (by omega) hr,h'.ort t r (by omega) hr];rfl) k hk
      omega
    refine⟨?_,fun s hs k hk=>?_⟩
    · rw[←h.nx t (by omega),←h'.nx t (by omega)];exact qY hw
    · rcases Nat.lt_or_ge s t with g|g
      · exact ew s g k hk
      · obtain rfl:s=t:=by omega
        exact hw k hk
theorem OD.made (n m:Nat) (A:zI) (h:∀t,t≤m→0<gd n A t):OD n m A (gd n A) (gw n A) where
 d0:=by show mn _ (rl 0) (rl 0)=1;rfl
 pos:=h
 sp:=fun t _=>by
  refine SpZ.congr (u:=fun k=>sm t fun r=>ec (qj n A) (rl t) (rl t) t r*A ((rl t).getD r 0) k) (SpZ.sum _ (fun r=>A ((rl t).getD r 0)) t fun r hr=>?_) fun k _=>?_
  ·refine SpZ.row A ?_
   rw[il hr];omega
  ·unfold gw;grind
 ort:=fun t j _ hj=>dz n A hj
 nx:=fun t _=>fJ n A t
abbrev lo (n:Nat) (A w:zI) (i j:Nat):Int:=ip n (w j) (A i)
def lsM (A:zI) (i k:Nat) (c:Int):zI:=fun r=>if r=i then fun j=>A i j-c*A k j else A r
theorem mp {i k t:Nat} {c:Int} (hk:k<i) (ht:i<t):∀r,r<t→SpZ t n (lsM A i k c) (A r):=fun r hr=>by
 by_cases e:r=i
 ·subst e
  refine ((SpZ.row (R:=t) (W:=n) (lsM A r k c) hr).comb 1 c (SpZ.row (lsM A r k c) (show k<t by omega))).congr fun j _=>?_
  unfold lsM
  rw[if_pos rfl,if_neg (show ¬k=r by omega)]
  omega
 ·exact (SpZ.row (lsM A i k c) hr).congr fun j _=>by unfold lsM;rw[if_neg e]
theorem rZ {i k t:Nat} {c:Int} (ht:t≤i):∀r,r<t→SpZ t n (lsM A i k c) (A r):=fun r hr=>
 (SpZ.row (lsM A i k c) hr).congr fun j _=>by unfold lsM;rw[if_neg (show ¬r=i by omega)]
theorem OD.less (h:OD n m A d w) {i k:Nat} (hk:k<i) (c:Int):OD n m (lsM A i k c) d w where
 d0:=h.d0
 pos:=h.pos
 sp:=fun t ht=>by
  by_cases e:t=i
  ·subst e
   have h1:=(h.sp t ht).trans (rZ (A:=A) (k:=k) (c:=c) (Nat.le_refl _))
   refine (h1.comb 1 (d t*c) (SpZ.row (lsM A t k c) hk)).congr fun j _=>?_
   unfold lsM
   rw[if_pos rfl,if_neg (show ¬k=t by omega)]
   grind
  ·have h1:SpZ t n (lsM A i k c) fun k=>1*w t k+(-(d t))*A t k:=(h.sp t ht).trans (by
    rcases Nat.lt_or_ge i t with g|g
    ·exact mp hk g
    ·exact rZ g)
   exact h1.congr fun j _=>by unfold lsM;rw[if_neg e]
 ort:=fun t j ht hj=>by
  unfold lsM
  by_cases e:j=i
  ·subst e
   rw[if_pos rfl,zf,aD n c]
   rw[zf n (A j),zf n (A k),h.ort t j ht hj,h.ort t k ht (by omega)];omega
  ·rw[if_neg e];exact h.ort t j ht hj
 nx:=fun t ht=>by
  unfold lsM
  by_cases e:t=i
  ·subst e
   rw[if_pos rfl,zf,aD n c,zf n (A t),zf n (A k),h.nx t ht,h.ort t k ht hk];omega
  ·rw[if_neg e];exact h.nx t ht
theorem rb {i k j:Nat} (c:Int):lo n (lsM A i k c) w i j=lo n A w i j-c*lo n A w k j:=by
 unfold lo lsM
 rw[if_pos rfl,zf,aD n c,zf n (A i),zf n (A k)]
theorem oq {i k j r:Nat} (c:Int) (h:r≠i):lo n (lsM A i k c) w r j=lo n A w r j:=by
 unfold lo lsM;rw[if_neg h]
/-! ### a row and the one ahead in each other's places -/
theorem dM (n:Nat) (A:zI) (t:Nat):SpZ t n A fun k=>1*gw n A t k+(-(gd n A t))*A t k:=by
 refine SpZ.congr (u:=fun k=>sm t fun r=>ec (qj n A) (rl t) (rl t) t r*A ((rl t).getD r 0) k) (SpZ.sum _ (fun r=>A ((rl t).getD r 0)) t fun r hr=>?_) fun k _=>?_
 ·refine SpZ.row A ?_
  rw[il hr];omega
 ·unfold gw;grind
theorem zAQ {B:zI} {t:Nat} (h:∀r,r<t→A r=B r):gd n A t=gd n B t:=by
 unfold gd mn
 refine zy fun i j hi hj=>?_
 rw[jM] at hi hj
 unfold sub qj
 rw[il hi,il hj,h _ (by omega),h _ (by omega)]
theorem SpZ.last {t:Nat} {v:Nat→Int} (h:SpZ (t+1) n A v):∃c:Int,SpZ t n A fun k=>1*v k+(-c)*A t k:=by
 obtain⟨c,hc⟩:=h
 refine⟨c t,c,fun k hk=>?_⟩
 show 1*v k+(-(c t))*A t k=_
 rw[hc k hk]
 show 1*(sm t (fun i=>c i*A i k)+c t*A t k)+(-(c t))*A t k=_
 grind
theorem SpZ.more {t t':Nat} {v:Nat→Int} (h:SpZ t n A v) (ht:t≤t'):SpZ t' n A v:=h.trans fun i hi=>SpZ.row A (by omega)
def swM (A:zI) (s:Nat):zI:=fun r=>if r=s+1 then A s else if r=s then A (s+1) else A r
theorem ab (A:zI) (s:Nat):swM A s s=A (s+1):=by unfold swM;rw[if_neg (by omega),if_pos rfl]
theorem aa (A:zI) (s:Nat):swM A s (s+1)=A s:=by unfold swM;rw[if_pos rfl]
theorem vA (A:zI) {s r:Nat} (h:r≠s) (h':r≠s+1):swM A s r=A r:=by unfold swM;rw[if_neg h',if_neg h]
theorem OD.low (h:OD n m A d w) {t j:Nat} (ht:t<m) (hj:j<t):ip n (w t) (w j)=0:=by
 have h1:=h.sp j (by omega)
 have h2:SpZ t n A (w j):=((SpZ.more h1 (show j≤t by omega)).comb 1 (d j) (SpZ.row A hj)).congr fun k _=>by grind
 rw[zf]
 exact bj h2 fun r hr=>by rw[zf];exact h.ort t r ht hr
theorem OD.head (h:OD n m A d w) {s:Nat} (hs:s+1<m):SpZ s n A fun k=>1*w (s+1) k+(-1)*(d (s+1)*A (s+1) k-lo n A w (s+1) s*A s k):=by
 obtain⟨c,hc⟩:=SpZ.last (h.sp (s+1) hs)
 have h0:=h.low hs (Nat.lt_succ_self s)
 have e:=bj (z:=w s) hc fun r hr=>by rw[zf];exact h.ort s r (by omega) hr
 have e1:=qp n 1 (-c) (fun k=>1*w (s+1) k+(-(d (s+1)))*A (s+1) k) (A s) (w s)
 rw[e,qp n 1 (-(d (s+1))) (w (s+1)) (A (s+1)) (w s),h0,zf n (A s),h.nx s (by omega),zf n (A (s+1))] at e1
 have hp:=h.pos (s+1) (by omega)
 have hl:c = -(lo n A w (s+1) s):=by
  have:d (s+1)*(c+lo n A w (s+1) s)=0:=by
   show d (s+1)*(c+ip n (w s) (A (s+1)))=0
   grind
  rcases Int.mul_eq_zero.1 this with g|g <;> omega
 refine hc.congr fun k _=>?_
 rw[hl];grind
theorem fY {t s:Nat} (ht:s+1<t∨t≤s):∀r,r<t→SpZ t n (swM A s) (A r):=fun r hr=>by
 by_cases e1:r=s
 ·subst e1
  exact (SpZ.row (swM A r) (show r+1<t by omega)).congr fun k _=>by rw[aa]
 ·by_cases e2:r=s+1
  ·subst e2
   exact (SpZ.row (swM A s) (show s<t by omega)).congr fun k _=>by rw[ab]
  ·exact (SpZ.row (swM A s) hr).congr fun k _=>by rw[vA A e1 e2]
theorem OD.swap (h:OD n m A d w) (hm:∀t,t≤m→gd n A t=d t) {s:Nat} (hs:s+1<m):∃(e:Int) (W W2:Nat→Int),d (s+1)*e=d s*d (s+2)+lo n A w (s+1) s*lo n A w (s+1) s∧
  (∀j,j<n→d (s+1)*W j=d s*w (s+1) j+lo n A w (s+1) s*w s j)∧(∀j,j<n→d (s+1)*W2 j=d (s+2)*w s j+(-(lo n A w (s+1) s))*w (s+1) j)∧
  OD n m (swM A s) (fun t=>if t=s+1 then e else d t) (fun t=>if t=s then W else if t=s+1 then W2 else w t):=by
 obtain⟨l,hl⟩:∃l,l=lo n A w (s+1) s:=⟨_,rfl⟩
 obtain⟨W,hW⟩:∃W,W=gw n (swM A s) s:=⟨_,rfl⟩
 obtain⟨W2,hW2⟩:∃W2,W2=gw n (swM A s) (s+1):=⟨_,rfl⟩
 have hds:=h.pos s (by omega)
 have hd1:=h.pos (s+1) (by omega)
 have hd2:=h.pos (s+2) (by omega)
 have hg:gd n (swM A s) s=d s:=by rw[←hm s (by omega)];exact zAQ fun r hr=>vA A (by omega) (by omega)
 have hhead:=h.head hs
 rw[←hl] at hhead
 have hlow:∀r,r<s→ip n W (A r)=0:=fun r hr=>by
  have:=dz n (swM A s) hr
  rwa [←hW,vA A (by omega) (by omega)] at this
 -- the first
 have hWs:SpZ s n A fun k=>1*W k+(-(d s))*A (s+1) k:=by
  have:=dM n (swM A s) s
  rw[←hW,hg,ab] at this
  exact this.trans fun r hr=>(SpZ.row A hr).congr fun k _=>by rw[vA A (by omega) (by omega)]
 have hws:=h.sp s (by omega)
 have hX:∀j,j<n→d (s+1)*W j=d s*w (s+1) j+l*w s j:=by
  have x1:=((hWs.comb (d (s+1)) (-(d s)) hhead).comb 1 (-l) hws)
  have x2:SpZ s n A fun k=>d (s+1)*W k-(d s*w (s+1) k+l*w s k):=x1.congr fun k _=>by grind
  have x3:=jg x2 fun r hr=>by
   rw[fH,qp,h.ort (s+1) r (by omega) (by omega),h.ort s r (by omega) hr]
   have:=qp n (d (s+1)) 0 W W (A r)
   rw[hlow r hr] at this
   rw[qY (u':=fun k=>d (s+1)*W k+0*W k) fun k _=>by omega,this];omega
  intro j hj
  have:=x3 j hj
  omega
 obtain⟨e,he⟩:∃e,e=ip n W (A (s+1)):=⟨_,rfl⟩
 have hip:∀z:Nat→Int,d (s+1)*ip n W z=d s*ip n (w (s+1)) z+l*ip n (w s) z:=fun z=>by
  rw[←qp]
  have:=qp n (d (s+1)) 0 W W z
  rw[show d (s+1)*ip n W z=d (s+1)*ip n W z+0*ip n W z by omega,←this]
  exact qY fun k hk=>by rw[←hX k hk];omega
 have hde:d (s+1)*e=d s*d (s+2)+l*l:=by
  rw[he,hip,h.nx (s+1) (by omega)]
  show _+l*lo n A w (s+1) s=_
  rw[←hl]
 have he0:0<e:=by
  have h1:=Int.mul_pos hds hd2
  have h2:=xE l
  rcases Int.lt_or_le 0 e with g|g
  ·exact g
  ·have:=Int.mul_le_mul_of_nonneg_left g (show (0:Int)≤d (s+1) by omega)
   rw[Int.mul_zero] at this;omega
 have hge:gd n (swM A s) (s+1)=e:=by rw[he,←fJ,←hW,ab]
 -- the second
 have hlow2:∀r,r<s+1→ip n W2 (swM A s r)=0:=fun r hr=>by rw[hW2];exact dz n (swM A s) hr
 have hup:∀v:Nat→Int,SpZ s n A v→SpZ (s+1) n (swM A s) v:=fun v hv=>hv.trans fun r hr=>(SpZ.row (swM A s) (show r<s+1 by omega)).congr fun k _=>by rw[vA A (by omega) (by omega)]
 have hnew:SpZ (s+1) n (swM A s) (A (s+1)):=(SpZ.row (swM A s) (show s<s+1 by omega)).congr fun k _=>by rw[ab]
 have hX2:∀j,j<n→d (s+1)*W2 j=d (s+2)*w s j+(-l)*w (s+1) j:=by
  have x0:=dM n (swM A s) (s+1)
  rw[←hW2,hge,aa] at x0
  have x1:=(x0.comb (d (s+1)) (-(d (s+2))) (hup _ hws)).comb 1 l (hup _ hhead)
  have x2:SpZ (s+1) n (swM A s) fun k=>d (s+1)*W2 k-(d (s+2)*w s k+(-l)*w (s+1) k):=(x1.comb 1 (l*d (s+1)) hnew).congr fun k _=>by
   have:e*d (s+1)=d s*d (s+2)+l*l:=by rw[←hde,Int.mul_comm]
   grind
  have x3:=jg x2 fun r hr=>by
   have a1:=qp n (d (s+1)) 0 W2 W2 (swM A s r)
   rw[hlow2 r hr] at a1
   rw[fH,qp,qY (u':=fun k=>d (s+1)*W2 k+0*W2 k) fun k _=>by omega,a1]
   by_cases g:r=s
   ·subst g
    rw[ab,h.nx (r+1) (by omega)]
    have:ip n (w r) (A (r+1))=l:=hl.symm
    rw[this];grind
   ·rw[vA A g (by omega),h.ort (s+1) r (by omega) (by omega),h.ort s r (by omega) (by omega)];omega
  intro j hj
  have:=x3 j hj
  omega
 have hip2:∀z:Nat→Int,d (s+1)*ip n W2 z=d (s+2)*ip n (w s) z+(-l)*ip n (w (s+1)) z:=fun z=>by
  rw[←qp]
  have:=qp n (d (s+1)) 0 W2 W2 z
  rw[show d (s+1)*ip n W2 z=d (s+1)*ip n W2 z+0*ip n W2 z by omega,←this]
  exact qY fun k hk=>by rw[←hX2 k hk];omega
 refine⟨e,W,W2,by rw[←hl];exact hde,by rw[←hl];exact hX,by rw[←hl];exact hX2,?_⟩
 refine { d0:=?_,pos:=fun t ht=>?_,sp:=fun t ht=>?_,ort:=fun t j ht hj=>?_,nx:=fun t ht=>?_ }
 ·show (if 0=s+1 then e else d 0)=1
  rw[if_neg (by omega)];exact h.d0
 ·show 0<if t=s+1 then e else d t
  split
  ·exact he0
  ·exact h.pos t ht
 ·by_cases g1:t=s
  ·subst g1
   simp only[if_true,if_neg (show ¬t=t+1 by omega),ab]
   exact hWs.trans fun r hr=>(SpZ.row (swM A t) hr).congr fun k _=>by rw[vA A (by omega) (by omega)]
  ·by_cases g2:t=s+1
   ·subst g2
    simp only[if_true,if_neg g1,aa]
    have x0:=dM n (swM A s) (s+1)
    rw[←hW2,hge,aa] at x0
    exact x0
   ·simp only[if_neg g1,if_neg g2,vA A g1 g2]
    exact (h.sp t ht).trans (fY (by omega))
 ·by_cases g1:t=s
  ·subst g1
   simp only[if_true,vA A (show j≠t by omega) (show j≠t+1 by omega)]
   exact hlow j hj
  ·by_cases g2:t=s+1
   ·subst g2
    simp only[if_true,if_neg g1]
    exact hlow2 j hj
   ·simp only[if_neg g1,if_neg g2]
    by_cases g3:j=s
    ·subst g3;rw[ab];exact h.ort t _ ht (by omega)
    ·by_cases g4:j=s+1
     ·subst g4;rw[aa];exact h.ort t _ ht (by omega)
     ·rw[vA A g3 g4];exact h.ort t j ht hj
 ·by_cases g1:t=s
  ·subst g1
   simp only[if_true,ab]
   exact he.symm
  ·by_cases g2:t=s+1
   ·subst g2
    simp only[if_true,if_neg g1,aa,if_neg (show ¬s+1+1=s+1 by omega)]
    have:=hip2 (A s)
    rw[h.nx s (by omega),h.ort (s+1) s (by omega) (by omega)] at this
    have h5:d (s+1)*(ip n W2 (A s)-d (s+2))=0:=by grind
    rcases Int.mul_eq_zero.1 h5 with g|g
    ·omega
    ·show ip n W2 (A s)=d (s+2);omega
   ·simp only[if_neg g1,if_neg g2,vA A g1 g2,if_neg (show ¬t+1=s+1 by omega)]
    exact h.nx t ht
end Go.Ll
namespace Go.Ll
open Go.Dt Go.Hp
variable {n m : Nat} {A : zI} {d : Nat → Int} {w : zI}
theorem OD.swap_lo (h:OD n m A d w) (hm:∀t,t≤m→gd n A t=d t) {s:Nat} (hs:s+1<m):∃(e:Int) (w':zI),d (s+1)*e=d s*d (s+2)+lo n A w (s+1) s*lo n A w (s+1) s∧0<e∧
  OD n m (swM A s) (fun t=>if t=s+1 then e else d t) w'∧lo n (swM A s) w' (s+1) s=lo n A w (s+1) s∧
  (∀j,j<s→lo n (swM A s) w' (s+1) j=lo n A w s j∧lo n (swM A s) w' s j=lo n A w (s+1) j)∧
  (∀i j,i≠s→i≠s+1→j≠s→j≠s+1→lo n (swM A s) w' i j=lo n A w i j)∧
  ∀i,i≠s→i≠s+1→d (s+1)*lo n (swM A s) w' i (s+1)=d (s+2)*lo n A w i s-lo n A w (s+1) s*lo n A w i (s+1)∧d (s+2)*lo n (swM A s) w' i s=e*lo n A w i (s+1)+lo n A w (s+1) s*lo n (swM A s) w' i (s+1):=by
 obtain⟨e,W,W2,h1,h2,h3,h4⟩:=h.swap hm hs
 have hd0:=h.pos s (by omega)
 have hd1:=h.pos (s+1) (by omega)
 have hd2:=h.pos (s+2) (by omega)
 have he:0<e:=by have:=h4.pos (s+1) (by omega);simpa using this
 have hip:∀(V:Nat→Int) (a x y:Int) (p q z:Nat→Int),(∀j,j<n→a*V j=x*p j+y*q j)→a*ip n V z=x*ip n p z+y*ip n q z:=fun V a x y p q z hV=>by
  rw[←qp]
  have:=qp n a 0 V V z
  rw[show a*ip n V z=a*ip n V z+0*ip n V z by omega,←this]
  exact qY fun k hk=>by rw[←hV k hk];omega
 refine⟨e,_,h1,he,h4,?_,fun j hj=>⟨?_,?_⟩,fun i j i1 i2 j1 j2=>?_,fun i i1 i2=>?_⟩
 ·unfold lo
  simp only[if_true,aa]
  have:=hip W _ _ _ _ _ (A s) h2
  rw[h.ort (s+1) s (by omega) (by omega),h.nx s (by omega)] at this
  have h5:d (s+1)*(ip n W (A s)-ip n (w s) (A (s+1)))=0:=by
   have e1:lo n A w (s+1) s=ip n (w s) (A (s+1)):=rfl
   rw[e1] at this
   grind
  rcases Int.mul_eq_zero.1 h5 with g|g <;> omega
 ·unfold lo;simp only[if_neg (show ¬j=s by omega),if_neg (show ¬j=s+1 by omega),aa]
 ·unfold lo;simp only[if_neg (show ¬j=s by omega),if_neg (show ¬j=s+1 by omega),ab]
 ·unfold lo;simp only[if_neg j1,if_neg j2,vA A i1 i2]
 ·have e1:lo n (swM A s) (fun t=>if t=s then W else if t=s+1 then W2 else w t) i (s+1)=ip n W2 (A i):=by
   unfold lo;simp only[if_true,if_neg (show ¬s+1=s by omega),vA A i1 i2]
  have e2:lo n (swM A s) (fun t=>if t=s then W else if t=s+1 then W2 else w t) i s=ip n W (A i):=by
   unfold lo;simp only[if_true,vA A i1 i2]
  rw[e1,e2]
  have x1:d (s+1)*ip n W2 (A i)=d (s+2)*lo n A w i s+(-(lo n A w (s+1) s))*lo n A w i (s+1):=hip W2 _ _ _ _ _ (A i) h3
  have x2:d (s+1)*ip n W (A i)=d s*lo n A w i (s+1)+lo n A w (s+1) s*lo n A w i s:=hip W _ _ _ _ _ (A i) h2
  generalize ip n W2 (A i)=P2 at*
  generalize ip n W (A i)=P1 at*
  generalize lo n A w i s=a at*
  generalize lo n A w i (s+1)=b at*
  generalize lo n A w (s+1) s=l at*
  refine⟨by rw[x1];grind,?_⟩
  have h5:d (s+1)*(d (s+2)*P1-(e*b+l*P2))=0:=by
   have y1:d (s+1)*(d (s+2)*P1)=d (s+2)*(d s*b+l*a):=by rw[←x2];grind
   have y2:d (s+1)*(l*P2)=l*(d (s+2)*a + -l*b):=by rw[←x1];grind
   have y3:d (s+1)*(e*b)=(d s*d (s+2)+l*l)*b:=by rw[←h1];grind
   grind
  rcases Int.mul_eq_zero.1 h5 with g|g <;> omega
theorem OD.gd (h:OD n m A d w):∀t,t≤m→gd n A t=d t
  | 0,_=>h.d0.symm
  | t+1,ht=>by
    have e:=OD.gd h t (by omega)
    have x1:=(dM n A t).comb 1 (-1) (h.sp t (by omega))
    have x2:SpZ t n A fun k=>gw n A t k-w t k:=x1.congr fun k _=>by rw[e];grind
    have x3:=jg x2 fun r hr=>by rw[fH,h.ort t r (by omega) hr,dz n A hr];rfl
    rw[←fJ,←h.nx t (by omega)]
    exact qY fun k hk=>by have:=x3 k hk;omega
/-! ### sizes -/
theorem pR (n:Nat) (u v:Nat→Int):ip n u v*ip n u v≤ip n u u*ip n v v:=by
 have hv:=xF n v
 rcases Int.lt_or_le 0 (ip n v v) with g|g
 ·have x0:∀a b:Int,0≤a*(a*ip n u u+(-b)*ip n u v)+(-b)*(a*ip n u v+(-b)*ip n v v):=fun a b=>by
   have x1:=xF n fun k=>a*u k+(-b)*v k
   rw[qp n a (-b) u v (fun k=>a*u k+(-b)*v k),zf n u (fun k=>a*u k+(-b)*v k),zf n v (fun k=>a*u k+(-b)*v k),qp n a (-b) u v u,qp n a (-b) u v v,zf n v u] at x1
   exact x1
  have x2:0≤ip n v v*(ip n u u*ip n v v-ip n u v*ip n u v):=by
   have x1:=x0 (ip n v v) (ip n u v)
   generalize ip n u v=b at*
   generalize ip n v v=a at*
   generalize ip n u u=c at*
   have:a*(a*c + -b*b) + -b*(a*b + -b*a)=a*(c*a-b*b):=by grind
   omega
  rcases Int.lt_or_le (ip n u u*ip n v v-ip n u v*ip n u v) 0 with k|k
  ·have:=Int.mul_lt_mul_of_pos_left k g
   rw[Int.mul_zero] at this;omega
  ·omega
 ·have h0:=fG (show ip n v v=0 by omega)
  have:ip n u v=0:=by rw[zf,qY (u':=fun _=>0) h0];exact xu fun _ _=>Int.zero_mul _
  rw[this,show ip n v v=0 by omega];omega
theorem OD.sq (h:OD n m A d w) {t:Nat} (ht:t<m):ip n (w t) (w t)=d t*d (t+1):=by
 have h1:=h.sp t ht
 have e:=bj (z:=w t) h1 fun r hr=>by rw[zf];exact h.ort t r ht hr
 rw[qp,zf n (A t),h.nx t ht] at e
 generalize ip n (w t) (w t)=x at*
 grind
theorem OD.lo_le (h:OD n m A d w) {i j:Nat} (hj:j<m):lo n A w i j*lo n A w i j≤d j*d (j+1)*ip n (A i) (A i):=by
 rw[←h.sq hj];exact pR n (w j) (A i)
end Go.Ll
namespace Go.Ll
open Go.Dt Go.Hp
variable {n m : Nat} {A : zI} {d : Nat → Int} {w : zI}
def pP (d:Nat→Int):Nat→Int
 | 0=>1
 | t+1=>d t*d (t+1)*pP d t
def vP (n:Nat) (A:zI) (d:Nat→Int) (w:zI) (i:Nat):Nat→Nat→Int
 | 0=>A i
 | t+1=>fun k=>(d t*d (t+1))*vP n A d w i t k+(-(pP d t*lo n A w i t))*w t k
theorem zCN (h:OD n m A d w) (i:Nat):∀t s,t≤s→s<m→ip n (vP n A d w i t) (w s)=pP d t*lo n A w i s
  | 0,s,_,_=>by show ip n (A i) (w s)=1*ip n (w s) (A i);rw[zf];omega
  | t+1,s,hs,hm=>by
    show ip n (fun k=>(d t*d (t+1))*vP n A d w i t k+(-(pP d t*lo n A w i t))*w t k) (w s)=d t*d (t+1)*pP d t*_
    rw[qp,zCN h i t s (by omega) hm,zf n (w t),h.low hm (by omega)]
    grind
theorem zFX (h:OD n m A d w) (i:Nat):∀t,t≤m→SpZ t n A fun k=>1*vP n A d w i t k+(-(pP d t))*A i k
  | 0,_=>⟨fun _=>0,fun k _=>by show 1*A i k+(-(1:Int))*A i k=0;omega⟩
  | t+1,ht=>by
    have h1:=SpZ.more (zFX h i t (by omega)) (Nat.le_succ t)
    have h2:SpZ (t+1) n A (w t):=((SpZ.more (h.sp t (by omega)) (Nat.le_succ t)).comb 1 (d t) (SpZ.row A (Nat.lt_succ_self t))).congr fun k _=>by grind
    refine (h1.comb (d t*d (t+1)) (-(pP d t*lo n A w i t)) h2).congr fun k _=>?_
    show 1*((d t*d (t+1))*vP n A d w i t k+(-(pP d t*lo n A w i t))*w t k)+(-(d t*d (t+1)*pP d t))*A i k=_
    grind
theorem oF (h:OD n m A d w) (i:Nat):∀t r,t≤m→r<t→ip n (vP n A d w i t) (A r)=0
  | 0,r,_,hr=>absurd hr (Nat.not_lt_zero _)
  | t+1,r,ht,hr=>by
    show ip n (fun k=>(d t*d (t+1))*vP n A d w i t k+(-(pP d t*lo n A w i t))*w t k) (A r)=0
    rw[qp]
    rcases Nat.lt_or_ge r t with g|g
    · rw[oF h i t r (by omega) g,h.ort t r (by omega) g];omega
    · obtain rfl:r=t:=by omega
      have e:=bj (z:=vP n A d w i r) (h.sp r (by omega)) fun q hq=>by rw[zf];exact oF h i r q (by omega) hq
      rw[qp,zf n (w r),zCN h i r r (Nat.le_refl _) (by omega),zf n (A r)] at e
      rw[h.nx r (by omega)]
      generalize ip n (vP n A d w i r) (A r)=x at*
      generalize lo n A w i r=l at*
      grind
theorem zFW (h:OD n m A d w) (i:Nat) {t:Nat} (ht:t<m):ip n (vP n A d w i (t+1)) (vP n A d w i (t+1))+(d t*d (t+1))*(pP d t*pP d t*(lo n A w i t*lo n A w i t))=(d t*d (t+1))*(d t*d (t+1))*ip n (vP n A d w i t) (vP n A d w i t):=by
 have e:∀z,ip n (vP n A d w i (t+1)) z=(d t*d (t+1))*ip n (vP n A d w i t) z+(-(pP d t*lo n A w i t))*ip n (w t) z:=fun z=>qp n _ _ _ _ z
 have a1:=zCN h i t t (Nat.le_refl _) ht
 have a2:=h.sq ht
 rw[e,zf n (vP n A d w i t) (vP n A d w i (t+1)),zf n (w t) (vP n A d w i (t+1)),e,e,zf n (w t) (vP n A d w i t),a1,a2]
 generalize ip n (vP n A d w i t) (vP n A d w i t)=x
 generalize lo n A w i t=l
 generalize d t*d (t+1)=D
 generalize pP d t=p
 grind
theorem uO (h:OD n m A d w) {i:Nat} (hi:i<m):d i*ip n (vP n A d w i i) (vP n A d w i i)=pP d i*pP d i*d (i+1):=by
 have x1:=((zFX h i i (by omega)).comb (d i) (-(pP d i)) (h.sp i hi))
 have x2:SpZ i n A fun k=>d i*vP n A d w i i k+(-(pP d i))*w i k:=x1.congr fun k _=>by grind
 have x3:=jg x2 fun r hr=>by rw[qp,oF h i i r (by omega) hr,h.ort i r hi hr];omega
 have a1:=zCN h i i i (Nat.le_refl _) hi
 have a2:=qp n (d i) (-(pP d i)) (vP n A d w i i) (w i) (vP n A d w i i)
 have a3:ip n (fun k=>d i*vP n A d w i i k+(-(pP d i))*w i k) (vP n A d w i i)=0:=by
  rw[qY (u':=fun _=>0) x3];exact xu fun _ _=>Int.zero_mul _
 rw[a3,zf n (w i),a1] at a2
 have a4:lo n A w i i=d (i+1):=h.nx i hi
 rw[a4] at a2
 grind
theorem yC (h:OD n m A d w) {i:Nat} (hi:i<m) {D:Int} (hD:∀t,t≤m→d t≤D) (hr:∀j,j<i→lo n A w i j*lo n A w i j≤d (j+1)*d (j+1)):∀q t,t+q=i→ip n (vP n A d w i t) (vP n A d w i t)≤pP d t*pP d t*(((q+1:Nat):Int)*D)
  | 0,t,e=>by
    obtain rfl:t=i:=by omega
    have x1:=uO h hi
    have hp:=h.pos t (by omega)
    have hn:=xF n (vP n A d w t t)
    have h2:pP d t*pP d t*d (t+1)≤pP d t*pP d t*D:=Int.mul_le_mul_of_nonneg_left (hD (t+1) hi) (xE _)
    have h3:1*ip n (vP n A d w t t) (vP n A d w t t)≤d t*ip n (vP n A d w t t) (vP n A d w t t):=Int.mul_le_mul_of_nonneg_right (by omega) hn
    rw[show (((0+1:Nat):Int))*D=D by show 1*D=D;omega]
    omega
  | q+1,t,e=>by
    have ih:=yC h hi hD hr q (t+1) (by omega)
    have x1:=zFW h i (t:=t) (by omega)
    have h0:=h.pos t (by omega)
    have h1:=h.pos (t+1) (by omega)
    have hlo:=hr t (by omega)
    have hDt:=hD (t+1) (by omega)
    have hpp:=xE (pP d t)
    have b1:d (t+1)*d (t+1)≤d t*d (t+1)*D:=by
      have c1:1*d (t+1)≤d t*d (t+1):=Int.mul_le_mul_of_nonneg_right (by omega) (by omega)
      have c2:d (t+1)*d (t+1)≤d t*d (t+1)*d (t+1):=Int.mul_le_mul_of_nonneg_right (by omega) (by omega)
      have c3:d t*d (t+1)*d (t+1)≤d t*d (t+1)*D:=Int.mul_le_mul_of_nonneg_left hDt (Int.le_of_lt (Int.mul_pos h0 h1))
      omega
    have hE:=Int.mul_pos h0 h1
    show _≤_
    have ePP:pP d (t+1)=d t*d (t+1)*pP d t:=rfl
    rw[ePP] at ih
    generalize d t*d (t+1)=E at*
    generalize ip n (vP n A d w i t) (vP n A d w i t)=x at*
    generalize ip n (vP n A d w i (t+1)) (vP n A d w i (t+1))=y at*
    generalize lo n A w i t*lo n A w i t=l2 at*
    have b2:pP d t*pP d t*l2≤pP d t*pP d t*(E*D):=Int.mul_le_mul_of_nonneg_left (by omega) hpp
    generalize pP d t=p at*
    have b3:E*(p*p*l2)≤E*(p*p*(E*D)):=Int.mul_le_mul_of_nonneg_left b2 (by omega)
    have b4:E*E*x≤E*E*(p*p*(((q+1+1:Nat):Int)*D)):=by
      have z1:E*E*(p*p*(((q+1+1:Nat):Int)*D))=E*p*(E*p)*(((q+1:Nat):Int)*D)+E*(p*p*(E*D)):=by
        rw[show ((q+1+1:Nat):Int)=((q+1:Nat):Int)+1 by omega];grind
      omega
    exact Int.le_of_mul_le_mul_left b4 (Int.mul_pos hE hE)
theorem OD.short (h:OD n m A d w) {i:Nat} (hi:i<m) {D:Int} (hD:∀t,t≤m→d t≤D) (hr:∀j,j<i→lo n A w i j*lo n A w i j≤d (j+1)*d (j+1)):ip n (A i) (A i)≤((i+1:Nat):Int)*D:=by
 have:=yC h hi hD hr i 0 (by omega)
 have e:pP d 0*pP d 0*(((i+1:Nat):Int)*D)=((i+1:Nat):Int)*D:=by show 1*1*_=_;omega
 rw[e] at this
 exact this
end Go.Ll
namespace Go.Ll
open Go.Dt Go.Hp Go.Pz Go.En Go.Nt
def mL (L:List (List Int)):zI:=fun i j=>cf (L.getD i []) j
def uB (R:Nat) (U:List (List Int)) (B:zI):zI:=fun i k=>sm R fun r=>mL U i r*B r k
theorem vw {L:List (List Int)} {i:Nat} {r:List Int} (hi:i<L.length) (t j:Nat):mL (L.set i r) t j=if t=i then cf r j else mL L t j:=by
 unfold mL
 rw[List.getD_eq_getElem?_getD]
 by_cases e:t=i
 ·subst e;rw[List.getElem?_set_self hi,if_pos rfl];rfl
 ·rw[List.getElem?_set_ne (by omega),if_neg e,List.getD_eq_getElem?_getD]
theorem jy {L:List (List Int)} {i:Nat} {r:List Int} (h:L[i]?=some r) (j:Nat):mL L i j=cf r j:=by
 unfold mL;rw[List.getD_eq_getElem?_getD,h];rfl
structure LI (n R:Nat) (B:zI) (ds:List Int) (L U:List (List Int)) (w:zI):Prop where
 hL:L.length=R
 hU:U.length=R
 od:OD n R (uB R U B) (cf ds) w
 hlo:∀i j,i<R→j<i→mL L i j=lo n (uB R U B) w i j
variable {n R : Nat} {B : zI} {ds : List Int} {L U : List (List Int)} {w : zI}
theorem bP {i k:Nat} {q qk:List Int} {c:Int} (hi:U[i]?=some q) (hk:U[k]?=some qk):uB R (U.set i (iQ R q qk c)) B=lsM (uB R U B) i k c:=by
 have hil:i<U.length:=by
  rcases Nat.lt_or_ge i U.length with g|g
  ·exact g
  ·rw[List.getElem?_eq_none g] at hi;cases hi
 funext t j
 unfold lsM
 by_cases e:t=i
 ·subst e
  rw[if_pos rfl]
  show (sm R fun r=>mL (U.set t (iQ R q qk c)) t r*B r j)=(sm R fun r=>mL U t r*B r j)-c*sm R fun r=>mL U k r*B r j
  have h1:=wV 1 (-c) (fun r=>mL U t r*B r j) (fun r=>mL U k r*B r j) R
  have h2:(sm R fun r=>mL (U.set t (iQ R q qk c)) t r*B r j)=sm R fun r=>1*(mL U t r*B r j)+(-c)*(mL U k r*B r j):=zS fun r hr=>by
   rw[vw hil,if_pos rfl,jy hi,jy hk]
   unfold iQ
   rw[jq hr,if_pos hr]
   grind
  rw[h2,h1];grind
 ·rw[if_neg e]
  exact zS fun r _=>by rw[vw hil,if_neg e]
theorem LI.less (h:LI n R B ds L U w) {i k:Nat} {r rk q qk:List Int} {c:Int} (hi:L[i]?=some r) (hrk:L[k]?=some rk) (hq:U[i]?=some q) (hqk:U[k]?=some qk) (hr:r.length=R) (hki:k<i):
  LI n R B ds (L.set i (eU R k r rk c (cf r k-c*cf ds (k+1)))) (U.set i (iQ R q qk c)) w:=by
 have hil:i<L.length:=by
  rcases Nat.lt_or_ge i L.length with g|g
  ·exact g
  ·rw[List.getElem?_eq_none g] at hi;cases hi
 have hiR:i<R:=by rw[←h.hL];exact hil
 refine⟨by rw[List.length_set];exact h.hL,by rw[List.length_set];exact h.hU,?_,fun t j ht hj=>?_⟩
 ·rw[bP hq hqk];exact h.od.less hki c
 ·rw[bP hq hqk,vw hil]
  by_cases e:t=i
  ·subst e
   rw[if_pos rfl,rb]
   have h1:=h.hlo t j ht hj
   rw[jy hi] at h1
   unfold eU
   rw[jq (by omega),←h1]
   by_cases g:j<k
   ·have h2:=h.hlo k j (by omega) g
    rw[jy hrk] at h2
    rw[if_pos g,←h2,xq (by omega)]
   ·rw[if_neg g]
    by_cases g2:j=k
    ·subst g2
     have h3:lo n (uB R U B) w j j=cf ds (j+1):=h.od.nx j (by omega)
     rw[h3]
     unfold cf
     rw[List.getD_eq_getElem?_getD,List.getElem?_set_self (by omega)];rfl
    ·have h3:lo n (uB R U B) w k j=0:=h.od.ort j k (by omega) (by omega)
     rw[h3,xq (by omega)];omega
  ·rw[if_neg e,oq c e];exact h.hlo t j ht hj
theorem de (x:Int) {d:Int} (h:0<d) : -d≤2*(x-vR x d*d)∧2*(x-vR x d*d)<d:=by
 unfold vR
 have h1:=Int.mul_ediv_add_emod (x+x+d) (d+d)
 have h2:=Int.emod_nonneg (x+x+d) (show d+d≠0 by omega)
 have h3:=Int.emod_lt_of_pos (x+x+d) (show 0<d+d by omega)
 generalize (x+x+d)/(d+d)=c at*
 generalize (x+x+d)%(d+d)=r at*
 have e:2*(x-c*d)=x+x-(d+d)*c:=by grind
 omega
theorem uc {x d:Int} (h:smZ x d=true) (hd:0<d):4*(x*x)≤d*d:=by
 unfold smZ at h
 have h1:ql (((x+x).natAbs:Nat):Int) d≤0:=of_decide_eq_true h
 have h2:(((x+x).natAbs:Nat):Int)≤d:=by
  rcases Int.lt_or_le d (((x+x).natAbs:Nat):Int) with g|g
  ·exfalso
   unfold ql at h1
   have:=(aL ((((x+x).natAbs:Nat):Int)-d)).2 (by omega)
   first|omega|(split at h1 <;> omega)
  ·exact g
 have h3 : -d≤2*x∧2*x≤d:=by omega
 have:=Int.mul_nonneg (show 0≤d-2*x by omega) (show 0≤d+2*x by omega)
 grind
theorem wc {l:List Int} {k:Nat} (x:Int) (h:k<l.length):cf (l.set k x)=fun t=>if t=k then x else cf l t:=by
 funext t
 by_cases e:t=k
 ·subst e
  rw[if_pos rfl]
  unfold cf
  rw[List.getD_eq_getElem?_getD,List.getElem?_set_self h];rfl
 ·rw[if_neg e,xq (by omega)]
theorem bO {s:Nat} {q0 q1:List Int} (h0:U[s]?=some q0) (h1:U[s+1]?=some q1):uB R ((U.set (s+1) q0).set s q1) B=swM (uB R U B) s:=by
 have hl:s+1<U.length:=by
  rcases Nat.lt_or_ge (s+1) U.length with g|g
  ·exact g
  ·rw[List.getElem?_eq_none g] at h1;cases h1
 funext t j
 unfold swM
 by_cases e1:t=s+1
 ·subst e1
  rw[if_pos rfl]
  exact zS fun r _=>by rw[vw (by rw[List.length_set];omega),if_neg (by omega),vw hl,if_pos rfl,jy h0]
 ·rw[if_neg e1]
  by_cases e2:t=s
  ·subst e2
   rw[if_pos rfl]
   exact zS fun r _=>by rw[vw (by rw[List.length_set];omega),if_pos rfl,jy h1]
  ·rw[if_neg e2]
   exact zS fun r _=>by rw[vw (by rw[List.length_set];omega),if_neg e2,vw hl,if_neg e1]
theorem LI.swap (h:LI n R B ds L U w) (hd:ds.length=R+1) {s:Nat} (hs:s+1<R) {q0 q1:List Int} (h0:U[s]?=some q0) (h1:U[s+1]?=some q1):
    ∃(e:Int) (w':zI) (X Y:Nat→Int),0<e∧cf ds (s+1)*e=cf ds s*cf ds (s+2)+mL L (s+1) s*mL L (s+1) s∧
      (∀i,s+1<i→i<R→cf ds (s+1)*X i=cf ds (s+2)*mL L i s-mL L (s+1) s*mL L i (s+1)∧cf ds (s+2)*Y i=e*mL L i (s+1)+mL L (s+1) s*X i)∧
      ∀L':List (List Int),L'.length=R→mL L' (s+1) s=mL L (s+1) s→(∀j,j<s→mL L' (s+1) j=mL L s j∧mL L' s j=mL L (s+1) j)→
        (∀i j,i≠s→i≠s+1→j≠s→j≠s+1→mL L' i j=mL L i j)→(∀i,s+1<i→i<R→mL L' i (s+1)=X i∧mL L' i s=Y i)→
        LI n R B (ds.set (s+1) e) L' ((U.set (s+1) q0).set s q1) w':=by
  obtain⟨e,w',g1,g2,g3,g4,g5,g6,g7⟩:=h.od.swap_lo h.od.gd hs
  have hls:=h.hlo (s+1) s hs (Nat.lt_succ_self s)
  refine⟨e,w',fun i=>lo n (swM (uB R U B) s) w' i (s+1),fun i=>lo n (swM (uB R U B) s) w' i s,g2,by rw[hls];exact g1,fun i i1 i2=>?_,fun L' l1 l2 l3 l4 l5=>?_⟩
  · rw[hls,h.hlo i s i2 (by omega),h.hlo i (s+1) i2 i1]
    exact g7 i (by omega) (by omega)
  · refine⟨l1,by rw[List.length_set,List.length_set];exact h.hU,?_,fun i j hi hj=>?_⟩
    · rw[bO h0 h1,wc e (by omega)];exact g3
    · rw[bO h0 h1]
      by_cases e1:i=s+1
      · subst e1
        by_cases e2:j=s
        · subst e2;rw[l2,g4];exact hls
        · have hjs:j<s:=by omega
          rw[(l3 j hjs).1,(g5 j hjs).1];exact h.hlo s j (by omega) hjs
      · by_cases e2:i=s
        · subst e2
          rw[(l3 j hj).2,(g5 j hj).2];exact h.hlo (i+1) j hs (by omega)
        · by_cases e3:j=s
          · subst e3;exact (l5 i (by omega) hi).2
          · by_cases e4:j=s+1
            · subst e4;exact (l5 i hj hi).1
            · rw[l4 i j e2 e1 e3 e4,g6 i j e2 e1 e3 e4];exact h.hlo i j hi hj
end Go.Ll
namespace Go.Ll
open Go.Dt Go.Hp Go.Pz Go.En Go.Nt
variable {n m : Nat} {A : zI} {d : Nat → Int} {w : zI}
theorem zHE (a b:Int):(a+b)*(a+b)≤2*(a*a)+2*(b*b):=by
 have:=xE (a-b)
 grind
theorem zHF (a b:Int):a*a*(b*b)=a*b*(a*b):=by grind
theorem zHR (x:Int) {d:Int} (h:0<d):vR x d*vR x d≤2*(x*x)+2:=by
 obtain⟨c,hc⟩:∃c,c=vR x d:=⟨_,rfl⟩
 have h1:=de x h
 rw[←hc] at h1⊢
 obtain⟨r,hr⟩:∃r,r=x-c*d:=⟨_,rfl⟩
 rw[←hr] at h1
 have h2:r*r≤d*d:=by
  have:=Int.mul_nonneg (show 0≤d-r by omega) (show 0≤d+r by omega)
  grind
 have h3:c*d*(c*d)≤2*(x*x)+2*(r*r):=by
  have:=zHE x (-r)
  have e:x + -r=c*d:=by omega
  rw[e] at this
  have e2 : -r * -r=r*r:=by grind
  omega
 have hx:=xE x
 have hdd:1≤d*d:=by have:=Int.mul_pos h h;omega
 have h4:c*c*(d*d)≤(2*(x*x)+2)*(d*d):=by
  rw[zHF]
  have h5:2*(x*x)*1≤2*(x*x)*(d*d):=Int.mul_le_mul_of_nonneg_left hdd (by omega)
  have e:(2*(x*x)+2)*(d*d)=2*(x*x)*(d*d)+2*(d*d):=by grind
  omega
 exact Int.le_of_mul_le_mul_right h4 (by omega)
theorem zEI (n:Nat) (c:Int) (u v:Nat→Int):ip n (fun k=>u k-c*v k) (fun k=>u k-c*v k)≤2*ip n u u+2*(c*c)*ip n v v:=by
 have h1:=xF n fun k=>1*u k+c*v k
 rw[qp n 1 c u v (fun k=>1*u k+c*v k),zf n u (fun k=>1*u k+c*v k),zf n v (fun k=>1*u k+c*v k),qp n 1 c u v u,qp n 1 c u v v,zf n v u] at h1
 have h2:ip n (fun k=>u k-c*v k) (fun k=>u k-c*v k)=ip n u u-2*c*ip n u v+c*c*ip n v v:=by
  rw[aD n c u v (fun k=>u k-c*v k),zf n u (fun k=>u k-c*v k),zf n v (fun k=>u k-c*v k),aD n c u v u,aD n c u v v,zf n v u]
  grind
 rw[h2]
 grind
theorem OD.grow (h:OD n m A d w) {i k:Nat} (hki:k<i) (hi:i<m) {D N X:Int} (hD:∀t,t≤m→d t≤D) (hN:ip n (A k) (A k)≤N) (hX:ip n (A i) (A i)≤X) (hN1:1≤N) (hX1:1≤X):
  ip n (lsM A i k (vR (lo n A w i k) (d (k+1))) i) (lsM A i k (vR (lo n A w i k) (d (k+1))) i)≤10*(D*D*N)*X:=by
 obtain⟨c,hc⟩:∃c,c=vR (lo n A w i k) (d (k+1)):=⟨_,rfl⟩
 have hd0:=h.pos k (by omega)
 have hd1:=h.pos (k+1) (by omega)
 have h1:=zHR (lo n A w i k) hd1
 have h2:=h.lo_le (i:=i) (j:=k) (by omega)
 rw[←hc] at h1⊢
 have hD1:1≤D:=by have:=hD k (by omega);omega
 have h3:d k*d (k+1)≤D*D:=Int.le_trans (Int.mul_le_mul_of_nonneg_right (hD k (by omega)) (by omega)) (Int.mul_le_mul_of_nonneg_left (hD (k+1) (by omega)) (by omega))
 have hnn:=xF n (A i)
 have hDD:1≤D*D:=by have:1*D≤D*D:=Int.mul_le_mul_of_nonneg_right hD1 (by omega);omega
 have h4:d k*d (k+1)*ip n (A i) (A i)≤D*D*X:=Int.le_trans (Int.mul_le_mul_of_nonneg_right h3 hnn) (Int.mul_le_mul_of_nonneg_left hX (by omega))
 have h5:=zEI n c (A i) (A k)
 have e:lsM A i k c i=fun j=>A i j-c*A k j:=by unfold lsM;rw[if_pos rfl]
 rw[e]
 have hcc:=xE c
 have h6:c*c*ip n (A k) (A k)≤c*c*N:=Int.mul_le_mul_of_nonneg_left hN hcc
 generalize lo n A w i k*lo n A w i k=l2 at*
 have h7:c*c*N≤(2*(D*D*X)+2)*N:=Int.mul_le_mul_of_nonneg_right (by omega) (by omega)
 have hXN:X≤X*N:=by have:X*1≤X*N:=Int.mul_le_mul_of_nonneg_left hN1 (by omega);omega
 have hNX:N≤X*N:=by have:1*N≤X*N:=Int.mul_le_mul_of_nonneg_right hX1 (by omega);omega
 have hXN0:0≤X*N:=by omega
 have hDXN:X*N≤D*D*(X*N):=by have:1*(X*N)≤D*D*(X*N):=Int.mul_le_mul_of_nonneg_right hDD hXN0;omega
 have e1:(2*(D*D*X)+2)*N=2*(D*D*(X*N))+2*N:=by grind
 have e2:10*(D*D*N)*X=10*(D*D*(X*N)):=by grind
 have e3:2*(c*c)*ip n (A k) (A k)=2*(c*c*ip n (A k) (A k)):=by grind
 rw[e2]
 rw[e1] at h7
 omega
end Go.Ll
namespace Go.Ll
open Go.Dt Go.Hp Go.Pz Go.En Go.Nt
structure RJ (n R:Nat) (B:zI) (D N:Int) (ds:List Int) (L U:List (List Int)) (w:zI) (k j:Nat):Prop where
 li:LI n R B ds L U w
 hd:∀t,t≤R→cf ds t≤D
 hN:((R:Nat):Int)*D≤N
 hN1:1≤N
 red:∀i t,i<k→i<R→t<i→4*(mL L i t*mL L i t)≤cf ds (t+1)*cf ds (t+1)
 sm:k<R→∀t,j≤t→t<k→4*(mL L k t*mL L k t)≤cf ds (t+1)*cf ds (t+1)
 nrm:∀i,i<R→i≠k→ip n (uB R U B i) (uB R U B i)≤N
 cand:k<R→ip n (uB R U B k) (uB R U B k)≤N*(10*(D*D*N))^(R-j)
variable {n R : Nat} {B : zI} {D N : Int} {ds : List Int} {L U : List (List Int)} {w : zI} {k j : Nat}
theorem RJ.d1 (h:RJ n R B D N ds L U w k j):1≤D:=by have h1:=h.li.od.pos 0 (by omega);have h2:=h.hd 0 (by omega);omega
theorem RJ.f1 (h:RJ n R B D N ds L U w k j):1≤10*(D*D*N):=by
 have h1:=h.d1
 have h2:=Int.mul_pos (Int.mul_pos (show 0<D by omega) (show 0<D by omega)) (show 0<N by have:=h.hN1;omega)
 omega
theorem cN {F:Int} (h:1≤F):∀m:Nat,1≤F^m
  | 0=>by rw[Int.pow_zero];omega
  | m+1=>by
    have h1:=cN h m
    have h2:1*F≤F^m*F:=Int.mul_le_mul_of_nonneg_right h1 (by omega)
    rw[Int.pow_succ];omega
theorem RJ.n_le (h:RJ n R B D N ds L U w k j) (m:Nat):N≤N*(10*(D*D*N))^m:=by
 have h1:=cN h.f1 m
 have h2:=h.hN1
 have h3:N*1≤N*(10*(D*D*N))^m:=Int.mul_le_mul_of_nonneg_left h1 (by omega)
 omega
theorem RJ.up (h:RJ n R B D N ds L U w k j) (m:Nat):N*(10*(D*D*N))^m≤N*(10*(D*D*N))^(m+1):=by
 have h1:=h.n_le m
 have h2:=h.f1
 have h4:=h.hN1
 generalize 10*(D*D*N)=F at*
 rw[Int.pow_succ,←Int.mul_assoc N]
 generalize N*F^m=x at*
 have h3:x*1≤x*F:=Int.mul_le_mul_of_nonneg_left h2 (by omega)
 omega
theorem RJ.stay (h:RJ n R B D N ds L U w k (j+1)) (hj:j<k) (hk:k<R) {r:List Int} (hr:L[k]?=some r) (hs:smZ (cf r j) (cf ds (j+1))=true):RJ n R B D N ds L U w k j:=by
 refine { h with sm:=fun _ t h1 h2=>?_,cand:=fun _=>?_ }
 ·rcases Nat.lt_or_ge j t with g|g
  ·exact h.sm hk t g h2
  ·obtain rfl:t=j:=by omega
   rw[jy hr]
   exact uc hs (h.li.od.pos (t+1) (by omega))
 ·have:=h.up (R-(j+1))
  rw[show R-(j+1)+1=R-j by omega] at this
  exact Int.le_trans (h.cand hk) this
theorem RJ.less (h:RJ n R B D N ds L U w k (j+1)) (hj:j<k) (hk:k<R) {r rk q qk:List Int} (hr:L[k]?=some r) (hrk:L[j]?=some rk) (hq:U[k]?=some q) (hqk:U[j]?=some qk) (hrR:r.length=R):
  RJ n R B D N ds (L.set k (eU R j r rk (vR (cf r j) (cf ds (j+1))) (cf r j-vR (cf r j) (cf ds (j+1))*cf ds (j+1)))) (U.set k (iQ R q qk (vR (cf r j) (cf ds (j+1))))) w k j:=by
 have hl:k<L.length:=by rw[h.li.hL];exact hk
 have hdj:=h.li.od.pos (j+1) (by omega)
 refine { li:=h.li.less hr hrk hq hqk hrR hj,hd:=h.hd,hN:=h.hN,hN1:=h.hN1,red:=fun i t h1 h2 h3=>?_,sm:=fun _ t h1 h2=>?_,nrm:=fun i h1 h2=>?_,cand:=fun _=>?_ }
 ·rw[vw hl,if_neg (by omega)];exact h.red i t h1 h2 h3
 ·rw[vw hl,if_pos rfl]
  unfold eU
  rw[jq (by omega),if_neg (by omega)]
  rcases Nat.lt_or_ge j t with g|g
  ·have:=h.sm hk t g h2
   rw[jy hr] at this
   rw[xq (by omega)];exact this
  ·obtain rfl:t=j:=by omega
   have e:cf (r.set t (cf r t-vR (cf r t) (cf ds (t+1))*cf ds (t+1))) t=cf r t-vR (cf r t) (cf ds (t+1))*cf ds (t+1):=by
    rw[wc _ (by omega)];exact if_pos rfl
   rw[e]
   have h4:=de (cf r t) hdj
   generalize cf r t-vR (cf r t) (cf ds (t+1))*cf ds (t+1)=x at*
   generalize cf ds (t+1)=d at*
   have:=Int.mul_nonneg (show 0≤d-2*x by omega) (show 0≤d+2*x by omega)
   grind
 ·rw[bP hq hqk]
  unfold lsM
  rw[if_neg h2];exact h.nrm i h1 h2
 ·have e1:=h.li.hlo k j hk hj
  rw[jy hr] at e1
  have:=h.li.od.grow hj hk h.hd (h.nrm j (by omega) (by omega)) (h.cand hk) h.hN1 (by have:=h.n_le (R-(j+1));have:=h.hN1;omega)
  rw[←e1] at this
  rw[bP hq hqk]
  refine Int.le_trans this (Int.le_of_eq ?_)
  rw[show R-j=R-(j+1)+1 by omega,Int.pow_succ]
  grind
theorem RJ.next (h:RJ n R B D N ds L U w k 0) (hk:k<R):RJ n R B D N ds L U w (k+1) (k+1):=by
 have hs:ip n (uB R U B k) (uB R U B k)≤N:=by
  have h1:=h.li.od.short hk h.hd fun t ht=>by rw[←h.li.hlo k t hk ht];have:=h.sm hk t (Nat.zero_le _) ht;have:=xE (mL L k t);omega
  have h2:((k+1:Nat):Int)*D≤((R:Nat):Int)*D:=Int.mul_le_mul_of_nonneg_right (by omega) (by have:=h.d1;omega)
  have:=h.hN
  omega
 refine { h with red:=fun i t h1 h2 h3=>?_,sm:=fun _ t h1 h2=>absurd h2 (by omega),nrm:=fun i h1 h2=>?_,cand:=fun h1=>?_ }
 ·rcases Nat.lt_or_ge i k with g|g
  ·exact h.red i t g h2 h3
  ·obtain rfl:i=k:=by omega
   exact h.sm hk t (Nat.zero_le _) h3
 ·by_cases e:i=k
  ·subst e;exact hs
  ·exact h.nrm i h1 e
 ·exact Int.le_trans (h.nrm (k+1) h1 (by omega)) (h.n_le _)
theorem RJ.swap {s:Nat} (h:RJ n R B D N ds L U w (s+1) s) (hd:ds.length=R+1) (hs:s+1<R) {q0 q1:List Int} (h0:U[s]?=some q0) (h1:U[s+1]?=some q1):
    ∃(e:Int) (X Y:Nat→Int),0<e∧cf ds (s+1)*e=cf ds s*cf ds (s+2)+mL L (s+1) s*mL L (s+1) s∧
      (∀i,s+1<i→i<R→cf ds (s+1)*X i=cf ds (s+2)*mL L i s-mL L (s+1) s*mL L i (s+1)∧cf ds (s+2)*Y i=e*mL L i (s+1)+mL L (s+1) s*X i)∧
      (e<cf ds (s+1)→∀L':List (List Int),L'.length=R→mL L' (s+1) s=mL L (s+1) s→(∀j,j<s→mL L' (s+1) j=mL L s j∧mL L' s j=mL L (s+1) j)→
        (∀i j,i≠s→i≠s+1→j≠s→j≠s+1→mL L' i j=mL L i j)→(∀i,s+1<i→i<R→mL L' i (s+1)=X i∧mL L' i s=Y i)→
        ∃w',RJ n R B D N (ds.set (s+1) e) L' ((U.set (s+1) q0).set s q1) w' (max 1 s) (max 1 s)):=by
  obtain⟨e,w',X,Y,g1,g2,g3,g4⟩:=h.li.swap hd hs h0 h1
  refine⟨e,X,Y,g1,g2,g3,fun he L' l1 l2 l3 l4 l5=>⟨w',?_⟩⟩
  have hli:=g4 L' l1 l2 l3 l4 l5
  have hD1:=h.d1
  have hcf:=wc (l:=ds) e (show s+1<ds.length by omega)
  have hdd:∀t,t≤R→cf (ds.set (s+1) e) t≤D:=fun t ht=>by
    rw[hcf]
    show (if t=s+1 then e else cf ds t)≤D
    split
    · have:=h.hd (s+1) (by omega);omega
    · exact h.hd t ht
  have hRD:D≤((R:Nat):Int)*D:=by
    have:1*D≤((R:Nat):Int)*D:=Int.mul_le_mul_of_nonneg_right (by omega) (by omega)
    omega
  have hN:=h.hN
  have hA:=bO (R:=R) (B:=B) h0 h1
  have hn0:ip n (uB R U B s) (uB R U B s)≤N:=h.nrm s (by omega) (by omega)
  refine { li:=hli,hd:=hdd,hN:=h.hN,hN1:=h.hN1,red:=fun i t i1 i2 i3=>?_,sm:=fun _ t t1 t2=>absurd t2 (by omega),nrm:=fun i i1 i2=>?_,cand:=fun i1=>?_ }
  · have hts:i<s:=by omega
    rw[l4 i t (by omega) (by omega) (by omega) (by omega),hcf]
    show _≤(if t+1=s+1 then e else cf ds (t+1))*(if t+1=s+1 then e else cf ds (t+1))
    rw[if_neg (by omega)]
    exact h.red i t (by omega) i2 i3
  · by_cases e1:i=s+1
    · subst e1;rw[hA,aa];exact hn0
    · by_cases e2:i=s
      · obtain rfl:s=0:=by omega
        subst e2
        have x:=hli.od.short (i:=0) (by omega) hdd fun j hj=>absurd hj (Nat.not_lt_zero _)
        have:((0+1:Nat):Int)*D=D:=by show 1*D=D;omega
        omega
      · rw[hA,vA _ e2 e1];exact h.nrm i i1 e1
  · rcases Nat.eq_zero_or_pos s with e1|e1
    · subst e1
      have:max 1 0=0+1:=rfl
      rw[this,hA,aa]
      exact Int.le_trans hn0 (h.n_le _)
    · rw[Nat.max_eq_right (show 1≤s by omega),hA,ab]
      exact h.cand hs
theorem RJ.lo_sq (h:RJ n R B D N ds L U w k j) {i t:Nat} (hi:i<R) (ht:t<i):mL L i t*mL L i t≤D*D*(N*(10*(D*D*N))^R):=by
 have hD1:=h.d1
 have e:=h.li.hlo i t hi ht
 have h1:=h.li.od.lo_le (i:=i) (j:=t) (by omega)
 rw[←e] at h1
 have d0:=h.li.od.pos t (by omega)
 have d1:=h.li.od.pos (t+1) (by omega)
 have h3:cf ds t*cf ds (t+1)≤D*D:=Int.le_trans (Int.mul_le_mul_of_nonneg_right (h.hd t (by omega)) (by omega)) (Int.mul_le_mul_of_nonneg_left (h.hd (t+1) (by omega)) (by omega))
 have hx:ip n (uB R U B i) (uB R U B i)≤N*(10*(D*D*N))^R:=by
  by_cases g:i=k
  ·subst g
   refine Int.le_trans (h.cand hi) ?_
   have:∀m,N*(10*(D*D*N))^(R-j)≤N*(10*(D*D*N))^(R-j+m):=fun m=>by
    induction m with
    | zero=>exact Int.le_refl _
    | succ m ih=>exact Int.le_trans ih (h.up (R-j+m))
   have:=this (R-(R-j))
   rwa [show R-j+(R-(R-j))=R by omega] at this
  ·exact Int.le_trans (h.nrm i hi g) (h.n_le _)
 have hnn:=xF n (uB R U B i)
 have hDD:=Int.mul_pos (show 0<D by omega) (show 0<D by omega)
 exact Int.le_trans h1 (Int.le_trans (Int.mul_le_mul_of_nonneg_right h3 hnn) (Int.mul_le_mul_of_nonneg_left hx (by omega)))
end Go.Ll
namespace Go.Ll
open Go.Dt Go.Hp Go.Pz Go.En Go.Nt
variable {n R : Nat} {B : zI} {U : List (List Int)}
theorem uf {f:Nat→Int} {M:Int} (hM:0≤M):∀m:Nat,(∀s,s<m → -M≤f s∧f s≤M) → -((m:Int)*M)≤Dt.sm m f∧Dt.sm m f≤(m:Int)*M
  | 0,_=>by
    show -(((0:Nat):Int)*M)≤0∧(0:Int)≤((0:Nat):Int)*M
    rw[show (((0:Nat):Int))*M=0 from Int.zero_mul _];omega
  | m+1,h=>by
    have h1:=uf hM m fun s hs=>h s (by omega)
    have h2:=h m (by omega)
    show -(((m+1:Nat):Int)*M)≤Dt.sm m f+f m∧Dt.sm m f+f m≤((m+1:Nat):Int)*M
    have e:((m+1:Nat):Int)*M=(m:Int)*M+M:=by rw[show ((m+1:Nat):Int)=(m:Int)+1 by omega,Int.add_mul];omega
    omega
theorem u_eq {d:Nat→Int} {w:zI} (h:OD n R B d w) (i:Nat) {r:Nat} (hr:r<R):d (r+1)*mL U i r=ip n (w r) (uB R U B i)-Dt.sm R fun s=>if r<s then mL U i s*ip n (w r) (B s) else 0:=by
 have e1:ip n (w r) (uB R U B i)=Dt.sm R fun s=>mL U i s*ip n (w r) (B s):=by
  rw[zf,qY (u':=fun k=>0*(0:Int)+Dt.sm R fun s=>mL U i s*B s k) fun k _=>by show uB R U B i k=_;unfold uB;omega]
  rw[dJ n R 0 (fun _=>0) (w r) (fun s=>mL U i s) B,Int.zero_mul,Int.zero_add]
  exact zS fun s _=>by rw[zf]
 have e2:(Dt.sm R fun s=>mL U i s*ip n (w r) (B s))=(Dt.sm R fun s=>(if s=r then 1 else 0)*(fun q=>mL U i q*ip n (w r) (B q)) s)+Dt.sm R fun s=>if r<s then mL U i s*ip n (w r) (B s) else 0:=by
  rw[←kt]
  refine zS fun s hs=>?_
  show _=(if s=r then 1 else 0)*(mL U i s*ip n (w r) (B s))+if r<s then mL U i s*ip n (w r) (B s) else 0
  by_cases g:s=r
  ·rw[if_pos g,if_neg (by omega)];omega
  ·rw[if_neg g]
   by_cases g2:r<s
   ·rw[if_pos g2];omega
   ·rw[if_neg g2,h.ort r s hr (by omega)];omega
 rw[e1,e2,wq (fun q=>mL U i q*ip n (w r) (B q)) hr,h.nx r hr,Int.mul_comm]
 omega
theorem pk {d:Nat→Int} {w:zI} (h:OD n R B d w) {i:Nat} {Q:Int} (hQ:1≤Q) (hw:∀r,r<R → -Q≤ip n (w r) (uB R U B i)∧ip n (w r) (uB R U B i)≤Q) (hl:∀s r,r<s→s<R → -Q≤ip n (w r) (B s)∧ip n (w r) (B s)≤Q):
    ∀(N r:Nat),R-r≤N→r<R → -((Q*((R:Int)+1))^N)≤mL U i r∧mL U i r≤(Q*((R:Int)+1))^N
  | 0,r,h1,h2=>by omega
  | N+1,r,h1,h2=>by
    obtain⟨T,hT⟩:∃T,T=Q*((R:Int)+1):=⟨_,rfl⟩
    have hT1:1≤T:=by
      rw[hT]
      have:Q*1≤Q*((R:Int)+1):=Int.mul_le_mul_of_nonneg_left (by omega) (by omega)
      omega
    have hp:=cN hT1 N
    have ih:∀s,r<s→s<R → -(T^N)≤mL U i s∧mL U i s≤T^N:=fun s hs hR=>by
      have:=pk h hQ hw hl N s (by omega) hR
      rw[←hT] at this;exact this
    have hs:=uf (f:=fun s=>if r<s then mL U i s*ip n (w r) (B s) else 0) (M:=T^N*Q) (Int.mul_nonneg (by omega) (by omega)) R fun s hs=>by
      show _≤(if r<s then mL U i s*ip n (w r) (B s) else 0)∧(if r<s then mL U i s*ip n (w r) (B s) else 0)≤_
      have hpq:0≤T^N*Q:=Int.mul_nonneg (by omega) (by omega)
      by_cases g:r<s
      · rw[if_pos g]
        have a:=ih s g hs
        have b:=hl s r g hs
        generalize mL U i s=x at*
        generalize ip n (w r) (B s)=y at*
        generalize T^N=p at*
        have c1:=Int.mul_nonneg (show 0≤p-x by omega) (show 0≤Q-y by omega)
        have c2:=Int.mul_nonneg (show 0≤p+x by omega) (show 0≤Q+y by omega)
        have c3:=Int.mul_nonneg (show 0≤p-x by omega) (show 0≤Q+y by omega)
        have c4:=Int.mul_nonneg (show 0≤p+x by omega) (show 0≤Q-y by omega)
        constructor
        · grind
        · grind
      · rw[if_neg g];omega
    have he:=u_eq (U:=U) h i h2
    have hw1:=hw r h2
    have hd:=h.pos (r+1) (by omega)
    rw[←hT]
    generalize (Dt.sm R fun s=>if r<s then mL U i s*ip n (w r) (B s) else 0)=S at*
    generalize ip n (w r) (uB R U B i)=a at*
    generalize mL U i r=u at*
    have hb:Q+(R:Int)*(T^N*Q)≤T^(N+1):=by
      rw[Int.pow_succ]
      generalize T^N=p at*
      have c1:1*Q≤p*Q:=Int.mul_le_mul_of_nonneg_right hp (by omega)
      have c2:p*T=p*Q+(R:Int)*(p*Q):=by rw[hT];grind
      omega
    generalize T^(N+1)=Z at*
    have hdu : -Z≤d (r+1)*u∧d (r+1)*u≤Z:=by omega
    generalize d (r+1)=D at*
    rcases Int.lt_or_le u 0 with g|g
    · have:D*u≤1*u:=by
        have:=Int.mul_le_mul_of_nonpos_right (show 1≤D by omega) (show u≤0 by omega)
        exact this
      omega
    · have:1*u≤D*u:=Int.mul_le_mul_of_nonneg_right (by omega) g
      omega
end Go.Ll
namespace Go.Ll
open Go.Dt Go.Hp Go.Pz Go.En Go.Nt
theorem sK {x y:Int} (h:¬0≤ql x y):x<y:=by
 unfold ql at h
 rcases Int.lt_or_le x y with g|g
 ·exact g
 ·exfalso
  rw[if_neg (by omega)] at h
  split at h <;> omega
theorem sf {p q d e a:Int} (hq:0<q) (hpq:p<q) (hd:0<d) (ha:d*e=a) (h:¬0≤ql (q*a) (p*(d*d))):e<d:=by
 have h1:=sK h
 rw[←ha] at h1
 have h2:p*(d*d)≤q*(d*d):=Int.mul_le_mul_of_nonneg_right (by omega) (Int.le_of_lt (Int.mul_pos hd hd))
 rcases Int.lt_or_le e d with g|g
 ·exact g
 ·exfalso
  have h3:d*d≤d*e:=Int.mul_le_mul_of_nonneg_left g (by omega)
  have h4:q*(d*d)≤q*(d*e):=Int.mul_le_mul_of_nonneg_left h3 (by omega)
  omega
end Go.Ll
namespace Go.En
open Go.Nt Go.Pz Go.Mz
theorem qt {β:Type} {l:List β} {i:Nat} {a:β} (h:l[i]?=some a):i<l.length:=by
 rcases Nat.lt_or_ge i l.length with g|g
 ·exact g
 ·rw[List.getElem?_eq_none g] at h;cases h
def swT (N s j:Nat) (ls us:List Row) (r0 r1:Row):List Row:=(ls++us).set s (r0.1,stL N (cf r0.2) (cf r1.2) j) |>.set (s+1) (r1.1,stL N (cf r1.2) (cf r0.2) j)
variable {N s j : Nat} {ls us : List Row} {r0 r1 : Row}
theorem swT_0 (h0:ls[s]?=some r0) (h1:ls[s+1]?=some r1) (l0:r0.2.length=N) (l1:r1.2.length=N):ls++us=swT N s 0 ls us r0 r1:=by
 unfold swT
 rw[ck _ l0,ck _ l1]
 have a:=lwL (us:=us) h0
 have b:=lwL (us:=us) h1
 rw[←oN a rfl]
 exact oN b rfl
theorem eg : (swT N s j ls us r0 r1).length=ls.length+us.length:=by unfold swT;rw[List.length_set,List.length_set,List.length_append]
theorem fX (h1:ls[s+1]?=some r1):(swT N s j ls us r0 r1)[s]?=some (r0.1,stL N (cf r0.2) (cf r1.2) j):=by
 have:=qt h1
 unfold swT
 rw[List.getElem?_set_ne (by omega),List.getElem?_set_self (by rw[List.length_append];omega)]
theorem cj (h1:ls[s+1]?=some r1):(swT N s j ls us r0 r1)[s+1]?=some (r1.1,stL N (cf r1.2) (cf r0.2) j):=by
 have:=qt h1
 unfold swT
 rw[List.getElem?_set_self (by rw[List.length_set,List.length_append];omega)]
theorem jp {i:Nat} (e1:i≠s) (e2:i≠s+1):(swT N s j ls us r0 r1)[i]?=(ls++us)[i]?:=by
 unfold swT
 rw[List.getElem?_set_ne (by omega),List.getElem?_set_ne (by omega)]
theorem uX (hj:j<N) (h1:ls[s+1]?=some r1):((swT N s j ls us r0 r1).set (s+1) (r1.1,(stL N (cf r1.2) (cf r0.2) j).set j (cf r0.2 j))).set s (r0.1,(stL N (cf r0.2) (cf r1.2) j).set j (cf r1.2 j))=swT N s (j+1) ls us r0 r1:=by
 have hl:=qt h1
 rw[cl hj,cl hj]
 refine List.ext_getElem? fun i=>?_
 by_cases e1:i=s
 ·subst e1
  rw[List.getElem?_set_self (by rw[List.length_set,eg];omega),fX h1]
 ·rw[List.getElem?_set_ne (by omega)]
  by_cases e2:i=s+1
  ·subst e2
   rw[List.getElem?_set_self (by rw[eg];omega),cj h1]
  ·rw[List.getElem?_set_ne (by omega),jp e1 e2,jp e1 e2]
def swX (s i:Nat) (X Y:Nat→Int) (T:List Row):List Row:=T.mapIdx fun t r=>if s+1<t∧t<i then (r.1,(r.2.set (s+1) (X t)).set s (Y t)) else r
variable {i : Nat} {X Y : Nat → Int} {T : List Row}
theorem vX (t:Nat):(swX s i X Y T)[t]?=(T[t]?).map fun r=>if s+1<t∧t<i then (r.1,(r.2.set (s+1) (X t)).set s (Y t)) else r:=by
 unfold swX;rw[List.getElem?_mapIdx]
theorem swX_0 (h:i≤s+2):swX s i X Y T=T:=by
 refine List.ext_getElem? fun t=>?_
 rw[vX]
 cases T[t]? with
 | none=>rfl
 | some r=>show some (if _ then _ else r)=some r;rw[if_neg (by omega)]
theorem aq {r:Row} {t:Nat} (h:T[t]?=some r) (ht:i≤t∨t≤s+1):(swX s i X Y T)[t]?=some r:=by
 rw[vX,h];show some (if _ then _ else r)=some r;rw[if_neg (by omega)]
theorem kj : (swX s i X Y T).length=T.length:=by unfold swX;rw[List.length_mapIdx]
theorem uV {r:Row} (h:T[i]?=some r) (hi:s+1<i):(swX s i X Y T).set i (r.1,(r.2.set (s+1) (X i)).set s (Y i))=swX s (i+1) X Y T:=by
  refine List.ext_getElem? fun t=>?_
  by_cases e:t=i
  · subst e
    rw[List.getElem?_set_self (by rw[kj];exact qt h),vX,h]
    show _=some (if _ then _ else r)
    rw[if_pos (by omega)]
  · rw[List.getElem?_set_ne (by omega),vX,vX]
    cases T[t]? with
    | none=>rfl
    | some q=>
      show some (if _ then _ else q)=some (if _ then _ else q)
      by_cases g:s+1<t∧t<i
      · rw[if_pos g,if_pos (by omega)]
      · rw[if_neg g,if_neg (by omega)]
theorem OKY.subI {E:Env} {P:Program} {Γ:Ctx} {M:Mem} {x y:Operand} {T T':TypeId} {ty:TypeId} {pos:String} {after:Array Edge} {d:Option Tmp} {i j:Int} (hx:Has E Γ M x (isI i)) (hy:Has E Γ M y (isI j)) (h1 : -9223372036854775808≤i-j) (h2:i-j<9223372036854775808):OKY E P Γ M ⟨d,.binOp .sub T x y T',ty,pos,after,none⟩ (isI (i-j)):=fun a w F s=>by
 refine⟨.int .i64 (i-j),fun w'=>?_,wb h1 h2 w F⟩
 have g1:=evI hx a w F s
 have g2:=evI hy a w F s
 have g3:=eh (P:=P) (T:=T) .i64 i j w'
 simp only[execOp,g1,g2]
 simp[go_sem,g3]
 exact vO h1 h2
theorem zFZ {a b c d e f:Option Nat×MP} {rs rs':List Row} (h:rs=rs'):(a::b::c::d::e::f::rs.map qo:Mem)=a::b::c::d::e::f::rs'.map qo:=h▸rfl
theorem zCT (hll:ls.length=N) (h0:ls[s]?=some r0) (h1:ls[s+1]?=some r1) (l0:r0.2.length=N) (l1:r1.2.length=N):∃ls':List Row,ls'++us=swX s N X Y (swT N s j ls us r0 r1)∧ls'.length=ls.length∧ls'.map qQ=ls.map qQ:=by
  have hs:=qt h1
  have hlen:(swX s N X Y (swT N s j ls us r0 r1)).length=ls.length+us.length:=by rw[kj,eg]
  refine⟨(swX s N X Y (swT N s j ls us r0 r1)).take N,?_,by rw[List.length_take,hlen];omega,?_⟩
  · have e:us=(swX s N X Y (swT N s j ls us r0 r1)).drop N:=by
      refine List.ext_getElem? fun t=>?_
      rw[List.getElem?_drop,vX,jp (by omega) (by omega),List.getElem?_append_right (by omega),show N+t-ls.length=t by omega]
      cases us[t]? with
      | none=>rfl
      | some r=>show some r=some (if _ then _ else r);rw[if_neg (by omega)]
    conv=>lhs;rw[e]
    have e2:(swX s N X Y (swT N s j ls ((swX s N X Y (swT N s j ls us r0 r1)).drop N) r0 r1)).take N=(swX s N X Y (swT N s j ls us r0 r1)).take N:=by rw[←e]
    rw[e2]
    exact List.take_append_drop _ _
  · refine List.ext_getElem? fun t=>?_
    rw[List.getElem?_map,List.getElem?_map,List.getElem?_take]
    rcases Nat.lt_or_ge t N with g|g
    · rw[if_pos g,vX]
      by_cases e1:t=s
      · subst e1
        rw[fX h1,h0]
        show some (qQ (if _ then _ else _))=some (qQ r0)
        rw[if_neg (by omega)]
        show some (ze r0.1 ((stL N (cf r0.2) (cf r1.2) j).map nz).length)=some (ze r0.1 (r0.2.map nz).length)
        rw[List.length_map,List.length_map,xD,l0]
      · by_cases e2:t=s+1
        · subst e2
          rw[cj h1,h1]
          show some (qQ (if _ then _ else _))=some (qQ r1)
          rw[if_neg (by omega)]
          show some (ze r1.1 ((stL N (cf r1.2) (cf r0.2) j).map nz).length)=some (ze r1.1 (r1.2.map nz).length)
          rw[List.length_map,List.length_map,xD,l1]
        · rw[jp e1 e2,List.getElem?_append_left (by omega)]
          cases ls[t]? with
          | none=>rfl
          | some r=>
            show some (qQ (if _ then _ else r))=some (qQ r)
            split
            · show some (ze r.1 ((((r.2.set (s+1) (X t)).set s (Y t))).map nz).length)=some (ze r.1 (r.2.map nz).length)
              rw[List.length_map,List.length_map,List.length_set,List.length_set]
            · rfl
    · rw[if_neg (by omega),List.getElem?_eq_none (by omega)]
      try rfl
theorem zEC {bw M k:Nat} {gd:Gr (Bool×List Nat)} {gl gu:Gr Row} {ds:List Int} {ls ls' us' T:List Row} {nu:Nat} {m n:Bool} {ps qs:List Nat} {z e:Int} (hu:us'.length=nu) (e2:ls'.length=ls.length) (e3:ls'.map qQ=ls.map qQ) (e1:ls'++us'=T):
  ((some bw,zC [isI (M:Int),ze gd (ds.map nz).length,ze gl ls.length,ze gu nu,isB m,zD ps,isB n,zD qs,isI z])::zj zc gd ((ds.map nz).set k (nz e))::grM qQ gl ls::grM qQ gu us'::T.map qo:Mem)=lwM bw M gd gl gu (ds.set k e) ls' us' m n ps qs z:=by
 subst hu
 subst e1
 have h1:(ds.map nz).set k (nz e)=(ds.set k e).map nz:=List.map_set.symm
 have h2:grM qQ gl ls=grM qQ gl ls':=by unfold grM;rw[List.map_append,List.map_append,e3]
 have h3:(ds.map nz).length=((ds.set k e).map nz).length:=by rw[List.length_map,List.length_map,List.length_set]
 rw[h1,h2,h3,←e2]
end Go.En
namespace Go.Ll
open Go.Dt Go.Hp Go.Pz Go.En Go.Nt
variable {N s : Nat} {ls us ls' us' : List Row} {r0 r1 : Row} {X Y : Nat → Int}
theorem qg {i:Nat} {r:Row} (h:ls[i]?=some r) (j:Nat):mL (ls.map Prod.snd) i j=cf r.2 j:=jy (by rw[List.getElem?_map,h];rfl) j
theorem jA (e1:ls'++us'=swX s N X Y (swT N s s ls us r0 r1)) (e2:ls'.length=N) {i:Nat} (hi:i<N):ls'[i]?=(swX s N X Y (swT N s s ls us r0 r1))[i]?:=by
 rw[←e1,List.getElem?_append_left (by omega)]
theorem se (hll:ls.length=N) (h0:ls[s]?=some r0) (h1:ls[s+1]?=some r1) (hlr:∀r∈ls,r.2.length=N) (e1:ls'++us'=swX s N X Y (swT N s s ls us r0 r1)) (e2:ls'.length=N):
  mL (ls'.map Prod.snd) (s+1) s=mL (ls.map Prod.snd) (s+1) s∧(∀j,j<s→mL (ls'.map Prod.snd) (s+1) j=mL (ls.map Prod.snd) s j∧mL (ls'.map Prod.snd) s j=mL (ls.map Prod.snd) (s+1) j)∧
   (∀i j,i≠s→i≠s+1→j≠s→j≠s+1→mL (ls'.map Prod.snd) i j=mL (ls.map Prod.snd) i j)∧∀i,s+1<i→i<N→mL (ls'.map Prod.snd) i (s+1)=X i∧mL (ls'.map Prod.snd) i s=Y i:=by
 have hs:=qt h1
 have a0:ls'[s]?=some (r0.1,stL N (cf r0.2) (cf r1.2) s):=by rw[jA e1 e2 (by omega)];exact aq (fX h1) (.inr (by omega))
 have a1:ls'[s+1]?=some (r1.1,stL N (cf r1.2) (cf r0.2) s):=by rw[jA e1 e2 (by omega)];exact aq (cj h1) (.inr (by omega))
 refine⟨?_,fun j hj=>⟨?_,?_⟩,fun i j i1 i2 j1 j2=>?_,fun i i1 i2=>?_⟩
 ·rw[qg a1,qg h1];show cf (stL N (cf r1.2) (cf r0.2) s) s=_;rw[jq (by omega),if_neg (by omega)]
 ·rw[qg a1,qg h0];show cf (stL N (cf r1.2) (cf r0.2) s) j=_;rw[jq (by omega),if_pos hj]
 ·rw[qg a0,qg h1];show cf (stL N (cf r0.2) (cf r1.2) s) j=_;rw[jq (by omega),if_pos hj]
 ·rcases Nat.lt_or_ge i N with g|g
  ·obtain⟨r,hr⟩:∃r,ls[i]?=some r:=⟨_,List.getElem?_eq_getElem (by omega)⟩
   have hT:(swT N s s ls us r0 r1)[i]?=some r:=(jp i1 i2).trans (lwL hr)
   have hx:ls'[i]?=some (if s+1<i∧i<N then (r.1,(r.2.set (s+1) (X i)).set s (Y i)) else r):=by rw[jA e1 e2 g,vX,hT];rfl
   rw[qg hx,qg hr]
   split
   ·show cf ((r.2.set (s+1) (X i)).set s (Y i)) j=_
    rw[xq (by omega),xq (by omega)]
   ·rfl
  ·unfold mL
   rw[List.getD_eq_getElem?_getD,List.getD_eq_getElem?_getD,List.getElem?_eq_none (by rw[List.length_map];omega),List.getElem?_eq_none (by rw[List.length_map];omega)]
 ·obtain⟨r,hr⟩:∃r,ls[i]?=some r:=⟨_,List.getElem?_eq_getElem (by omega)⟩
  have hl:=hlr r (List.mem_of_getElem? hr)
  have hT:(swT N s s ls us r0 r1)[i]?=some r:=(jp (by omega) (by omega)).trans (lwL hr)
  have hx:ls'[i]?=some (r.1,(r.2.set (s+1) (X i)).set s (Y i)):=by
   rw[jA e1 e2 i2,vX,hT]
   show some (if _ then _ else r)=_
   rw[if_pos ⟨i1,i2⟩]
  rw[qg hx,qg hx]
  refine⟨?_,?_⟩
  ·show cf ((r.2.set (s+1) (X i)).set s (Y i)) (s+1)=_
   rw[xq (by omega),wc _ (by omega)];exact if_pos rfl
  ·show cf ((r.2.set (s+1) (X i)).set s (Y i)) s=_
   rw[wc _ (by rw[List.length_set];omega)];exact if_pos rfl
end Go.Ll
namespace Go.Ll
open Go.Dt Go.Hp Go.Pz Go.En Go.Nt
def ZD (R:Nat) (L:List (List Int)):Prop:=∀i j,i<R→i≤j→mL L i j=0
theorem wE {l:List Int} {j:Nat} (h:l.length≤j):cf l j=0:=by
 unfold cf;rw[List.getD_eq_getElem?_getD,List.getElem?_eq_none h];rfl
theorem ZD.less {R:Nat} {L:List (List Int)} (h:ZD R L) {i k:Nat} {r rk:List Int} {c x:Int} (hi:L[i]?=some r) (hki:k<i):ZD R (L.set i (eU R k r rk c x)):=fun t j ht hj=>by
 rw[vw (qt hi)]
 by_cases e:t=i
 ·subst e
  rw[if_pos rfl]
  have h0:=h t j ht hj
  rw[jy hi] at h0
  rcases Nat.lt_or_ge j R with g|g
  ·unfold eU
   rw[jq g,if_neg (by omega),xq (by omega)];exact h0
  ·unfold eU
   exact wE (by rw[xD];exact g)
 ·rw[if_neg e];exact h t j ht hj
end Go.Ll
namespace Go.Ll
open Go.Dt Go.Hp Go.Pz Go.En Go.Nt Go.Mz
def StB (p q:Int) (ds:List Int) (L:List (List Int)) (s:Nat):Prop:=0≤ql (q*(cf ds s*cf ds (s+2)+mL L (s+1) s*mL L (s+1) s)) (p*(cf ds (s+1)*cf ds (s+1)))
inductive LR (n R:Nat) (B:zI) (D N p q:Int) (ds0:List Int) (L0 U0:List (List Int)):Nat→List Int→List (List Int)→List (List Int)→Nat→Prop
 | start:LR n R B D N p q ds0 L0 U0 0 ds0 L0 U0 1
 | less {c k j : Nat} {ds : List Int} {L U : List (List Int)} {w : zI} {r rk u uk : List Int} (h : LR n R B D N p q ds0 L0 U0 c ds L U k) (hj : RJ n R B D N ds L U w k (j + 1)) (hjk : j < k) (hk : k < R) (hr : L[k]? = some r) (hrk : L[j]? = some rk) (hu : U[k]? = some u) (huk : U[j]? = some uk) (hrR : r.length = R) :
   LR n R B D N p q ds0 L0 U0 c ds (L.set k (eU R j r rk (vR (cf r j) (cf ds (j+1))) (cf r j-vR (cf r j) (cf ds (j+1))*cf ds (j+1)))) (U.set k (iQ R u uk (vR (cf r j) (cf ds (j+1))))) k
 | swap {c s : Nat} {ds : List Int} {L U L' : List (List Int)} {w w' : zI} {e : Int} {u0 u1 : List Int} (h : LR n R B D N p q ds0 L0 U0 c ds L U (s + 1)) (hj : RJ n R B D N ds L U w (s + 1) s) (hs : s + 1 < R) (h0 : U[s]? = some u0) (h1 : U[s + 1]? = some u1) (hn : ¬ StB p q ds L s) (he0 : 0 < e) (he : e < cf ds (s + 1)) (hde : cf ds (s + 1) * e = cf ds s * cf ds (s + 2) + mL L (s + 1) s * mL L (s + 1) s)
   (hst:∀t,t+1<s+1→StB p q ds L t) (hl:∀i j,i<s→mL L' i j=mL L i j) (hj':RJ n R B D N (ds.set (s+1) e) L' ((U.set (s+1) u0).set s u1) w' (max 1 s) (max 1 s)) (hd:ds.length=R+1):
   LR n R B D N p q ds0 L0 U0 (c+1) (ds.set (s+1) e) L' ((U.set (s+1) u0).set s u1) (max 1 s)
 | next {c k:Nat} {ds:List Int} {L U:List (List Int)} {w:zI} (h:LR n R B D N p q ds0 L0 U0 c ds L U k) (hj:RJ n R B D N ds L U w k 0) (hk:k<R) (hst:∀s,k=s+1→StB p q ds L s):LR n R B D N p q ds0 L0 U0 c ds L U (k+1)
structure SZ (n R K:Nat) (B:zI) (D N Q:Int) (d0:Nat→Int) (w0:zI):Prop where
 od:OD n R B d0 w0
 hd0:∀t,t≤R→d0 t≤D
 hB:∀i,i<R→ip n (B i) (B i)≤N
 hQ1:1≤Q
 hQ:D*D*(N*(10*(D*D*N))^R)≤Q*Q
 hK:(List.length (zA ((Q*((R:Int)+1))^(R+1)).natAbs))≤K
variable {n R K : Nat} {B : zI} {D N Q p q : Int} {d0 : Nat → Int} {w0 w : zI} {ds ds0 : List Int} {L U L0 U0 : List (List Int)} {k j c : Nat}
theorem bD {x Q:Int} (hQ:0≤Q) (h:x*x≤Q*Q) : -Q≤x∧x≤Q:=by
 constructor
 ·rcases Int.lt_or_le x (-Q) with g|g
  ·exfalso
   have h1:=Int.mul_pos (show 0 < -Q-x by omega) (show 0<Q-x by omega)
   grind
  ·exact g
 ·rcases Int.lt_or_le Q x with g|g
  ·exfalso
   have h1:=Int.mul_pos (show 0<x-Q by omega) (show 0<x+Q by omega)
   grind
  ·exact g
theorem SZ.T1 (z:SZ n R K B D N Q d0 w0):1≤Q*((R:Int)+1)∧Q≤Q*((R:Int)+1):=by
 have:=z.hQ1
 have h:Q*1≤Q*((R:Int)+1):=Int.mul_le_mul_of_nonneg_left (by omega) (by omega)
 omega
theorem yM {T:Int} (h:1≤T) (a:Nat):∀m:Nat,T^a≤T^(a+m)
  | 0=>Int.le_refl _
  | m+1=>by
    have h1:=yM h a m
    have h2:=cN h (a+m)
    have h3:T^(a+m)*1≤T^(a+m)*T:=Int.mul_le_mul_of_nonneg_left h (by omega)
    rw[show a+(m+1)=a+m+1 by omega,Int.pow_succ];omega
theorem SZ.nwT (z:SZ n R K B D N Q d0 w0) {x:Int} {m:Nat} (hm:m≤R+1) (h1 : -((Q*((R:Int)+1))^m)≤x) (h2:x≤(Q*((R:Int)+1))^m):(List.length (zA x.natAbs))≤K:=by
 refine Nat.le_trans (qF ?_) z.hK
 have h3:=yM z.T1.1 m (R+1-m)
 rw[show m+(R+1-m)=R+1 by omega] at h3
 have h4:=cN z.T1.1 (R+1)
 omega
theorem SZ.nwQ (z:SZ n R K B D N Q d0 w0) {x:Int} (h1 : -Q≤x) (h2:x≤Q):(List.length (zA x.natAbs))≤K:=by
 have:=z.T1.2
 refine z.nwT (m:=1) (by omega) ?_ ?_ <;> (rw[show (Q*((R:Int)+1))^1=Q*((R:Int)+1) from Int.pow_one _];omega)
theorem RJ.nk (h:RJ n R B D N ds L U w k j) {i:Nat} (hi:i<R):ip n (uB R U B i) (uB R U B i)≤N*(10*(D*D*N))^R:=by
 by_cases g:i=k
 ·subst g
  refine Int.le_trans (h.cand hi) ?_
  have:∀m,N*(10*(D*D*N))^(R-j)≤N*(10*(D*D*N))^(R-j+m):=fun m=>by
   induction m with
   | zero=>exact Int.le_refl _
   | succ m ih=>exact Int.le_trans ih (h.up (R-j+m))
  have:=this (R-(R-j))
  rwa [show R-j+(R-(R-j))=R by omega] at this
 ·exact Int.le_trans (h.nrm i hi g) (h.n_le _)
theorem RJ.d_nw (h:RJ n R B D N ds L U w k j) (z:SZ n R K B D N Q d0 w0) (hd:ds.length=R+1):Bd ds K:=fun i=>by
 rcases Nat.lt_or_ge i (R+1) with g|g
 ·have h1:=h.li.od.pos i (by omega)
  have h2:=h.hd i (by omega)
  have hD:=h.d1
  have hq:=z.hQ
  have hn:1≤N*(10*(D*D*N))^R:=by have:=h.n_le R;have:=h.hN1;omega
  have h3:D*D*1≤D*D*(N*(10*(D*D*N))^R):=Int.mul_le_mul_of_nonneg_left hn (Int.le_of_lt (Int.mul_pos (by omega) (by omega)))
  have hQ:=z.hQ1
  have:=(bD (show 0≤Q by omega) (show D*D≤Q*Q by omega)).2
  exact z.nwQ (by omega) (by omega)
 ·rw[wE (by omega),Int.natAbs_zero,zJ];exact Nat.zero_le _
theorem RJ.l_nw (h:RJ n R B D N ds L U w k j) (z:SZ n R K B D N Q d0 w0) (zd:ZD R L) {r:List Int} (hr:r∈L):Bd r K:=fun t=>by
 obtain⟨i,hi⟩:=List.getElem?_of_mem hr
 have hiL:=qt hi
 rw[h.li.hL] at hiL
 rw[←jy hi]
 rcases Nat.lt_or_ge t i with g|g
 ·have h1:=h.lo_sq hiL g
  have hQ:=z.hQ1
  have:=bD (show 0≤Q by omega) (Int.le_trans h1 z.hQ)
  exact z.nwQ this.1 this.2
 ·rw[zd i t hiL g,Int.natAbs_zero,zJ];exact Nat.zero_le _
theorem sO (z:SZ n R K B D N Q d0 w0) {r:Nat} (hr:r<R) {v:Nat→Int} (hv:ip n v v≤N*(10*(D*D*N))^R) : -Q≤ip n (w0 r) v∧ip n (w0 r) v≤Q:=by
 have hQ:=z.hQ1
 refine bD (by omega) (Int.le_trans ?_ z.hQ)
 have hc:=pR n (w0 r) v
 have hw:=z.od.sq hr
 have d0p:=z.od.pos r (by omega)
 have d1p:=z.od.pos (r+1) (by omega)
 have hd0:=z.hd0 r (by omega)
 have hd1:=z.hd0 (r+1) (by omega)
 have h3:d0 r*d0 (r+1)≤D*D:=Int.le_trans (Int.mul_le_mul_of_nonneg_right hd0 (by omega)) (Int.mul_le_mul_of_nonneg_left hd1 (by omega))
 have hnn:=xF n v
 rw[hw] at hc
 have hDD:=Int.mul_pos (show 0<D by omega) (show 0<D by omega)
 exact Int.le_trans hc (Int.le_trans (Int.mul_le_mul_of_nonneg_right h3 hnn) (Int.mul_le_mul_of_nonneg_left hv (by omega)))
theorem RJ.u_nw (h:RJ n R B D N ds L U w k j) (z:SZ n R K B D N Q d0 w0) {r:List Int} (hr:r∈U) (hl:r.length=R):Bd r K:=fun t=>by
 obtain⟨i,hi⟩:=List.getElem?_of_mem hr
 have hiU:=qt hi
 rw[h.li.hU] at hiU
 rcases Nat.lt_or_ge t R with g|g
 ·rw[←jy hi]
  have:=pk z.od (U:=U) (i:=i) z.hQ1 (fun r hr=>sO z hr (h.nk hiU)) (fun s r _ hs=>sO z (by omega) (by
   have h1:=h.n_le R
   exact Int.le_trans (z.hB s hs) h1)) R t (by omega) g
  exact z.nwT (m:=R) (by omega) this.1 this.2
 ·rw[wE (by omega),Int.natAbs_zero,zJ];exact Nat.zero_le _
end Go.Ll
namespace Go.Ll
open Go.Dt Go.Hp Go.Pz Go.En Go.Nt Go.Mz
structure RS (n R:Nat) (B:zI) (D N p q:Int) (ds0:List Int) (L0 U0:List (List Int)) (c:Nat) (ds:List Int) (ls us:List Row) (k j:Nat):Prop where
 ex:∃w,RJ n R B D N ds (ls.map Prod.snd) (us.map Prod.snd) w k j
 lr:LR n R B D N p q ds0 L0 U0 c ds (ls.map Prod.snd) (us.map Prod.snd) k
 dl:ds.length=R+1
 hlr:∀r∈ls,r.2.length=R
 hur:∀r∈us,r.2.length=R
 zd:ZD R (ls.map Prod.snd)
 st:∀t,t+1<k→StB p q ds (ls.map Prod.snd) t
variable {n R K : Nat} {B : zI} {D N Q p q : Int} {d0 : Nat → Int} {w0 : zI} {ds ds0 : List Int} {L0 U0 : List (List Int)} {k j c : Nat} {ls us ls' us' : List Row} {r rk u uk : Row}
theorem RS.ll (h:RS n R B D N p q ds0 L0 U0 c ds ls us k j):ls.length=R:=by obtain⟨w,hw⟩:=h.ex;have:=hw.li.hL;rwa [List.length_map] at this
theorem RS.ul (h:RS n R B D N p q ds0 L0 U0 c ds ls us k j):us.length=R:=by obtain⟨w,hw⟩:=h.ex;have:=hw.li.hU;rwa [List.length_map] at this
theorem RS.db (h:RS n R B D N p q ds0 L0 U0 c ds ls us k j) (z:SZ n R K B D N Q d0 w0):Bd ds K:=by obtain⟨w,hw⟩:=h.ex;exact hw.d_nw z h.dl
theorem RS.lb (h:RS n R B D N p q ds0 L0 U0 c ds ls us k j) (z:SZ n R K B D N Q d0 w0):∀r∈ls,Bd r.2 K:=fun r hr=>by obtain⟨w,hw⟩:=h.ex;exact hw.l_nw z h.zd (List.mem_map_of_mem hr)
theorem RS.ub (h:RS n R B D N p q ds0 L0 U0 c ds ls us k j) (z:SZ n R K B D N Q d0 w0):∀r∈us,Bd r.2 K:=fun r hr=>by obtain⟨w,hw⟩:=h.ex;exact hw.u_nw z (List.mem_map_of_mem hr) (h.hur r hr)
theorem RS.dp (h:RS n R B D N p q ds0 L0 U0 c ds ls us k j) {t:Nat} (ht:t≤R):0<cf ds t:=by obtain⟨w,hw⟩:=h.ex;exact hw.li.od.pos t ht
theorem vd {i:Nat} (h:ls[i]?=some r):(ls.map Prod.snd)[i]?=some r.2:=by rw[List.getElem?_map,h];rfl
theorem StB.of {s:Nat} {L L':List (List Int)} (h:StB p q ds L s) (e:mL L' (s+1) s=mL L (s+1) s):StB p q ds L' s:=by unfold StB;rw[e];exact h
theorem RS.less (h:RS n R B D N p q ds0 L0 U0 c ds ls us k (j+1)) (hj:j<k) (hk:k<R) (hr:ls[k]?=some r) (hrk:ls[j]?=some rk) (hu:us[k]?=some u) (huk:us[j]?=some uk) (hL:zGP R k j ds ls us r rk u uk ls' us'):
  RS n R B D N p q ds0 L0 U0 c ds ls' us' k j∧∀t,j<t→mL (ls'.map Prod.snd) k t=mL (ls.map Prod.snd) k t:=by
 obtain⟨w,hw⟩:=h.ex
 rcases hL with ⟨hs,rfl,rfl⟩|⟨hs,rfl,rfl⟩
 ·exact⟨{ h with ex:=⟨w,hw.stay hj hk (vd hr) hs⟩ },fun _ _=>rfl⟩
 ·have hrR:=h.hlr r (List.mem_of_getElem? hr)
  have e1:(ls.set k (r.1,eU R j r.2 rk.2 (vR (cf r.2 j) (cf ds (j+1))) (cf r.2 j-vR (cf r.2 j) (cf ds (j+1))*cf ds (j+1)))).map Prod.snd=(ls.map Prod.snd).set k (eU R j r.2 rk.2 (vR (cf r.2 j) (cf ds (j+1))) (cf r.2 j-vR (cf r.2 j) (cf ds (j+1))*cf ds (j+1))):=List.map_set
  have e2:(us.set k (u.1,iQ R u.2 uk.2 (vR (cf r.2 j) (cf ds (j+1))))).map Prod.snd=(us.map Prod.snd).set k (iQ R u.2 uk.2 (vR (cf r.2 j) (cf ds (j+1)))):=List.map_set
  refine⟨{ ex:=⟨w,?_⟩,lr:=?_,dl:=h.dl,hlr:=fun x hx=>?_,hur:=fun x hx=>?_,zd:=?_,st:=fun t ht=>StB.of (h.st t ht) (by rw[e1,vw (by rw[List.length_map];exact qt hr),if_neg (by omega)]) },fun t ht=>?_⟩
  ·rw[e1,e2];exact hw.less hj hk (vd hr) (vd hrk) (vd hu) (vd huk) hrR
  ·rw[e1,e2];exact .less h.lr hw hj hk (vd hr) (vd hrk) (vd hu) (vd huk) hrR
  ·rcases List.mem_or_eq_of_mem_set hx with g|g
   ·exact h.hlr x g
   ·subst g;exact xD _ _ _ _
  ·rcases List.mem_or_eq_of_mem_set hx with g|g
   ·exact h.hur x g
   ·subst g;exact xD _ _ _ _
  ·rw[e1];exact h.zd.less (vd hr) hj
  ·rw[e1,vw (by rw[List.length_map];exact qt hr),if_pos rfl,jy (vd hr)]
   rcases Nat.lt_or_ge t R with g|g
   ·unfold eU
    rw[jq g,if_neg (by omega),xq (by omega)]
   ·rw[wE (by show (stL _ _ _ _).length≤t;rw[xD];exact g),wE (by omega)]
theorem RS.next (h:RS n R B D N p q ds0 L0 U0 c ds ls us k 0) (hk:k<R) (hst:∀s,k=s+1→StB p q ds (ls.map Prod.snd) s):RS n R B D N p q ds0 L0 U0 c ds ls us (k+1) (k+1):=by
 obtain⟨w,hw⟩:=h.ex
 exact { h with ex:=⟨w,hw.next hk⟩,lr:=.next h.lr hw hk hst,st:=fun t ht=>by rcases Nat.lt_or_ge (t+1) k with g|g;exact h.st t g;exact hst t (by omega) }
theorem tD {x y:Int} (h:0<x):(List.length (zA y.natAbs))≤(List.length (zA (x*y).natAbs)):=by
 refine qF ?_
 rw[Int.natAbs_mul]
 exact Nat.le_mul_of_pos_left _ (by omega)
section
variable {s : Nat} {r0 r1 q0 q1 : Row} {X Y : Nat → Int}
theorem uW (hll:ls.length=R) (h0:ls[s]?=some r0) (h1:ls[s+1]?=some r1) (hlr:∀r∈ls,r.2.length=R) (e1:ls'++us=swX s R X Y (swT R s s ls us r0 r1)) (e2:ls'.length=R):∀r∈ls',r.2.length=R:=fun r hr=>by
 obtain⟨i,hi⟩:=List.getElem?_of_mem hr
 have hiR:=qt hi
 have hs:=qt h1
 rw[jA e1 e2 (by omega),vX] at hi
 by_cases g1:i=s
 ·subst g1
  rw[fX h1] at hi
  have hi:some (if _ then _ else _)=some r:=hi
  rw[if_neg (by omega)] at hi
  cases hi;exact xD _ _ _ _
 ·by_cases g2:i=s+1
  ·subst g2
   rw[cj h1] at hi
   have hi:some (if _ then _ else _)=some r:=hi
   rw[if_neg (by omega)] at hi
   cases hi;exact xD _ _ _ _
  ·obtain⟨r',hr'⟩:∃r,ls[i]?=some r:=⟨_,List.getElem?_eq_getElem (by omega)⟩
   have hl:=hlr r' (List.mem_of_getElem? hr')
   rw[jp g1 g2,lwL hr'] at hi
   have hi:some (if s+1<i∧i<R then (r'.1,(r'.2.set (s+1) (X i)).set s (Y i)) else r')=some r:=hi
   split at hi
   ·cases hi;show ((r'.2.set _ _).set _ _).length=R;rw[List.length_set,List.length_set];exact hl
   ·cases hi;exact hl
theorem RS.swap (h:RS n R B D N p q ds0 L0 U0 c ds ls us (s+1) s) (z:SZ n R K B D N Q d0 w0) (hs:s+1<R) (h0:ls[s]?=some r0) (h1:ls[s+1]?=some r1) (g0:us[s]?=some q0) (g1:us[s+1]?=some q1) (hq:0<q) (hpq:p<q) (hst:¬StB p q ds (ls.map Prod.snd) s):
    ∃(e:Int) (X Y:Nat→Int),cf ds (s+1)*e=cf ds s*cf ds (s+2)+cf r1.2 s*cf r1.2 s∧(∀i r,s+1<i→ls[i]?=some r→cf ds (s+1)*X i=cf ds (s+2)*cf r.2 s-cf r1.2 s*cf r.2 (s+1)∧cf ds (s+2)*Y i=e*cf r.2 (s+1)+cf r1.2 s*X i)∧
      (∀i,(List.length (zA (X i).natAbs))≤5*K+10)∧(List.length (zA e.natAbs))≤5*K+10∧(e<cf ds (s+1)∧0<e)∧
      ∀ls',ls'++(us.set (s+1) q0).set s q1=swX s R X Y (swT R s s ls ((us.set (s+1) q0).set s q1) r0 r1)→RS n R B D N p q ds0 L0 U0 (c+1) (ds.set (s+1) e) ls' ((us.set (s+1) q0).set s q1) (max 1 s) (max 1 s):=by
  obtain⟨w,hw⟩:=h.ex
  have hl1:mL (ls.map Prod.snd) (s+1) s=cf r1.2 s:=qg h1 s
  obtain⟨e,X,Y,he0,hde,hXY,hfin⟩:=hw.swap h.dl hs (vd g0) (vd g1)
  have hd1:=h.dp (show s+1≤R by omega)
  have hd2:=h.dp (show s+2≤R by omega)
  have hed:e<cf ds (s+1):=sf hq hpq hd1 hde hst
  have hdb:=h.db z
  have hll:=h.ll
  refine⟨e,fun i=>if s+1<i∧i<R then X i else 0,Y,by rw[hde,hl1],fun i r hi hr=>?_,fun i=>?_,?_,⟨hed,he0⟩,fun ls' e1=>?_⟩
  · have hiR:=qt hr
    have:=hXY i hi (by omega)
    rw[hl1,qg hr,qg hr] at this
    simp only[if_pos (show s+1<i∧i<R by omega)]
    exact this
  · show (List.length (zA (if s+1<i∧i<R then X i else 0).natAbs))≤_
    split
    · rename_i hi
      obtain⟨r,hr⟩:∃r,ls[i]?=some r:=⟨_,List.getElem?_eq_getElem (by omega)⟩
      have hb:=h.lb z r (List.mem_of_getElem? hr)
      have hb1:=h.lb z r1 (List.mem_of_getElem? h1)
      have x1:=(hXY i hi.1 hi.2).1
      rw[hl1,qg hr,qg hr] at x1
      have x2:=tD (y:=X i) hd1
      rw[x1] at x2
      have y1:=qA (cf ds (s+2)) (cf r.2 s)
      have y2:=qA (cf r1.2 s) (cf r.2 (s+1))
      have y3:=gD (cf ds (s+2)*cf r.2 s) (cf r1.2 s*cf r.2 (s+1))
      have z1:=hdb (s+2)
      have z2:=hb s
      have z3:=hb1 s
      have z4:=hb (s+1)
      omega
    · rw[Int.natAbs_zero,zJ];exact Nat.zero_le _
  · have x1:=qF (show e.natAbs≤(cf ds (s+1)).natAbs by omega)
    have x2:=hdb (s+1)
    omega
  · have e1':ls'++(us.set (s+1) q0).set s q1=swX s R X Y (swT R s s ls ((us.set (s+1) q0).set s q1) r0 r1):=by
      rw[e1]
      refine List.ext_getElem? fun i=>?_
      rw[vX,vX]
      cases (swT R s s ls ((us.set (s+1) q0).set s q1) r0 r1)[i]? with
      | none=>rfl
      | some x=>
        show some (if _ then _ else x)=some (if _ then _ else x)
        by_cases g:s+1<i∧i<R
        · rw[if_pos g,if_pos g];simp only[if_pos g]
        · rw[if_neg g,if_neg g]
    have e2:ls'.length=R:=by
      have:=congrArg List.length e1'
      rw[List.length_append,kj,eg] at this
      omega
    obtain⟨c1,c2,c3,c4⟩:=se hll h0 h1 h.hlr e1' e2
    have eu:((us.set (s+1) q0).set s q1).map Prod.snd=((us.map Prod.snd).set (s+1) q0.2).set s q1.2:=by rw[List.map_set,List.map_set]
    obtain⟨w',hw'⟩:=hfin hed (ls'.map Prod.snd) (by rw[List.length_map,e2]) c1 c2 c3 c4
    have hrows:=uW hll h0 h1 h.hlr e1' e2
    refine { ex:=⟨w',by rw[eu];exact hw'⟩,lr:=?_,dl:=by rw[List.length_set];exact h.dl,hlr:=hrows,hur:=fun x hx=>?_,zd:=fun i j hi hij=>?_,st:=fun t ht=>?_ }
    · rw[eu]
      refine .swap h.lr hw hs (vd g0) (vd g1) hst he0 hed hde h.st (fun i j hi=>?_) hw' h.dl
      by_cases a:j=s
      · subst a
        rw[h.zd i j (by omega) (by omega)]
        obtain⟨r,hr⟩:∃r,ls[i]?=some r:=⟨_,List.getElem?_eq_getElem (by omega)⟩
        have hx:ls'[i]?=some r:=by
          rw[jA e1' e2 (by omega)]
          exact aq ((jp (by omega) (by omega)).trans (lwL hr)) (.inr (by omega))
        rw[qg hx,←qg hr];exact h.zd i j (by omega) (by omega)
      · by_cases a2:j=s+1
        · subst a2
          obtain⟨r,hr⟩:∃r,ls[i]?=some r:=⟨_,List.getElem?_eq_getElem (by omega)⟩
          have hx:ls'[i]?=some r:=by
            rw[jA e1' e2 (by omega)]
            exact aq ((jp (by omega) (by omega)).trans (lwL hr)) (.inr (by omega))
          rw[qg hx,qg hr]
        · exact c3 i j (by omega) (by omega) a a2
    · rcases List.mem_or_eq_of_mem_set hx with g|g
      · rcases List.mem_or_eq_of_mem_set g with g|g
        · exact h.hur x g
        · subst g;exact h.hur _ (List.mem_of_getElem? g0)
      · subst g;exact h.hur _ (List.mem_of_getElem? g1)
    · rcases Nat.lt_or_ge j R with jR|jR
      · by_cases a1:i=s+1
        · subst a1
          rw[qg (r:=(r1.1,stL R (cf r1.2) (cf r0.2) s)) (by rw[jA e1' e2 (by omega)];exact aq (cj h1) (.inr (by omega)))]
          show cf (stL R (cf r1.2) (cf r0.2) s) j=0
          rw[jq jR,if_neg (by omega),←qg h1];exact h.zd (s+1) j (by omega) hij
        · by_cases a2:i=s
          · subst a2
            rw[qg (r:=(r0.1,stL R (cf r0.2) (cf r1.2) i)) (by rw[jA e1' e2 (by omega)];exact aq (fX h1) (.inr (by omega)))]
            show cf (stL R (cf r0.2) (cf r1.2) i) j=0
            rw[jq jR,if_neg (by omega),←qg h0];exact h.zd i j (by omega) hij
          · rcases Nat.lt_or_ge i s with a3|a3
            · obtain⟨r,hr⟩:∃r,ls[i]?=some r:=⟨_,List.getElem?_eq_getElem (by omega)⟩
              have hx:ls'[i]?=some r:=by
                rw[jA e1' e2 (by omega)]
                exact aq ((jp (by omega) (by omega)).trans (lwL hr)) (.inr (by omega))
              rw[qg hx,←qg hr];exact h.zd i j (by omega) hij
            · rw[c3 i j a2 a1 (by omega) (by omega)];exact h.zd i j hi hij
      · obtain⟨r,hr⟩:∃r,ls'[i]?=some r:=⟨_,List.getElem?_eq_getElem (by omega)⟩
        rw[qg hr]
        exact wE (by rw[hrows r (List.mem_of_getElem? hr)];exact jR)
    · have h9:=h.st t (by omega)
      have h8:=wc (l:=ds) e (show s+1<ds.length by rw[h.dl];omega)
      unfold StB at h9⊢
      rw[h8,c3 (t+1) t (by omega) (by omega) (by omega) (by omega)]
      simp only[if_neg (show ¬t=s+1 by omega),if_neg (show ¬t+1=s+1 by omega),if_neg (show ¬t+2=s+1 by omega)]
      exact h9
end
def muR (R:Nat) (ds:List Int) (k:Nat):Nat:=2*(Dt.sm (R+1) (cf ds)).toNat+(R-k)
theorem mc (h:k<R):muR R ds (k+1)<muR R ds k:=by unfold muR;omega
theorem ud {f:Nat→Int}:∀m:Nat,(∀t,t<m→0≤f t)→0≤Dt.sm m f
  | 0,_=>Int.le_refl _
  | m+1,h=>by
    have h1:=ud m fun t ht=>h t (by omega)
    have h2:=h m (by omega)
    show 0≤Dt.sm m f+f m
    omega
theorem mb {s:Nat} {e:Int} (h:RS n R B D N p q ds0 L0 U0 c ds ls us k j) (hs:s+1<R) (he:e<cf ds (s+1)∧0<e):muR R (ds.set (s+1) e) (max 1 s)<muR R ds (s+1):=by
 have e1:Dt.sm (R+1) (cf (ds.set (s+1) e))=Dt.sm (R+1) (cf ds)+(e-cf ds (s+1)):=by
  have x:(Dt.sm (R+1) fun t=>(if t=s+1 then 1 else 0)*(fun _=>e-cf ds (s+1)) t)=e-cf ds (s+1):=wq (fun _=>e-cf ds (s+1)) (by omega)
  rw[←x,←kt,wc e (by have:=h.dl;omega)]
  refine zS fun t _=>?_
  show (if t=s+1 then e else cf ds t)=cf ds t+(if t=s+1 then 1 else 0)*(e-cf ds (s+1))
  split
  ·rename_i g;subst g;omega
  ·omega
 have e2:0≤Dt.sm (R+1) (cf (ds.set (s+1) e)):=ud _ fun t ht=>by
  rw[wc e (by have:=h.dl;omega)]
  show 0≤if t=s+1 then e else cf ds t
  split
  ·omega
  ·have:=h.dp (show t≤R by omega);omega
 unfold muR
 omega
theorem iX (c:Nat):IntKind.i64.wrap (IntKind.i64.wrap (c:Int)+1)=IntKind.i64.wrap ((c+1:Nat):Int):=by
 simp[IntKind.wrap,IntKind.signed,IntKind.bits]
 omega
end Go.Ll
namespace Go.Dt
open RowF Go.Br Go.Pz
theorem sC {D w:Int} (h:D≠0):Go.En.exQ (D*w) D=w:=by
 unfold Go.En.exQ
 rw[if_pos ⟨h,Int.mul_tmod_right D w⟩,Int.mul_tdiv_cancel_left w h]
theorem getD_some {β:Type} {l:List β} {i:Nat} {x d:β} (h:l[i]?=some x):l.getD i d=x:=by rw[List.getD,h];rfl
theorem bS {l:List Nat} {i:Nat} (h:i<l.length):l[i]?=some (l.getD i 0):=by rw[List.getD,List.getElem?_eq_getElem h];rfl
theorem aP {β:Type} {l:List β} {i:Nat} {x:β} (h:l[i]?=some x):i<l.length:=by
 rcases Nat.lt_or_ge i l.length with h'|h'
 ·exact h'
 ·rw[List.getElem?_eq_none h'] at h;cases h
theorem sL {p row:List Int} {col k:Nat} {last:Int} (h:k<row.length):cf (Go.En.clrL p row col last) k=Go.En.clr p row col last k:=by
 unfold Go.En.clrL;rw[wD,if_pos h]
structure BI (A:zI) (R C c:Nat) (s:BS) (q:List Nat):Prop where
 hR:s.rows.length=R
 hq:q.length=R
 lt:∀x∈q,x<R
 nd:q.Nodup
 pm:q.Perm (List.range R)
 hps:s.ps.length≤R
 psl:s.ps.Sublist (List.range c)
 hl:s.last=mn A (q.take s.ps.length).reverse s.ps.reverse
 h0:s.last≠0
 len:∀(i:Nat) (r:List Int),s.rows[i]?=some r→r.length=C
 row:∀(i:Nat) (r:List Int),s.ps.length≤i→s.rows[i]?=some r→∀k,k<C→cf r k=mn A (q.getD i 0::(q.take s.ps.length).reverse) (k::s.ps.reverse)
 zero:∀(i:Nat) (r:List Int),s.ps.length≤i→s.rows[i]?=some r→∀k,k<c→cf r k=0
 sign:∀F,RowF R F→F (fun i j=>A (q.getD i 0) j)=(if s.odd then -1 else 1)*F A
theorem BI.start (A:zI) {R C:Nat} {L:List Int} (hA:∀i k,i<R→k<C→A i k=cf L (i*C+k)):BI A R C 0 ⟨Go.En.rowsOf R C L,[],1,false⟩ (List.range R) where
 hR:=Go.En.rowsOf_len R C L
 hq:=List.length_range
 lt x hx:=List.mem_range.1 hx
 nd:=List.nodup_range
 pm:=List.Perm.refl _
 hps:=Nat.zero_le _
 psl:=List.nil_sublist _
 hl:=rfl
 h0:=(by decide:(1:Int)≠0)
 len i r h:=by
  unfold Go.En.rowsOf at h
  obtain⟨j,_,e⟩:=List.mem_map.1 (List.mem_of_getElem? h)
  rw[←e,List.length_map,List.length_range]
 row i r _ h k hk:=by
  have hi:i<R:=by have:=aP h;rwa [Go.En.rowsOf_len] at this
  have e:r=(List.range C).map fun k=>cf L (i*C+k):=by
   unfold Go.En.rowsOf at h
   rw[List.getElem?_map,List.getElem?_range hi] at h
   exact (Option.some.inj h).symm
  have e2:(List.range R).getD i 0=i:=getD_some (List.getElem?_range hi)
  show cf r k=mn A [(List.range R).getD i 0] [k]
  rw[e,wD,if_pos hk,e2,←hA i k hi hk]
  show A i k=det 1 _
  rw[vW]
  show _=0+1*(A i k*1)
  omega
 zero i r _ _ k hk:=by omega
 sign F hF:=by
  rw[hF.congr (A:=fun i j=>A ((List.range R).getD i 0) j) (B:=A) fun i j hi _=>by
   show A ((List.range R).getD i 0) j=A i j
   rw[getD_some (List.getElem?_range hi)]]
  show _=1*_
  omega
theorem ib {l:List Nat} {t i:Nat} (h:t≤i) (a b:Nat):((l.set i a).set t b).take t=l.take t:=by
 apply List.ext_getElem?
 intro j
 rw[List.getElem?_take,List.getElem?_take]
 split
 ·rw[List.getElem?_set_ne (by omega),List.getElem?_set_ne (by omega)]
 ·rfl
theorem kh {β:Type} {l:List β} {t i:Nat} {a b:β} (ht:l[t]?=some a) (hi:l[i]?=some b) (hne:i≠t) (j:Nat):((l.set i a).set t b)[j]?=if j=t then some b else if j=i then some a else l[j]?:=by
 have h1:=aP ht
 have h2:=aP hi
 by_cases e:j=t
 ·subst e
  rw[if_pos rfl,List.getElem?_set_self (by rw[List.length_set];exact h1)]
 ·rw[if_neg e,List.getElem?_set_ne (fun h=>e h.symm)]
  by_cases e2:j=i
  ·subst e2
   rw[if_pos rfl,List.getElem?_set_self h2]
  ·rw[if_neg e2,List.getElem?_set_ne (fun h=>e2 h.symm)]
theorem BI.swap {A:zI} {R C c i:Nat} {s:BS} {q:List Nat} {ri rt:List Int} (h:BI A R C c s q) (hti:s.ps.length≤i) (hi:s.rows[i]?=some ri) (ht:s.rows[s.ps.length]?=some rt) (hne:i≠s.ps.length):
  BI A R C c ⟨(s.rows.set i rt).set s.ps.length ri,s.ps,s.last,!s.odd⟩ ((q.set i (q.getD s.ps.length 0)).set s.ps.length (q.getD i 0)):=by
 have hiR:i<R:=by have:=aP hi;have:=h.hR;omega
 have htR:s.ps.length<R:=by omega
 have hqi:q[i]?=some (q.getD i 0):=bS (by rw[h.hq];exact hiR)
 have hqt:q[s.ps.length]?=some (q.getD s.ps.length 0):=bS (by rw[h.hq];exact htR)
 have hp:=Go.En.swap_perm hqi hqt hne
 have hat:=kh ht hi hne
 have hqat:=kh hqt hqi hne
 have hqd:∀j,((q.set i (q.getD s.ps.length 0)).set s.ps.length (q.getD i 0)).getD j 0=if j=s.ps.length then q.getD i 0 else if j=i then q.getD s.ps.length 0 else q.getD j 0:=fun j=>by
  rw[List.getD,hqat]
  by_cases e:j=s.ps.length
  ·rw[if_pos e,if_pos e];rfl
  ·rw[if_neg e,if_neg e]
   by_cases e2:j=i
   ·rw[if_pos e2,if_pos e2];rfl
   ·rw[if_neg e2,if_neg e2];rfl
 refine⟨by rw[List.length_set,List.length_set];exact h.hR,by rw[List.length_set,List.length_set];exact h.hq,fun x hx=>h.lt x (hp.mem_iff.1 hx),hp.nodup_iff.2 h.nd,hp.trans h.pm,h.hps,h.psl,by rw[ib hti];exact h.hl,h.h0,fun j r hj=>?_,fun j r htj hj k hk=>?_,fun j r htj hj k hk=>?_,fun F hF=>?_⟩
 ·rw[hat] at hj
  split at hj
  ·rw[←Option.some.inj hj];exact h.len _ _ hi
  ·split at hj
   ·rw[←Option.some.inj hj];exact h.len _ _ ht
   ·exact h.len _ _ hj
 ·show cf r k=mn A (_::_) _
  rw[ib hti,hqd]
  rw[hat] at hj
  by_cases e:j=s.ps.length
  ·rw[if_pos e] at hj⊢
   rw[←Option.some.inj hj];exact h.row i ri hti hi k hk
  ·rw[if_neg e] at hj⊢
   by_cases e2:j=i
   ·rw[if_pos e2] at hj⊢
    rw[←Option.some.inj hj];exact h.row _ rt (Nat.le_refl _) ht k hk
   ·rw[if_neg e2] at hj⊢
    exact h.row j r htj hj k hk
 ·rw[hat] at hj
  split at hj
  ·rw[←Option.some.inj hj];exact h.zero i ri hti hi k hk
  ·split at hj
   ·rw[←Option.some.inj hj];exact h.zero _ rt (Nat.le_refl _) ht k hk
   ·exact h.zero j r htj hj k hk
 ·have hs:=h.sign F hF
  obtain⟨P,hP⟩:∃P:zI,P=fun i j=>A (q.getD i 0) j:=⟨_,rfl⟩
  rw[←hP] at hs
  have e:(fun (x:Nat) (j:Nat)=>A (((q.set i (q.getD s.ps.length 0)).set s.ps.length (q.getD i 0)).getD x 0) j)=zw (zw P i (P s.ps.length)) s.ps.length (P i):=by
   funext x j
   rw[hqd,hP]
   unfold zw
   by_cases e:x=s.ps.length
   ·rw[if_pos e,if_pos e]
   ·rw[if_neg e,if_neg e]
    by_cases e2:x=i
    ·rw[if_pos e2,if_pos e2]
    ·rw[if_neg e2,if_neg e2]
  rw[e,hF.swap P hiR htR hne,set_self,set_self,hs]
  show _=(if (!s.odd)=true then _ else _)*_
  cases s.odd
  ·show -(1*F A) = -1*F A;omega
  ·show -(-1*F A)=1*F A;omega
theorem BI.clear {A:zI} {R C c:Nat} {s s':BS} {q:List Nat} {r:List Int} (h:BI A R C c s q) (hc:c<C) (hr:s.rows[s.ps.length]?=some r) (hne:cf r c≠0) (h1:s'.rows.length=s.rows.length)
    (h2:∀j:Nat,s'.rows[j]?=if s.ps.length<j then (s.rows[j]?).map (fun row=>Go.En.clrL r row c s.last) else s.rows[j]?) (h3:s'.ps=s.ps++[c]) (h4:s'.last=cf r c) (h5:s'.odd=s.odd):BI A R C (c+1) s' q:=by
  have htR:s.ps.length<R:=by have:=aP hr;have:=h.hR;omega
  have hl1:s'.ps.length=s.ps.length+1:=by rw[h3];simp
  have htk:(q.take s'.ps.length).reverse=q.getD s.ps.length 0::(q.take s.ps.length).reverse:=by
    rw[hl1,List.take_add_one,bS (by rw[h.hq];exact htR),List.reverse_append];rfl
  have hpr:s'.ps.reverse=c::s.ps.reverse:=by rw[h3,List.reverse_append];rfl
  have hrow:=h.row _ r (Nat.le_refl _) hr
  have hD:mn A (q.take s.ps.length).reverse s.ps.reverse≠0:=by rw[←h.hl];exact h.h0
  have hlen:(s.ps.reverse).length=((q.take s.ps.length).reverse).length:=by
    rw[List.length_reverse,List.length_reverse,List.length_take,h.hq];have:=h.hps;omega
  have hnew:∀(i:Nat) (row:List Int),s'.ps.length≤i→s'.rows[i]?=some row→∃r0,s.rows[i]?=some r0∧row=Go.En.clrL r r0 c s.last:=by
    intro i row hi hrw
    rw[h2,if_pos (by omega)] at hrw
    cases e:s.rows[i]? with
    | none=>rw[e] at hrw;cases hrw
    | some r0=>rw[e] at hrw;exact⟨r0,rfl,(Option.some.inj hrw).symm⟩
  have hclr:∀(i:Nat) (r0:List Int),s'.ps.length≤i→s.rows[i]?=some r0→∀k,k<C→cf (Go.En.clrL r r0 c s.last) k=mn A (q.getD i 0::q.getD s.ps.length 0::(q.take s.ps.length).reverse) (k::c::s.ps.reverse):=by
    intro i r0 hi hr0 k hk
    rw[sL (by rw[h.len i r0 hr0];exact hk)]
    unfold Go.En.clr
    rw[h.row i r0 (by omega) hr0 k hk,h.row i r0 (by omega) hr0 c hc,hrow c hc,hrow k hk,rW A hlen hD,h.hl,sC hD]
  refine⟨by rw[h1];exact h.hR,h.hq,h.lt,h.nd,h.pm,by omega,?_,by rw[htk,hpr,h4];exact hrow c hc,by rw[h4];exact hne,fun i row hi=>?_,fun i row hi hrw k hk=>?_,fun i row hi hrw k hk=>?_,fun F hF=>by rw[h5];exact h.sign F hF⟩
  · rw[h3,List.range_succ];exact h.psl.append (List.Sublist.refl _)
  · rw[h2] at hi
    split at hi
    · cases e:s.rows[i]? with
      | none=>rw[e] at hi;cases hi
      | some r0=>
        rw[e] at hi
        rw[←Option.some.inj hi,Go.En.clrL_len];exact h.len i r0 e
    · exact h.len i row hi
  · obtain⟨r0,hr0,rfl⟩:=hnew i row hi hrw
    rw[htk,hpr]
    exact hclr i r0 hi hr0 k hk
  · obtain⟨r0,hr0,rfl⟩:=hnew i row hi hrw
    rw[sL (by rw[h.len i r0 hr0];omega)]
    unfold Go.En.clr
    have e:cf r0 k*cf r c-cf r0 c*cf r k=s.last*0:=by
      rw[Int.mul_zero]
      rcases Nat.lt_succ_iff_lt_or_eq.1 hk with hk2|hk2
      · rw[h.zero i r0 (by omega) hr0 k hk2,h.zero _ r (Nat.le_refl _) hr k hk2,Int.zero_mul,Int.mul_zero];rfl
      · rw[hk2];omega
    rw[e,sC h.h0]
theorem BI.keep {A:zI} {R C c:Nat} {s:BS} {q:List Nat} (h:BI A R C c s q) (hz:∀(j:Nat) (r:List Int),s.ps.length≤j→s.rows[j]?=some r→cf r c=0):BI A R C (c+1) s q:=
 {h with
  psl:=by rw[List.range_succ];exact h.psl.trans (List.sublist_append_left _ _)
  zero:=fun i r hi hr k hk=>by
   rcases Nat.lt_succ_iff_lt_or_eq.1 hk with hk2|hk2
   ·exact h.zero i r hi hr k hk2
   ·rw[hk2];exact hz i r hi hr }
theorem BI.step {A:zI} {R C c:Nat} {s s':BS} {q:List Nat} (h:BI A R C c s q) (hc:c<C) (hs:zCE c s s'):∃q',BI A R C (c+1) s' q':=by
 rcases hs with ⟨rfl,hz⟩|⟨i,r,t,sw,hti,hi,ht,hne,hsw,k1,k2,k3,k4,k5⟩
 ·exact⟨q,h.keep hz⟩
 ·by_cases e:i=s.ps.length
  ·rw[if_pos e] at hsw k5
   subst hsw
   subst e
   exact⟨q,h.clear hc hi hne k1 k2 k3 k4 k5⟩
  ·rw[if_neg e] at hsw k5
   have hb:=h.swap hti hi ht e
   refine⟨_,hb.clear (r:=r) hc ?_ hne ?_ ?_ k3 k4 k5⟩
   ·exact (kh ht hi e _).trans (if_pos rfl)
   ·rw[k1];show _=((s.rows.set i t).set s.ps.length r).length;rw[List.length_set,List.length_set]
   ·intro j;rw[k2 j,hsw]
theorem BI.all {A:zI} {R C:Nat} {s0:BS} {q0:List Nat} (h0:BI A R C 0 s0 q0):∀{c:Nat} {s:BS},BRun s0 c s→c≤C→∃q,BI A R C c s q:=by
 intro c s h
 induction h with
 | zero=>exact fun _=>⟨q0,h0⟩
 | step _ hs ih=>
   intro hc
   obtain⟨q,hq⟩:=ih (by omega)
   exact hq.step (by omega) hs
end Go.Dt
namespace Go.Mz
open Go.Pz Go.Nt Go.En Go.Dt
def mf (C:Nat) (L:List Int):zI:=fun i k=>cf L (i*C+k)
def qx (N C:Nat) (g:Nat→Nat→Bool×List Nat):List (Bool×List Nat):=(List.range N).map fun j=>g (j/C) (j%C)
theorem xP (N C:Nat) (g:Nat→Nat→Bool×List Nat):(qx N C g).length=N:=by unfold qx;rw[List.length_map,List.length_range]
theorem wn (N C:Nat) (g:Nat→Nat→Bool×List Nat):zG (qx N C g)=tab N C fun i k=>zv (g i k).1 (g i k).2:=by
 unfold zG qx tab;rw[List.map_map];rfl
def cn (k c:Nat):Nat:=if c≤k then c else c-1
theorem sH (k:Nat):cn k 0=0:=if_pos (Nat.zero_le _)
theorem sJ (k:Nat):cn k (k+1)=cn k k:=by unfold cn;rw[if_neg (by omega),if_pos (Nat.le_refl _)];rfl
theorem sI {k c:Nat} (h:c≠k):cn k (c+1)=cn k c+1:=by unfold cn;(repeat' split) <;> omega
theorem rA {k c:Nat} (h:c≠k):skip k (cn k c)=c:=by unfold skip cn;(repeat' split) <;> omega
theorem zBJ {k n:Nat} (h:k<n):cn k n=n-1:=by unfold cn;rw[if_neg (by omega)]
theorem zGN {k c n:Nat} (hk:k<n) (hc:c<n) (h:c≠k):cn k c<n-1:=by unfold cn;split <;> omega
def woG (C i k:Nat) (xs:List (Bool×List Nat)):Nat→Nat→Bool×List Nat:=fun r c=>xs.getD (skip i r*C+skip k c) (false,[])
def wo (R C i k:Nat) (xs:List (Bool×List Nat)):List (Bool×List Nat):=qx ((R-1)*(C-1)) (C-1) (woG C i k xs)
def woN (C i k r c:Nat):Nat:=cn i r*(C-1)+if r=i then 0 else cn k c
theorem dY (C i k r:Nat):woN C i k r 0=cn i r*(C-1):=by unfold woN;rw[sH];split <;> rfl
theorem lx (C i k:Nat):woN C i k 0 0=0:=by rw[dY,sH,Nat.zero_mul]
theorem ef {C i k r c:Nat} (h:¬(r≠i∧c≠k)):woN C i k r (c+1)=woN C i k r c:=by
 unfold woN
 split
 ·rfl
 ·rename_i hr
  obtain rfl:c=k:=Classical.byContradiction fun e=>h ⟨hr,e⟩
  rw[sJ]
theorem uK {C i k r c:Nat} (hr:r≠i) (hc:c≠k):woN C i k r (c+1)=woN C i k r c+1:=by
 unfold woN;rw[if_neg hr,if_neg hr,sI hc];omega
theorem ly {C i k r:Nat} (hk:k<C):woN C i k r C=woN C i k (r+1) 0:=by
 rw[dY]
 unfold woN
 by_cases hr:r=i
 ·rw[if_pos hr,hr,sJ,Nat.add_zero]
 ·rw[if_neg hr,sI hr,zBJ hk,Nat.succ_mul]
theorem zCM {R C i k:Nat} (hi:i<R):woN C i k R 0=(R-1)*(C-1):=by rw[dY,zBJ hi]
theorem uJ {C i k r c:Nat} {xs:List (Bool×List Nat)} (hr:r≠i) (hc:c≠k) (hcC:c<C) (hk:k<C):
  qx (woN C i k r c) (C-1) (woG C i k xs)++[xs.getD (r*C+c) (false,[])]=qx (woN C i k r (c+1)) (C-1) (woG C i k xs):=by
 rw[uK hr hc]
 unfold qx
 rw[List.range_succ,List.map_append,List.map_singleton]
 refine congrArg _ (congrArg (fun z=>[z]) ?_)
 have e:woN C i k r c=cn i r*(C-1)+cn k c:=by unfold woN;rw[if_neg hr]
 obtain⟨d1,d2⟩:=cQ (i:=cn i r) (zGN hk hcC hc)
 rw[e,d1,d2]
 unfold woG
 rw[rA hr,rA hc]
theorem zGY {R C i k r c:Nat} (hi:i<R) (hk:k<C) (hr:r<R) (hc:c≤C):woN C i k r c≤(R-1)*(C-1):=by
 have h1:cn i r*(C-1)+(if r=i then 0 else cn k c)≤(R-1)*(C-1):=by
  by_cases e:r=i
  ·rw[if_pos e,Nat.add_zero]
   refine Nat.mul_le_mul_right _ ?_
   unfold cn;split <;> omega
  ·rw[if_neg e]
   have h2:cn i r+1≤R-1:=by have:=zGN hi hr e;omega
   have h3:cn k c≤C-1:=by unfold cn;split <;> omega
   have h4:=Nat.mul_le_mul_right (C-1) h2
   rw[Nat.succ_mul] at h4;omega
 exact h1
theorem wo_bd {R C i k K:Nat} {xs:List (Bool×List Nat)} (h:Bd (zG xs) K):Bd (zG (wo R C i k xs)) K:=by
 unfold wo
 rw[wn]
 exact xr fun r c=>by
  unfold woG
  rw[←qb];exact h _
theorem zGX (R C i k:Nat) (xs:List (Bool×List Nat)):(wo R C i k xs).length=(R-1)*(C-1):=xP _ _ _
theorem wo_mf {n k i j:Nat} {xs:List (Bool×List Nat)} (hi:i<n) (hj:j<n):mf n (zG (wo (n+1) (n+1) 0 k xs)) i j=mf (n+1) (zG xs) (i+1) (skip k j):=by
 unfold mf wo
 rw[wn,show n+1-1=n by omega,xH _ hj (zt hi hj)]
 unfold woG
 rw[←qb]
 have e:skip 0 i=i+1:=by unfold skip;rw[if_neg (by omega)]
 rw[e]
theorem det_wo {n k:Nat} {xs:List (Bool×List Nat)}:det n (mf n (zG (wo (n+1) (n+1) 0 k xs)))=det n fun i j=>mf (n+1) (zG xs) (i+1) (skip k j):=zy fun _ _ hi hj=>wo_mf hi hj
def dtT (n:Nat) (A:zI) (k:Nat):Int:=sg k*(A 0 k*det n fun i j=>A (i+1) (skip k j))
theorem zFJ (n:Nat) (A:zI):det (n+1) A=sm (n+1) (dtT n A):=rfl
theorem zGC (k:Nat) (z:Int):(sg k*z).natAbs=z.natAbs:=by
 unfold sg;split
 ·rw[Int.neg_mul,Int.one_mul,Int.natAbs_neg]
 ·rw[Int.one_mul]
theorem ig {f:Nat→Int} {K:Nat} (h:∀i,(List.length (zA (f i).natAbs))≤K):∀n,(List.length (zA (sm n f).natAbs))≤K+n
  | 0=>by show (List.length (zA (Int.natAbs 0)))≤_;rw[Int.natAbs_zero,zJ];exact Nat.zero_le _
  | n+1=>by
    have h1:=ig h n
    have h2:=xh (sm n f) (f n)
    have h3:=h n
    show (List.length (zA (sm n f+f n).natAbs))≤_
    omega
theorem gn {A:zI} {K:Nat} (h:∀i j,(List.length (zA (A i j).natAbs))≤K) (n:Nat):(List.length (zA (det n A).natAbs))≤n*(K+n)+1:=by
  induction n generalizing A with
  | zero=>
    show (List.length (zA (Int.natAbs 1)))≤_
    exact Nat.le_trans (qL (by decide)) (by omega)
  | succ n ih=>
    have h1:∀k,(List.length (zA (dtT n A k).natAbs))≤K+(n*(K+n)+1):=fun k=>by
      unfold dtT
      rw[zGC]
      have:=qA (A 0 k) (det n fun i j=>A (i+1) (skip k j))
      have:=h 0 k
      have:=ih (A:=fun i j=>A (i+1) (skip k j)) (fun i j=>h _ _)
      omega
    rw[zFJ]
    have h2:=ig h1 (n+1)
    have e:(n+1)*(K+(n+1))=n*(K+n)+n+(K+(n+1)):=by rw[Nat.succ_mul,←Nat.add_assoc K n 1,Nat.mul_succ]
    omega
theorem zBD {A:zI} {K:Nat} (h:∀i j,(List.length (zA (A i j).natAbs))≤K) (n k:Nat):(List.length (zA (dtT n A k).natAbs))≤K+(n*(K+n)+1):=by
 unfold dtT
 rw[zGC]
 have:=qA (A 0 k) (det n fun i j=>A (i+1) (skip k j))
 have:=h 0 k
 have:=gn (A:=fun i j=>A (i+1) (skip k j)) (fun i j=>h _ _) n
 omega
theorem wP (f g:Nat→Int):∀n,vI f g n=sm n fun i=>f i*g i
 | 0=>rfl
 | n+1=>by show vI f g n+f n*g n=sm n _+_;rw[wP f g n]
theorem mf_bd {C K:Nat} {L:List Int} (h:Bd L K):∀i j,(List.length (zA (mf C L i j).natAbs))≤K:=fun _ _=>h _
end Go.Mz
namespace Go.En
open Go.Nt Go.Pz Go.Mz
theorem jN {α:Type} {fk:α→List VP} {g:Gr α} {ys ys':List α} {n:Nat} {b:Nat} {A B:VP} {r:Mem} (hn:n=ys'.length) (h:ys=ys'):(zj fk g ys::(some b,zC [A,B,ze g n])::r:Mem)=zj fk g ys'::(some b,zC [A,B,ze g ys'.length])::r:=by subst h;subst hn;rfl
section
variable {E : Env} {P : Program} {Γ : Ctx} {M : Mem} {x : Operand}
theorem Has.okM {r c:Int} {xs:List (Bool×List Nat)} (h:Has E Γ M x (isM r c xs)):∀a w F,Sat E Γ M a w F→∀p∈xs,(∀y∈p.2,y<18446744073709551616)∧p.2.length≤9223372036854775807:=by
 intro a w F s p hp
 obtain⟨vs0,_,hv0⟩:=h a w F s
 obtain⟨v0,_,ad,cap,e,g1,g2,g3,g4⟩:=hv0.get 2 (SlK 2 zc xs) rfl
 obtain⟨i,hi,rfl⟩:=List.mem_iff_getElem.1 hp
 rcases g4 with g4|⟨b,off,_,_,vs,hv,_⟩
 ·omega
 ·have hd:=(hv.drop (i*2)).take 2
  rw[aF xs i xs[i] (fun y _=>zN y) (List.getElem?_eq_getElem hi)] at hd
  obtain⟨v,_,ad,cap,e,g1,g2,g3,g4⟩:=hd.get 1 (zD xs[i].2) rfl
  refine⟨fun y hy=>?_,by rw[qS] at g2;omega⟩
  obtain⟨j,hj,rfl⟩:=List.mem_iff_getElem.1 hy
  rcases g4 with g4|⟨b,off,_,_,us,hu,_⟩
  ·omega
  ·obtain⟨u,_,h2⟩:=hu.get j (isU xs[i].2[j]) (by simp[hj])
   exact h2.2
end
end Go.En
namespace Go.Hp
open Go.Dt Go.Hn Go.Pz Go.Nt Go.Mz
def E (rs:List (List Int)):zI:=fun i k=>cf (rs.getD i []) k
theorem ag {rs:List (List Int)} {i:Nat} {x:List Int} (hi:i<rs.length) (j:Nat):E (rs.set i x) j=if j=i then cf x else E rs j:=by
 funext k
 unfold E
 by_cases e:j=i
 ·subst e
  rw[if_pos rfl,List.getD,List.getElem?_set_self hi];rfl
 ·rw[if_neg e,List.getD,List.getElem?_set_ne (fun h=>e h.symm)];rfl
theorem E_of {rs:List (List Int)} {i:Nat} {x:List Int} (h:rs[i]?=some x):E rs i=cf x:=by funext k;unfold E;rw[xj h]
theorem E_same {rs rs':List (List Int)} {i:Nat} (h:rs'[i]?=rs[i]?):E rs' i=E rs i:=by funext k;unfold E;rw[List.getD,List.getD,h]
theorem zFE {rs:List (List Int)} {W t:Nat} {x:List Int} {y z:Int} (ht:t<rs.length) {b:Nat} (hb:b<rs.length) (hne:b≠t)
  (hx:∀k,cf x k=E rs t k+z*E rs b k) (hy:y = -z):Eqv rs.length rs.length W (E rs) (E (rs.set t x)):=by
 subst hy
 have e:=ag (x:=x) ht
 refine⟨fun i hi=>?_,fun i hi=>?_⟩
 ·by_cases hit:i=t
  ·subst hit
   refine ((SpZ.row (E (rs.set i x)) ht).comb 1 (-z) (SpZ.row (E (rs.set i x)) hb)).congr fun k _=>?_
   show _=1*E (rs.set i x) i k+(-z)*E (rs.set i x) b k
   rw[e i,if_pos rfl,e b,if_neg hne,hx]
   grind
  ·exact (SpZ.row (E (rs.set t x)) hi).congr fun k _=>by rw[e i,if_neg hit]
 ·by_cases hit:i=t
  ·subst hit
   refine ((SpZ.row (E rs) ht).comb 1 z (SpZ.row (E rs) hb)).congr fun k _=>?_
   rw[e i,if_pos rfl,hx]
   show _=1*E rs i k+z*E rs b k
   omega
  ·exact (SpZ.row (E rs) hi).congr fun k _=>by rw[e i,if_neg hit]
theorem jn_eqv {rs:List (List Int)} {t i col W V:Nat} (hrow:∀r∈rs,r.length=W) (hti:t≠i) (ht:t<rs.length) (hi:i<rs.length):Eqv rs.length rs.length V (E rs) (E (jn rs t i col)):=by
 obtain⟨p,hp⟩:∃p,rs[t]?=some p:=⟨_,List.getElem?_eq_getElem ht⟩
 obtain⟨q,hq⟩:∃q,rs[i]?=some q:=⟨_,List.getElem?_eq_getElem hi⟩
 by_cases h:xgg (cf p col) (cf q col)=0
 ·rw[zGG hp hq h];exact Eqv.refl _ _ _
 rw[zGH hp hq h]
 have hl:q.length=p.length:=(hrow q (List.mem_of_getElem? hq)).trans (hrow p (List.mem_of_getElem? hp)).symm
 have hb:=iW (cf p col) (cf q col)
 obtain⟨u,hu⟩:=cc (cf p col) (cf q col)
 obtain⟨v,hv⟩:=bL (cf p col) (cf q col)
 have eu:(cf p col).tdiv (xgg (cf p col) (cf q col))=u:=by
  conv=>lhs;lhs;rw[hu]
  exact Int.mul_tdiv_cancel_left _ h
 have ev:(cf q col).tdiv (xgg (cf p col) (cf q col))=v:=by
  conv=>lhs;lhs;rw[hv]
  exact Int.mul_tdiv_cancel_left _ h
 rw[eu,ev]
 generalize hX:xgx (cf p col) (cf q col)=X at*
 generalize hY:xgy (cf p col) (cf q col)=Y at*
 have h1:X*u+Y*v=1:=by
  generalize xgg (cf p col) (cf q col)=g at*
  have:g*(X*u+Y*v)=g*1:=by rw[hu,hv] at hb;grind
  exact Int.eq_of_mul_eq_mul_left h this
 have ep:=E_of hp
 have eq':=E_of hq
 have e:∀j,E ((rs.set t (mx2 X p Y q)).set i (mx2 (-v) p u q)) j=if j=i then cf (mx2 (-v) p u q) else if j=t then cf (mx2 X p Y q) else E rs j:=fun j=>by
  rw[ag (by rw[List.length_set];exact hi),ag ht]
 have c1:∀k,cf (mx2 X p Y q) k=X*cf p k+Y*cf q k:=jP hl
 have c2:∀k,cf (mx2 (-v) p u q) k = -v*cf p k+u*cf q k:=jP hl
 generalize hr:(rs.set t (mx2 X p Y q)).set i (mx2 (-v) p u q)=rs' at*
 have rt:SpZ rs.length V (E rs') (cf (mx2 X p Y q)):=(SpZ.row (E rs') ht).congr fun k _=>by rw[e t,if_neg hti,if_pos rfl]
 have ri:SpZ rs.length V (E rs') (cf (mx2 (-v) p u q)):=(SpZ.row (E rs') hi).congr fun k _=>by rw[e i,if_pos rfl]
 have sp:SpZ rs.length V (E rs) (cf p):=(SpZ.row (E rs) ht).congr fun k _=>by rw[ep]
 have sq:SpZ rs.length V (E rs) (cf q):=(SpZ.row (E rs) hi).congr fun k _=>by rw[eq']
 refine⟨fun j hj=>?_,fun j hj=>?_⟩
 ·by_cases hjt:j=t
  ·subst hjt
   refine (rt.comb u (-Y) ri).congr fun k _=>?_
   rw[ep]
   show cf p k=u*cf (mx2 X p Y q) k+(-Y)*cf (mx2 (-v) p u q) k
   rw[c1,c2]
   have:cf p k=(X*u+Y*v)*cf p k:=by rw[h1,Int.one_mul]
   grind
  ·by_cases hji:j=i
   ·subst hji
    refine (rt.comb v X ri).congr fun k _=>?_
    rw[eq']
    show cf q k=v*cf (mx2 X p Y q) k+X*cf (mx2 (-v) p u q) k
    rw[c1,c2]
    have:cf q k=(X*u+Y*v)*cf q k:=by rw[h1,Int.one_mul]
    grind
   ·exact (SpZ.row (E rs') hj).congr fun k _=>by rw[e j,if_neg hji,if_neg hjt]
 ·rw[show E rs' j=if j=i then cf (mx2 (-v) p u q) else if j=t then cf (mx2 X p Y q) else E rs j from e j]
  split
  ·exact (sp.comb (-v) u sq).congr fun k _=>c2 k
  ·split
   ·exact (sp.comb X Y sq).congr fun k _=>c1 k
   ·exact SpZ.row (E rs) hj
theorem rf {rs:List (List Int)} {t col W V:Nat} (hrow:∀r∈rs,r.length=W) (ht:t<rs.length):∀n,t+1+n≤rs.length→Eqv rs.length rs.length V (E rs) (E (jns rs t col n))
  | 0,_=>Eqv.refl _ _ _
  | n+1,hn=>by
    have ih:=rf hrow ht (col:=col) (V:=V) n (by omega)
    have hl:=xX rs t col n
    have h2:=jn_eqv (V:=V) (col:=col) (vn hrow ht (col:=col) n) (show t≠t+1+n by omega) (by omega) (show t+1+n<_ by omega)
    rw[hl] at h2
    exact ih.trans h2
theorem rK {rs:List (List Int)} {t col W V:Nat} (hrow:∀r∈rs,r.length=W) (ht:t<rs.length):∀n,n≤t→Eqv rs.length rs.length V (E rs) (E (rds rs t col n))
  | 0,_=>Eqv.refl _ _ _
  | n+1,hn=>by
    have ih:=rK hrow ht (col:=col) (V:=V) n (by omega)
    have hl:=aN rs t col n
    have hr:=en hrow ht (col:=col) n (by omega)
    have h2:=zFE (rs:=rds rs t col n) (W:=V) (t:=n) (b:=t) (x:=mx2 1 ((rds rs t col n).getD n []) (-(cf ((rds rs t col n).getD n []) col/cf ((rds rs t col n).getD t []) col)) ((rds rs t col n).getD t [])) (z := -(cf ((rds rs t col n).getD n []) col/cf ((rds rs t col n).getD t []) col)) (by omega) (by omega) (by omega) (fun k=>by
      rw[jP ((xU hr (by omega)).trans (xU hr (by omega)).symm),Int.one_mul];rfl) rfl
    rw[hl] at h2
    exact ih.trans h2
theorem zEL {rs:List (List Int)} {t col V:Nat} (ht:t<rs.length):Eqv rs.length rs.length V (E rs) (E (hsg rs t col)):=by
 unfold hsg
 split
 ·have e:=ag (x:=mx2 (-1) (rs.getD t []) 0 (rs.getD t [])) ht
  have c:∀k,cf (mx2 (-1) (rs.getD t []) 0 (rs.getD t [])) k = -1*E rs t k+0*E rs t k:=jP rfl
  refine⟨fun i hi=>?_,fun i hi=>?_⟩
  ·by_cases hit:i=t
   ·subst hit
    refine ((SpZ.row (E (rs.set i (mx2 (-1) (rs.getD i []) 0 (rs.getD i [])))) ht).comb (-1) 0 (SpZ.row _ ht)).congr fun k _=>?_
    show _ = -1*E _ i k+0*E _ i k
    rw[e i,if_pos rfl,c];omega
   ·exact (SpZ.row _ hi).congr fun k _=>by rw[e i,if_neg hit]
  ·by_cases hit:i=t
   ·subst hit
    exact ((SpZ.row (E rs) ht).comb (-1) 0 (SpZ.row _ ht)).congr fun k _=>by rw[e i,if_pos rfl,c]
   ·exact (SpZ.row _ hi).congr fun k _=>by rw[e i,if_neg hit]
 ·exact Eqv.refl _ _ _
theorem zAG {s:HS} {W V:Nat} (col:Nat) (h:s.top<s.rows.length) (hr:∀r∈s.rows,r.length=W):Eqv s.rows.length s.rows.length V (E s.rows) (E (vH s col).rows):=by
 have h1:=rf (V:=V) (col:=col) hr h (s.rows.length-(s.top+1)) (by omega)
 unfold vH hjs
 split
 ·exact h1
 ·have hl:=xX s.rows s.top col (s.rows.length-(s.top+1))
  have h2:=zEL (V:=V) (col:=col) (rs:=jns s.rows s.top col (s.rows.length-(s.top+1))) (t:=s.top) (by omega)
  have h3:=rK (V:=V) (col:=col) (rs:=hsg (jns s.rows s.top col (s.rows.length-(s.top+1))) s.top col) (t:=s.top) (fI (vn hr h _) (by omega)) (by rw[jZ];omega) s.top (Nat.le_refl _)
  rw[jZ,hl] at h3
  rw[hl] at h2
  exact h1.trans (h2.trans h3)
theorem nG {R W K V:Nat} {s:HS} (h:HOk R W K s):∀c,Eqv R R V (E s.rows) (E (qP s c).rows)
  | 0=>Eqv.refl _ _ _
  | c+1=>by
    have ih:=nG (V:=V) h c
    have ho:=wN h c
    show Eqv R R V _ (E (if _ then _ else _:HS).rows)
    split
    · rename_i ht
      have h2:=zAG (V:=V) c ht ho.row
      rw[ho.len] at h2
      exact ih.trans h2
    · exact ih
/-! ### the form's shape -/
structure HI (R:Nat) (s:HS) (P:Nat→Nat) (c:Nat):Prop where
 plt:∀i,i<s.top→P i<c
 pup:∀i j,i<j→j<s.top→P i<P j
 lead:∀i k,i<s.top→k<P i→E s.rows i k=0
 pos:∀i,i<s.top→0<E s.rows i (P i)
 zero:∀i k,s.top≤i→i<R→k<c→E s.rows i k=0
 red:∀i r,r<i→i<s.top→0≤E s.rows r (P i)∧E s.rows r (P i)<E s.rows i (P i)
theorem nB {rs:List (List Int)} {t col W k:Nat} (hrow:∀r∈rs,r.length=W) (ht:t<rs.length) (h0:∀i,t≤i→i<rs.length→E rs i k=0):∀n,t+1+n≤rs.length→∀i,t≤i→i<rs.length→E (jns rs t col n) i k=0
  | 0,_=>h0
  | n+1,hn=>by
    have ih:=nB hrow ht (col:=col) h0 n (by omega)
    have hl:=xX rs t col n
    have hr:=vn hrow ht (col:=col) n
    intro i hi hiR
    show E (jn _ _ _ _) i k=0
    unfold jn
    split
    · exact ih i hi hiR
    · have e1:((jns rs t col n).getD (t+1+n) []).length=((jns rs t col n).getD t []).length:=(xU hr (by omega)).trans (xU hr (by omega)).symm
      have z1:cf ((jns rs t col n).getD t []) k=0:=ih t (Nat.le_refl _) ht
      have z2:cf ((jns rs t col n).getD (t+1+n) []) k=0:=ih (t+1+n) (by omega) (by omega)
      rw[ag (by rw[List.length_set];omega),ag (by omega)]
      split
      · rw[jP e1,z1,z2];omega
      · split
        · rw[jP e1,z1,z2];omega
        · exact ih i hi hiR
theorem nC {rs:List (List Int)} {t col W:Nat} (hrow:∀r∈rs,r.length=W) (ht:t<rs.length):∀n,t+1+n≤rs.length→∀i,t<i→i<t+1+n→E (jns rs t col n) i col=0
  | 0,_,i,h1,h2=>absurd h2 (by omega)
  | n+1,hn,i,h1,h2=>by
    have ih:=nC hrow ht (col:=col) n (by omega)
    have hl:=xX rs t col n
    have hr:=vn hrow ht (col:=col) n
    have e1:((jns rs t col n).getD (t+1+n) []).length=((jns rs t col n).getD t []).length:=(xU hr (by omega)).trans (xU hr (by omega)).symm
    show E (jn _ _ _ _) i col=0
    unfold jn
    split
    · rename_i h0
      rcases Nat.lt_or_ge i (t+1+n) with h3|h3
      · exact ih i h1 h3
      · rw[show i=t+1+n by omega];exact (lw.1 h0).2
    · rename_i h0
      rw[ag (by rw[List.length_set];omega),ag (by omega)]
      split
      · rw[jP e1]
        obtain⟨u,hu⟩:=cc (cf ((jns rs t col n).getD t []) col) (cf ((jns rs t col n).getD (t+1+n) []) col)
        obtain⟨v,hv⟩:=bL (cf ((jns rs t col n).getD t []) col) (cf ((jns rs t col n).getD (t+1+n) []) col)
        generalize xgg (cf ((jns rs t col n).getD t []) col) (cf ((jns rs t col n).getD (t+1+n) []) col)=g at*
        generalize cf ((jns rs t col n).getD t []) col=a at*
        generalize cf ((jns rs t col n).getD (t+1+n) []) col=b at*
        subst hu;subst hv
        rw[Int.mul_tdiv_cancel_left _ h0,Int.mul_tdiv_cancel_left _ h0]
        grind
      · rename_i h3
        rw[if_neg (by omega)]
        exact ih i h1 (by omega)
theorem E_low {rs:List (List Int)} {t col n j:Nat} (hj:j<t):E (jns rs t col n) j=E rs j:=E_same (aR hj n)
theorem yD {rs:List (List Int)} {t col W:Nat} (hrow:∀r∈rs,r.length=W) (ht:t<rs.length):∀n,n≤t→∀i k,E (rds rs t col n) i k=if i<n then E rs i k-(E rs i col/E rs t col)*E rs t k else E rs i k
  | 0,_,i,k=>by rw[if_neg (by omega)];rfl
  | n+1,hn,i,k=>by
    have ih:=yD hrow ht (col:=col) n (by omega)
    have hl:=aN rs t col n
    have hr:=en hrow ht (col:=col) n (by omega)
    show E (rd _ _ _ _) i k=_
    unfold rd
    rw[ag (by omega)]
    have e1:∀k,cf ((rds rs t col n).getD t []) k=E rs t k:=fun k=>(ih t k).trans (if_neg (by omega))
    have e2:∀k,cf ((rds rs t col n).getD n []) k=E rs n k:=fun k=>(ih n k).trans (if_neg (by omega))
    split
    · rename_i h1
      subst h1
      rw[if_pos (by omega),jP ((xU hr (by omega)).trans (xU hr (by omega)).symm),e1,e2,e1,e2]
      grind
    · rw[ih i k]
      by_cases h2:i<n
      · rw[if_pos h2,if_pos (by omega)]
      · rw[if_neg h2,if_neg (by omega)]
theorem hsg_at {rs:List (List Int)} {t col:Nat} (ht:t<rs.length) (i k:Nat):E (hsg rs t col) i k=if i=t∧E rs t col<0 then -(E rs t k) else E rs i k:=by
 unfold hsg
 have e:cf (rs.getD t []) col=E rs t col:=rfl
 rw[e]
 split
 ·rename_i h
  rw[ag ht]
  split
  ·rename_i h2
   rw[if_pos ⟨h2,h⟩,jP rfl]
   show -1*E rs t k+0*E rs t k=_
   omega
  ·rename_i h2
   rw[if_neg fun h3=>h2 h3.1]
 ·rename_i h
  rw[if_neg fun h3=>h h3.2]
theorem HI.step {R W:Nat} {s:HS} {P:Nat→Nat} {c:Nat} (h:HI R s P c) (hl:s.rows.length=R) (hr:∀r∈s.rows,r.length=W) (ht:s.top<R):∃P',HI R (vH s c) P' (c+1):=by
 subst hl
 obtain⟨A,hA⟩:∃A,A=jns s.rows s.top c (s.rows.length-(s.top+1)):=⟨_,rfl⟩
 have hAl:A.length=s.rows.length:=by rw[hA];exact xX _ _ _ _
 have hAr:∀r∈A,r.length=W:=by rw[hA];exact vn hr ht _
 have hAlow:∀i,i<s.top→E A i=E s.rows i:=fun i hi=>by rw[hA];exact E_low hi
 have hAz:∀i k,s.top≤i→i<s.rows.length→k<c→E A i k=0:=fun i k h1 h2 h3=>by rw[hA];exact nB hr ht (fun j g1 g2=>h.zero j k g1 g2 h3) _ (by omega) i h1 h2
 have hAd:∀i,s.top<i→i<s.rows.length→E A i c=0:=fun i h1 h2=>by rw[hA];exact nC hr ht _ (by omega) i h1 (by omega)
 have he:vH s c=if E A s.top c=0 then ⟨A,s.top⟩ else ⟨rds (hsg A s.top c) s.top c s.top,s.top+1⟩:=by rw[hA];rfl
 rw[he]
 by_cases h0:E A s.top c=0
 ·rw[if_pos h0]
  refine⟨P,fun i hi=>Nat.lt_succ_of_lt (h.plt i hi),h.pup,fun i k hi hk=>?_,fun i hi=>?_,fun i k h1 h2 h3=>?_,fun i r h1 h2=>?_⟩
  ·show E A i k=0;rw[hAlow i hi];exact h.lead i k hi hk
  ·show 0<E A i (P i);rw[hAlow i hi];exact h.pos i hi
  ·show E A i k=0
   rcases Nat.lt_or_ge k c with h4|h4
   ·exact hAz i k h1 h2 h4
   ·obtain rfl:k=c:=by omega
    rcases Nat.lt_or_ge s.top i with h5|h5
    ·exact hAd i h5 h2
    ·have h6:s.top≤i:=h1
     rw[show i=s.top by omega];exact h0
  ·show 0≤E A r (P i)∧E A r (P i)<E A i (P i)
   have h2':i<s.top:=h2
   rw[hAlow i h2,hAlow r (by omega)];exact h.red i r h1 h2
 ·rw[if_neg h0]
  obtain⟨B,hB⟩:∃B,B=hsg A s.top c:=⟨_,rfl⟩
  have hBat:∀i k,E B i k=if i=s.top∧E A s.top c<0 then -(E A s.top k) else E A i k:=by rw[hB];exact hsg_at (by omega)
  have hBl:B.length=s.rows.length:=by rw[hB,jZ,hAl]
  have hBr:∀r∈B,r.length=W:=by rw[hB];exact fI hAr (by omega)
  have hBc:0<E B s.top c:=by
   rw[hBat]
   by_cases h1:E A s.top c<0
   ·rw[if_pos ⟨rfl,h1⟩];omega
   ·rw[if_neg fun h2=>h1 h2.2];omega
  have hBlow:∀i k,i≠s.top→E B i k=E A i k:=fun i k hi=>by rw[hBat,if_neg fun h2=>hi h2.1]
  have hBz:∀k,k<c→E B s.top k=0:=fun k hk=>by
   rw[hBat]
   have:=hAz s.top k (Nat.le_refl _) ht hk
   split <;> omega
  rw[←hB]
  have hDat:=yD (col:=c) hBr (show s.top<B.length by omega) s.top (Nat.le_refl _)
  obtain⟨D,hD⟩:∃D,D=rds B s.top c s.top:=⟨_,rfl⟩
  rw[←hD] at hDat⊢
  have hDlow:∀i k,i<s.top→k<c→E D i k=E s.rows i k:=fun i k hi hk=>by
   rw[hDat,if_pos hi,hBz k hk,Int.mul_zero,Int.sub_zero,hBlow i k (by omega),hAlow i hi]
  refine⟨fun i=>if i=s.top then c else P i,fun i hi=>?_,fun i j h1 h2=>?_,fun i k hi hk=>?_,fun i hi=>?_,fun i k h1 h2 h3=>?_,fun i r h1 h2=>?_⟩
  ·have hi':i<s.top+1:=hi
   show (if i=s.top then c else P i)<c+1
   split
   ·omega
   ·have:=h.plt i (by omega);omega
  ·have h2':j<s.top+1:=h2
   show (if i=s.top then c else P i)<if j=s.top then c else P j
   rw[if_neg (show ¬i=s.top by omega)]
   split
   ·exact h.plt i (by omega)
   ·exact h.pup i j h1 (by omega)
  ·have hi':i<s.top+1:=hi
   show E D i k=0
   by_cases e:i=s.top
   ·simp only[if_pos e] at hk
    subst e
    rw[hDat,if_neg (by omega)];exact hBz k hk
   ·simp only[if_neg e] at hk
    have:=h.plt i (by omega)
    rw[hDlow i k (by omega) (by omega)];exact h.lead i k (by omega) hk
  ·have hi':i<s.top+1:=hi
   show 0<E D i (if i=s.top then c else P i)
   by_cases e:i=s.top
   ·rw[if_pos e,e,hDat,if_neg (by omega)];exact hBc
   ·rw[if_neg e,hDlow i _ (by omega) (h.plt i (by omega))];exact h.pos i (by omega)
  ·have h1':s.top+1≤i:=h1
   show E D i k=0
   rw[hDat,if_neg (by omega),hBlow i k (by omega)]
   rcases Nat.lt_or_ge k c with h4|h4
   ·exact hAz i k (by omega) h2 h4
   ·obtain rfl:k=c:=by omega
    exact hAd i (by omega) h2
  ·have h2':i<s.top+1:=h2
   show 0≤E D r (if i=s.top then c else P i)∧E D r (if i=s.top then c else P i)<E D i (if i=s.top then c else P i)
   by_cases e:i=s.top
   ·rw[if_pos e,e,hDat r,if_pos (by omega),hDat s.top,if_neg (by omega)]
    have e1:=Int.emod_nonneg (E B r c) (show E B s.top c≠0 by omega)
    have e2:=Int.emod_lt_of_pos (E B r c) hBc
    have e3:=Int.emod_add_mul_ediv (E B r c) (E B s.top c)
    rw[Int.mul_comm] at e3
    omega
   ·have:=h.plt i (by omega)
    rw[if_neg e,hDlow i _ (by omega) this,hDlow r _ (by omega) this]
    exact h.red i r h1 (by omega)
theorem HI.start (R:Nat) (rows:List (List Int)):HI R ⟨rows,0⟩ (fun _=>0) 0 where
 plt i h:=absurd h (Nat.not_lt_zero _)
 pup i j _ h:=absurd h (Nat.not_lt_zero _)
 lead i k h:=absurd h (Nat.not_lt_zero _)
 pos i h:=absurd h (Nat.not_lt_zero _)
 zero i k _ _ h:=absurd h (Nat.not_lt_zero _)
 red i r _ h:=absurd h (Nat.not_lt_zero _)
theorem HI.wait {R:Nat} {s:HS} {P:Nat→Nat} {c:Nat} (h:HI R s P c) (ht:R≤s.top):HI R s P (c+1) where
 plt i hi:=Nat.lt_succ_of_lt (h.plt i hi)
 pup:=h.pup
 lead:=h.lead
 pos:=h.pos
 zero i k h1 h2 _:=absurd h2 (by omega)
 red:=h.red
theorem rn {R W K:Nat} {rows:List (List Int)} (h:HOk R W K ⟨rows,0⟩):∀c,∃P,HI R (qP ⟨rows,0⟩ c) P c
  | 0=>⟨_,HI.start R rows⟩
  | c+1=>by
    obtain⟨P,hP⟩:=rn h c
    have ho:=wN h c
    show ∃P,HI R (if (qP ⟨rows,0⟩ c).top<(qP ⟨rows,0⟩ c).rows.length then vH (qP ⟨rows,0⟩ c) c else qP ⟨rows,0⟩ c) P (c+1)
    split
    · rename_i ht
      exact hP.step ho.len ho.row (by rw[ho.len] at ht;exact ht)
    · rename_i ht
      exact⟨P,hP.wait (by rw[ho.len] at ht;omega)⟩
theorem HI.form {R C:Nat} {s:HS} {P:Nat→Nat} (h:HI R s P C):HermF R C (E s.rows):=by
 have hfc:∀i,i<R→(i<s.top→fc C (E s.rows i)=P i)∧(s.top≤i→fc C (E s.rows i)=C):=fun i hi=>by
  refine⟨fun h1=>nV (h.plt i h1) (fun k hk=>h.lead i k h1 hk) (by have:=h.pos i h1;omega),fun h1=>pH fun k hk=>h.zero i k h1 hi hk⟩
 intro i hi hc
 have hit:i<s.top:=by
  rcases Nat.lt_or_ge i s.top with h1|h1
  ·exact h1
  ·have:=(hfc i hi).2 h1;omega
 rw[(hfc i hi).1 hit]
 refine⟨fun h0=>by rw[(hfc (i-1) (by omega)).1 (by omega)];exact h.pup _ _ (by omega) hit,h.pos i hit,fun r hr=>h.red i r hr hit⟩
/-! ### all of it -/
theorem fu {C R:Nat} {L:List Int} {i:Nat} (hi:i<R) (k:Nat):E (qm C R L R) i k=if k<C+R then (if k<C then cf L (i*C+k) else if k=C+i then 1 else 0) else 0:=by
 have h:(qm C R L R)[i]?=some (ww C R L i):=by unfold qm;rw[List.getElem?_map,List.getElem?_range hi];rfl
 rw[E_of h]
 unfold ww
 rw[wD]
def hF (R C:Nat) (L:List Int):zI:=fun i k=>E (hrm R C L).rows i k
def uF (R C:Nat) (L:List Int):zI:=fun i j=>E (hrm R C L).rows i (C+j)
theorem yy {R C K:Nat} {L:List Int} (h:Bd L K):HermF R C (hF R C L):=by
 obtain⟨P,hP⟩:=rn (jG (R:=R) (C:=C) h) C
 exact hP.form
theorem lP {R C K:Nat} {L:List Int} (h:Bd L K):Eqv R R (C+R) (E (qm C R L R)) (E (hrm R C L).rows):=nG (jG h) C
theorem zEO {R C K:Nat} {L:List Int} (h:Bd L K):Eqv R R C (mf C L) (hF R C L):=by
 refine Eqv.trans (Eqv.of_eq fun i k hi hk=>?_) ((lP h).mono (Nat.le_add_right _ _))
 rw[fu hi,if_pos (by omega),if_pos hk];rfl
theorem zEN {R C K:Nat} {L:List Int} (h:Bd L K) {i k:Nat} (hi:i<R) (hk:k<C):hF R C L i k=sm R fun j=>uF R C L i j*mf C L j k:=by
 obtain⟨c,hc⟩:=(lP (C:=C) h).2 i hi
 have hu:∀j,j<R→uF R C L i j=c j:=fun j hj=>by
  show E (hrm R C L).rows i (C+j)=_
  rw[hc (C+j) (by omega),aK (c:=j) hj fun m hm hne=>by rw[fu hm,if_pos (by omega),if_neg (by omega),if_neg (by omega),Int.mul_zero]]
  rw[fu hj,if_pos (by omega),if_neg (by omega),if_pos rfl,Int.mul_one]
 show E (hrm R C L).rows i k=_
 rw[hc k (by omega)]
 exact zS fun j hj=>by rw[hu j hj,fu hj,if_pos (by omega),if_pos hk];rfl
theorem zEM {R C K:Nat} {L:List Int} (h:Bd L K):(det R (uF R C L)).natAbs=1:=by
 have key:∀i:Nat,∃c:Nat→Int,i<R→∀m,m<R→(sm R fun j=>c j*uF R C L j m)=if i=m then 1 else 0:=fun i=>by
  by_cases hi:i<R
  ·obtain⟨c,hc⟩:=(lP (C:=C) h).1 i hi
   refine⟨c,fun _ m hm=>?_⟩
   have:=hc (C+m) (by omega)
   rw[fu hi,if_pos (by omega),if_neg (by omega)] at this
   show (sm R fun j=>c j*E (hrm R C L).rows j (C+m))=_
   rw[←this]
   by_cases e:i=m
   ·rw[if_pos e,if_pos (by omega)]
   ·rw[if_neg e,if_neg (by omega)]
  ·exact⟨fun _=>0,fun h'=>absurd h' hi⟩
 have hD:∃D:zI,∀i,i<R→∀m,m<R→iP R D (uF R C L) i m=one i m:=⟨fun i=>Classical.choose (key i),fun i hi m hm=>Classical.choose_spec (key i) hi m hm⟩
 obtain⟨D,hD⟩:=hD
 have h1:=lZ R D (uF R C L)
 rw[zy (B:=one) fun i j hi hj=>hD i hi j hj,br] at h1
 have h2:=congrArg Int.natAbs h1
 rw[Int.natAbs_mul] at h2
 exact Nat.eq_one_of_mul_eq_one_left h2.symm
end Go.Hp
namespace Go.Hp
open Go.Dt Go.Hn Go.Pz Go.Nt Go.Mz Go.En
def hL (R C:Nat) (L:List Int):List Int:=xV 0 C (hrm R C L).rows
def uL (R C:Nat) (L:List Int):List Int:=xV C (C+R) (hrm R C L).rows
theorem lO {R C K:Nat} {L:List Int} (h:Bd L K):HOk R (C+R) ((K+4)*(R+2)^C-3) (hrm R C L):=wN (jG h) C
theorem pD {R C K:Nat} {L:List Int} (h:Bd L K):hL R C L=tab (R*C) C (hF R C L):=by
 have ho:=lO (R:=R) (C:=C) h
 unfold hL
 rw[kM (Nat.zero_le _) (Nat.le_add_right C R) ho.row,ho.len]
 show tab (R*C) C _=_
 refine congrArg _ ?_
 funext i k
 rw[Nat.zero_add];rfl
theorem oG {R C K:Nat} {L:List Int} (h:Bd L K):uL R C L=tab (R*R) R (uF R C L):=by
 have ho:=lO (R:=R) (C:=C) h
 unfold uL
 rw[kM (Nat.le_add_right C R) (Nat.le_refl _) ho.row,ho.len,Nat.add_sub_cancel_left]
 rfl
theorem pE {R C K:Nat} {L:List Int} (h:Bd L K):(hL R C L).length=R*C:=by rw[pD h,qi]
theorem uR {R C K:Nat} {L:List Int} (h:Bd L K):(uL R C L).length=R*R:=by rw[oG h,qi]
theorem E_bd {rs:List (List Int)} {K:Nat} (h:∀r∈rs,Bd r K) (i k:Nat):(List.length (zA (E rs i k).natAbs))≤K:=ja h i k
theorem zGJ {R C K:Nat} {L:List Int} (h:Bd L K):Bd (hL R C L) ((K+4)*(R+2)^C):=by
 rw[pD h]
 exact (xr fun i k=>E_bd (lO (R:=R) (C:=C) h).bd i k).mono (Nat.sub_le _ _)
theorem uS {R C K:Nat} {L:List Int} (h:Bd L K):Bd (uL R C L) ((K+4)*(R+2)^C):=by
 rw[oG h]
 exact (xr fun i k=>E_bd (lO (R:=R) (C:=C) h).bd i (C+k)).mono (Nat.sub_le _ _)
theorem kH {R C K i k:Nat} {L:List Int} (h:Bd L K) (hi:i<R) (hk:k<C):mf C (hL R C L) i k=hF R C L i k:=by
 show cf _ (i*C+k)=_
 rw[pD h,xH _ hk (zt hi hk)]
theorem zFY {R C K i k:Nat} {L:List Int} (h:Bd L K) (hi:i<R) (hk:k<R):mf R (uL R C L) i k=uF R C L i k:=by
 show cf _ (i*R+k)=_
 rw[oG h,xH _ hk (zt hi hk)]
theorem dL {R C K:Nat} {L:List Int} (h:Bd L K):HermF R C (mf C (hL R C L)):=(yy h).congr fun i k hi hk=>kH h hi hk
theorem zAI {R C K:Nat} {L:List Int} (h:Bd L K):Eqv R R C (mf C L) (mf C (hL R C L)):=(zEO h).trans (Eqv.of_eq fun i k hi hk=>(kH h hi hk).symm)
theorem zHA {R C K:Nat} {L:List Int} (h:Bd L K):(det R (mf R (uL R C L))).natAbs=1:=by
 rw[zy (B:=uF R C L) fun i j hi hj=>zFY h hi hj];exact zEM h
theorem jv {R C j:Nat} (h:j<R*C):∃i k,i<R∧k<C∧j=i*C+k:=by
 have hC:0<C:=by
  rcases Nat.eq_zero_or_pos C with h0|h0
  ·subst h0;rw[Nat.mul_zero] at h;omega
  ·exact h0
 have h1:=Nat.div_add_mod j C
 rw[Nat.mul_comm] at h1
 exact⟨j/C,j%C,Nat.div_lt_of_lt_mul (by rwa [Nat.mul_comm]),Nat.mod_lt _ hC,by omega⟩
theorem hL_mul {R C K:Nat} {L:List Int} (h:Bd L K) {j:Nat} (hj:j<R*C):cf (hL R C L) j=cf (tab (R*C) C fun i k=>vI (fun j=>cf (uL R C L) (i*R+j)) (fun j=>cf L (j*C+k)) R) j:=by
 obtain⟨i,k,hi,hk,rfl⟩:=jv hj
 rw[xH _ hk hj,wP]
 have e:cf (hL R C L) (i*C+k)=hF R C L i k:=kH h hi hk
 rw[e,zEN h hi hk]
 exact zS fun m hm=>by rw[←zFY (i:=i) h hi hm];rfl
theorem HermF.snoc {n C:Nat} {A:zI} (h:HermF n C A) (h2:fc C (A n)<C→(0<n→fc C (A (n-1))<fc C (A n))∧0<A n (fc C (A n))∧∀r,r<n→0≤A r (fc C (A n))∧A r (fc C (A n))<A n (fc C (A n))):HermF (n+1) C A:=fun i hi hc=>by
 rcases Nat.lt_or_ge i n with h1|h1
 ·exact h i h1 hc
 ·obtain rfl:i=n:=by omega
  exact h2 hc
end Go.Hp
namespace Go.Hp
open Go.Dt Go.Hn Go.Pz Go.Nt Go.Mz Go.En
def fir (C:Nat) (f:Nat→Int):Int:=if fc C f<C then ((fc C f:Nat):Int) else -1
theorem fir_at {C i:Nat} {f:Nat→Int} (hi:i<C) (h0:∀j,j<i→f j=0) (h:f i≠0):fir C f=(i:Int):=by
 have:=nV hi h0 h
 unfold fir
 rw[this,if_pos hi]
theorem zFB {C:Nat} {f:Nat→Int} (h:∀j,j<C→f j=0):fir C f = -1:=by
 unfold fir
 rw[pH h,if_neg (Nat.lt_irrefl _)]
theorem ta {C:Nat} {f g:Nat→Int} (h:∀k,k<C→f k=g k):fir C f=fir C g:=by unfold fir;rw[gg h]
theorem fir_lt {C:Nat} {f:Nat→Int} (h:0≤fir C f):fc C f<C:=by
 unfold fir at h
 split at h
 ·assumption
 ·omega
theorem fir_no {C:Nat} {f:Nat→Int} (h:fir C f<0):¬fc C f<C:=fun h2=>by
 unfold fir at h
 rw[if_pos h2] at h;omega
theorem sZ (xs:List (Bool×List Nat)) (n:Nat):zG (xs.drop n)=(zG xs).drop n:=List.map_drop
theorem ia (xs:List (Bool×List Nat)) (n:Nat):zG (xs.take n)=(zG xs).take n:=List.map_take
theorem nc {xs:List (Bool×List Nat)} {a b k:Nat} (h:a+k<b):cf (zG ((xs.take b).drop a)) k=cf (zG xs) (a+k):=by
 rw[sZ,ia]
 unfold cf
 rw[List.getD,List.getElem?_drop,List.getElem?_take_of_lt h];rfl
def jw (C:Nat) (A:zI):Nat→List Nat
 | 0=>[]
 | n+1=>if fc C (A n)<C then jw C A n++[fc C (A n)] else jw C A n
theorem cy {C n:Nat} {A:zI} (h:fc C (A n)<C):jw C A (n+1)=jw C A n++[fc C (A n)]:=if_pos h
theorem er {C n:Nat} {A:zI} (h:¬fc C (A n)<C):jw C A (n+1)=jw C A n:=if_neg h
theorem cz (C:Nat) (A:zI):∀n,(jw C A n).length≤n
  | 0=>Nat.le_refl _
  | n+1=>by
    have:=cz C A n
    by_cases h:fc C (A n)<C
    · rw[cy h,List.length_append];show _+1≤_;omega
    · rw[er h];omega
theorem lC (l:List Nat) (n:Nat):pv (l++[n])=pv l++[(n:Int)]:=by unfold pv;rw[List.map_append];rfl
theorem pI {a b:List Int} (hl:a.length=b.length) (h:∀j,j<a.length→cf a j=cf b j):a=b:=by
 refine List.ext_getElem? fun j=>?_
 rcases Nat.lt_or_ge j a.length with h1|h1
 ·rw[vE h1,vE (by omega),h j h1]
 ·rw[List.getElem?_eq_none h1,List.getElem?_eq_none (by omega)]
end Go.Hp
namespace Go.Hp
open Go.Dt Go.Hn Go.Pz Go.Nt Go.Mz Go.En
theorem HermF.sub {R C n:Nat} {A:zI} (h:HermF R C A) (hn:n≤R):HermF n C A:=fun i hi hc=>h i (by omega) hc
theorem dK {C:Nat} {A:zI}:∀{R:Nat},HermF R C A→∃P,P≤R∧(∀i,i<P→fc C (A i)<C)∧(∀i,P≤i→i<R→¬fc C (A i)<C)∧jw C A R=(List.range P).map fun i=>fc C (A i)
  | 0,_=>⟨0,Nat.le_refl _,fun i h=>absurd h (Nat.not_lt_zero _),fun i _ h=>absurd h (Nat.not_lt_zero _),rfl⟩
  | n+1,h=>by
    obtain⟨P,h1,h2,h3,h4⟩:=dK (h.sub (Nat.le_succ n))
    by_cases hf:fc C (A n)<C
    · have hP:P=n:=by
        rcases Nat.lt_or_ge P n with h5|h5
        · have h6:=(h n (by omega) hf).1 (by omega)
          exact absurd (by omega) (h3 (n-1) (by omega) (by omega))
        · omega
      subst hP
      refine⟨P+1,Nat.le_refl _,fun i hi=>?_,fun i g1 g2=>by omega,?_⟩
      · rcases Nat.lt_or_ge i P with h5|h5
        · exact h2 i h5
        · rw[show i=P by omega];exact hf
      · rw[cy hf,h4,List.range_succ,List.map_append];rfl
    · refine⟨P,by omega,h2,fun i g1 g2=>?_,by rw[er hf];exact h4⟩
      rcases Nat.lt_or_ge i n with h5|h5
      · exact h3 i g1 h5
      · rw[show i=n by omega];exact hf
theorem ko {P R:Nat} {f:Nat→Int} (hP:P≤R) (h:∀i,P≤i→i<R→f i=0):sm R f=sm P f:=by
  induction R with
  | zero=>rw[show P=0 by omega]
  | succ n ih=>
    rcases Nat.lt_or_ge n P with h1|h1
    · rw[show P=n+1 by omega]
    · show sm n f+f n=_
      rw[h n h1 (by omega),Int.add_zero]
      exact ih h1 fun i g1 g2=>h i g1 (by omega)
/-! ### rows within others -/
def dy (R C:Nat) (L:List Int):List Int:=tab ((jw C (mf C (hL R C L)) R).length*C) C fun i k=>cf (hL R C L) ((0+i)*C+k)
theorem fE {R C i k:Nat} {L:List Int} (hi:i<(jw C (mf C (hL R C L)) R).length) (hk:k<C):mf C (dy R C L) i k=mf C (hL R C L) i k:=by
 show cf _ (i*C+k)=_
 unfold dy
 rw[xH _ hk (zt hi hk),Nat.zero_add];rfl
theorem mz {R C K:Nat} {L:List Int} (hb:Bd L K):Eqv R (jw C (mf C (hL R C L)) R).length C (mf C L) (mf C (dy R C L)):=by
 obtain⟨P,h1,h2,h3,h4⟩:=dK (dL (R:=R) (C:=C) hb)
 have hP:(jw C (mf C (hL R C L)) R).length=P:=by rw[h4,List.length_map,List.length_range]
 have hat:∀i k,i<P→k<C→mf C (dy R C L) i k=mf C (hL R C L) i k:=fun i k hi hk=>fE (by omega) hk
 refine (zAI hb).trans ⟨fun i hi=>?_,fun i hi=>?_⟩
 ·rcases Nat.lt_or_ge i P with h5|h5
  ·exact (SpZ.row (mf C (dy R C L)) (by omega)).congr fun k hk=>(hat i k h5 hk).symm
  ·refine (SpZ.zero _).congr fun k hk=>jB (f:=mf C (hL R C L) i) (C:=C) ?_
   have:=h3 i h5 hi
   omega
 ·exact (SpZ.row (mf C (hL R C L)) (by omega)).congr fun k hk=>hat i k (by omega) hk
def fa (R R' C:Nat) (L L':List Int):List Int:=tab ((R+R')*C) C fun i k=>if i<R then cf L (i*C+k) else cf L' ((i-R)*C+k)
end Go.Hp
namespace Go.Hp
open Go.Dt Go.Hn Go.Pz Go.Nt Go.Mz Go.En
end Go.Hp
namespace Go.Hp
open Go.Dt Go.Hn Go.Pz Go.Nt Go.Mz Go.En
theorem bh {R C K:Nat} {L:List Int} (hb:Bd L K):HermF (jw C (mf C (hL R C L)) R).length C (mf C (dy R C L)):=by
 have hp:=cz C (mf C (hL R C L)) R
 exact ((dL (R:=R) (C:=C) hb).sub hp).congr fun i k hi hk=>fE hi hk
theorem gW {R C P:Nat} {A:zI} (h:HermF R C A) (hP:P≤R) (h1:∀i,i<P→fc C (A i)<C) (h2:∀i,P≤i→i<R→¬fc C (A i)<C) {a:Nat→Int} (h0:∀k,k<C→(sm R fun i=>a i*A i k)=0):∀i,i<P→a i=0:=by
 intro i hi
 refine Classical.byContradiction fun hne=>?_
 obtain⟨m,hm,ha,hmin⟩:=dN (p:=fun i=>a i≠0) P ⟨i,hi,hne⟩
 have hfm:=h1 m hm
 have hv:=h0 _ hfm
 have e:(sm R fun i=>a i*A i (fc C (A m)))=a m*A m (fc C (A m)):=by
  refine aK (show m<R by omega) fun j hj hjm=>?_
  rcases Nat.lt_or_ge j m with g|g
  ·rw[Classical.not_not.1 (hmin j g),Int.zero_mul]
  ·rw[h.later (show m<j by omega) hj hfm (Nat.le_refl _),Int.mul_zero]
 rw[e] at hv
 have:=(h m (by omega) hfm).2.1
 rcases Int.mul_eq_zero.1 hv with g|g
 ·exact ha g
 ·omega
end Go.Hp
namespace Go.Hp
open Go.Dt Go.Hn Go.Pz Go.Nt Go.Mz Go.En
theorem kF {rs:List (List Int)} {t col W:Nat} (hrow:∀r∈rs,r.length=W) (ht:t<rs.length):∀n,t+1+n≤rs.length→E (jns rs t col n) t col=0→jns rs t col n=rs
  | 0,_,_=>rfl
  | n+1,hn,h0=>by
    have hl:=xX rs t col n
    have hr:=vn hrow ht (col:=col) n
    have e1:((jns rs t col n).getD (t+1+n) []).length=((jns rs t col n).getD t []).length:=(xU hr (by omega)).trans (xU hr (by omega)).symm
    have ih:=kF hrow ht (col:=col) n (by omega)
    revert h0
    show E (jn _ _ _ _) t col=0→jn _ _ _ _=rs
    unfold jn
    split
    · exact ih
    · rename_i hg
      intro h0
      rw[ag (by rw[List.length_set];omega),ag (by omega),if_neg (by omega),if_pos rfl,jP e1,iW] at h0
      exact absurd h0 hg
def hq (R K:Nat):Nat→Nat
 | 0=>K
 | t+1=>hq R K t*(R+1-t)
theorem ro {R K t u:Nat} (h:t≤u) (hu:u≤R):hq R K t≤hq R K u:=by
  induction u with
  | zero=>rw[show t=0 by omega];exact Nat.le_refl _
  | succ u ih=>
    rcases Nat.lt_or_ge u t with g|g
    · rw[show t=u+1 by omega];exact Nat.le_refl _
    · exact Nat.le_trans (ih g (by omega)) (Nat.le_mul_of_pos_right _ (by omega))
theorem yz {R K:Nat}:∀t,hq R K t≤K*(R+2)^t
  | 0=>by rw[Nat.pow_zero,Nat.mul_one];exact Nat.le_refl _
  | t+1=>by
    rw[Nat.pow_succ,←Nat.mul_assoc]
    exact Nat.mul_le_mul (yz t) (by omega)
theorem nL {s:HS} {K W:Nat} (col:Nat) (hr:∀r∈s.rows,r.length=W) (ht:s.top<s.rows.length) (h:∀r∈s.rows,Bd r K):
  ((vH s col).top=s.top∧∀r∈(vH s col).rows,Bd r K)∨((vH s col).top=s.top+1∧∀r∈(vH s col).rows,Bd r ((K+3)*(s.rows.length+1-s.top)-3)):=by
 have hj:=gO (t:=s.top) (col:=col) h (s.rows.length-(s.top+1))
 unfold vH hjs
 split
 ·rename_i h0
  refine .inl ⟨rfl,?_⟩
  have e:=kF hr ht (col:=col) (s.rows.length-(s.top+1)) (by omega) h0
  show ∀r∈jns s.rows s.top col (s.rows.length-(s.top+1)),Bd r K
  rw[e];exact h
 ·rename_i h0
  refine .inr ⟨rfl,?_⟩
  have hg:=pA (t:=s.top) (col:=col) hj
  have htj:s.top<(jns s.rows s.top col (s.rows.length-(s.top+1))).length:=by rw[xX];exact ht
  have hpos:=rh (rs:=jns s.rows s.top col (s.rows.length-(s.top+1))) (t:=s.top) (col:=col) (List.getElem?_eq_getElem htj) (by rwa [List.getD,List.getElem?_eq_getElem htj] at h0)
  have hlow:∀i,i<s.top→Bd ((hsg (jns s.rows s.top col (s.rows.length-(s.top+1))) s.top col).getD i []) K:=fun i hi=>by
   have e:(hsg (jns s.rows s.top col (s.rows.length-(s.top+1))) s.top col).getD i []=s.rows.getD i []:=by
    unfold hsg
    split
    ·rw[List.getD,List.getElem?_set_ne (by omega),aR hi];rfl
    ·rw[List.getD,aR hi];rfl
   rw[e];exact ja h i
  have em:(K+3)*(s.rows.length+1-s.top)=(s.rows.length-(s.top+1))*(K+3)+2*(K+3):=by
   rw[show s.rows.length+1-s.top=(s.rows.length-(s.top+1))+2 by omega,Nat.mul_add,Nat.mul_comm (K+3),Nat.mul_comm (K+3)]
  exact fun r hr=>(oW hpos (ja hg _) hlow hg (by omega) s.top (Nat.le_refl _) r hr).mono (by omega)
theorem zGI {R K t:Nat} (h:t≤R):K≤hq R K t:=ro (R:=R) (K:=K) (Nat.zero_le t) h
theorem rm {R W K:Nat} {s:HS} (h:HOk R W K s) (h0:s.top=0):∀c,∀r∈(qP s c).rows,Bd r (hq R (K+3) (qP s c).top-3)
  | 0=>fun r hr=>(h.bd r hr).mono (by show K≤hq R (K+3) s.top-3;rw[h0];show K≤K+3-3;omega)
  | c+1=>by
    have ih:=rm h h0 c
    have ho:=wN h c
    have hg:=zGI (K:=K+3) ho.top
    show ∀r∈(if (qP s c).top<(qP s c).rows.length then vH (qP s c) c else qP s c).rows,Bd r (hq R (K+3) (if (qP s c).top<(qP s c).rows.length then vH (qP s c) c else qP s c).top-3)
    split
    · rename_i ht
      rcases nL c ho.row ht ih with ⟨e,hb⟩|⟨e,hb⟩
      · rw[e];exact hb
      · rw[e]
        show ∀r∈_,Bd r (hq R (K+3) (qP s c).top*(R+1-(qP s c).top)-3)
        rw[ho.len,show hq R (K+3) (qP s c).top-3+3=hq R (K+3) (qP s c).top by omega] at hb
        exact hb
    · exact ih
theorem nF {R W K:Nat} {s:HS} (h:HOk R W K s):∀c,(qP s c).top≤(qP s (c+1)).top∧(qP s (c+1)).top≤(qP s c).top+1:=fun c=>by
 have ho:=wN h c
 show _≤(if (qP s c).top<(qP s c).rows.length then vH (qP s c) c else qP s c).top∧(if (qP s c).top<(qP s c).rows.length then vH (qP s c) c else qP s c).top≤_
 split
 ·rename_i ht
  rcases nL c ho.row ht ho.bd with ⟨e,_⟩|⟨e,_⟩ <;> rw[e] <;> omega
 ·omega
theorem tV {R W K:Nat} {s:HS} (h:HOk R W K s) {c C:Nat} (hc:c≤C):(qP s c).top≤(qP s C).top:=by
  induction C with
  | zero=>rw[show c=0 by omega];exact Nat.le_refl _
  | succ C ih=>
    rcases Nat.lt_or_ge C c with g|g
    · rw[show c=C+1 by omega];exact Nat.le_refl _
    · exact Nat.le_trans (ih g) (nF h C).1
theorem rj {R W K:Nat} {s:HS} (h:HOk R W K s):∀c,(qP s c).top≤s.top+c
 | 0=>Nat.le_refl _
 | c+1=>by have:=rj h c;have:=(nF h c).2;omega
def hrk (R C:Nat) (L:List Int):Nat:=(hrm R C L).top
theorem zEP {R C K:Nat} {L:List Int} (h:Bd L K):hrk R C L≤C:=by
 have:=rj (jG (R:=R) (C:=C) h) C
 show (qP _ C).top≤C
 exact Nat.le_trans this (by show 0+C≤C;omega)
theorem hq_ask {R C K:Nat} {L:List Int} (h:Bd L K) (hR:R≤64) (hK:(K+4)*(R+2)^C≤1000000):hq R (K+4) (hrk R C L)*(R+2)≤80000000:=by
 have h1:=yz (R:=R) (K:=K+4) (hrk R C L)
 have h2:=Nat.mul_le_mul_left (K+4) (Nat.pow_le_pow_right (show 0<R+2 by omega) (zEP (R:=R) (C:=C) h))
 have h3:hq R (K+4) (hrk R C L)*(R+2)≤1000000*66:=Nat.mul_le_mul (Nat.le_trans h1 (Nat.le_trans h2 hK)) (by omega)
 omega
end Go.Hp
namespace Go.Hp
open Go.Dt Go.Hn Go.Pz Go.Nt Go.Mz Go.En
def gmF (C:Nat) (L:List Int):Nat→Nat→Int:=fun i k=>vI (fun j=>cf L (i*C+j)) (fun j=>cf L (k*C+j)) C
def gmL (R C:Nat) (L:List Int):List Int:=tab (R*R) R (gmF C L)
theorem lT (R C:Nat) (L:List Int):(gmL R C L).length=R*R:=qi _ _ _
theorem gmF_bd {C K:Nat} {L:List Int} (h:Bd L K) (i k:Nat):(List.length (zA (gmF C L i k).natAbs))≤K+K+C:=jC (fun _=>h _) (fun _=>h _) C
theorem zAL {R C K:Nat} {L:List Int} (h:Bd L K):Bd (gmL R C L) (K+K+C):=xr fun i k=>gmF_bd h i k
theorem zHC {R C:Nat} {f g:Nat→Nat→Int} (h:∀i k,i<R→k<C→f i k=g i k):tab (R*C) C f=tab (R*C) C g:=by
 refine pI (by rw[qi,qi]) fun j hj=>?_
 rw[qi] at hj
 obtain⟨i,k,hi,hk,rfl⟩:=jv hj
 rw[xH _ hk hj,xH _ hk hj,h i k hi hk]
theorem zAK {R C:Nat} {A B:List Int} (h:∀j k,j<C→k<R→cf B (j*R+k)=cf A (k*C+j)):(tab (R*R) R fun i k=>vI (fun j=>cf A (i*C+j)) (fun j=>cf B (j*R+k)) C)=gmL R C A:=
 zHC fun i k _ hk=>gj C (fun _ _=>rfl) fun j hj=>h j k hj hk
theorem zAJ {R C:Nat} (A:List Int):∀j k,j<C→k<R→cf (tab (C*R) R fun i k=>cf A (k*C+i)) (j*R+k)=cf A (k*C+j):=fun j k hj hk=>xH _ hk (zt hj hk)
def trG (C:Nat) (xs:List (Bool×List Nat)):Nat→Nat→Bool×List Nat:=fun i k=>xs.getD (k*C+i) (false,[])
theorem bQ {C i k:Nat} (g:Nat→Nat→Bool×List Nat) (hk:k<C):qx (i*C+k) C g++[g i k]=qx (i*C+(k+1)) C g:=by
 unfold qx
 rw[←Nat.add_assoc,List.range_succ,List.map_append,List.map_singleton,(cQ hk).1,(cQ hk).2]
theorem ic {C i:Nat} (g:Nat→Nat→Bool×List Nat):qx (i*C+C) C g=qx ((i+1)*C+0) C g:=by rw[Nat.succ_mul,Nat.add_zero]
theorem mB (N R C:Nat) (xs:List (Bool×List Nat)):zG (qx N R (trG C xs))=tab N R fun i k=>cf (zG xs) (k*C+i):=by
 rw[wn]
 refine congrArg _ ?_
 funext i k
 rw[qb];rfl
theorem zHB {N R C K:Nat} {xs:List (Bool×List Nat)} (h:Bd (zG xs) K):Bd (zG (qx N R (trG C xs))) K:=by
 rw[mB];exact xr fun i k=>h _
theorem hL11 : hL 2 1 [1,1]=[1,0]:=by
 have hb:Bd [1,1] 1:=bd64 (by decide)
 have hf:=dL (R:=2) (C:=1) hb
 have he:=zAI (R:=2) (C:=1) hb
 have hl:(hL 2 1 [1,1]).length=2:=pE hb
 have a0:mf 1 (hL 2 1 [1,1]) 0 0=cf (hL 2 1 [1,1]) 0:=rfl
 have a1:mf 1 (hL 2 1 [1,1]) 1 0=cf (hL 2 1 [1,1]) 1:=rfl
 obtain⟨A,hA⟩:∃A,A=mf 1 (hL 2 1 [1,1]):=⟨_,rfl⟩
 rw[←hA] at hf he a0 a1
 obtain⟨c0,h0⟩:=he.1 0 (by decide)
 obtain⟨d0,g0⟩:=he.2 0 (by decide)
 have h0:=h0 0 (by decide)
 have g0:=g0 0 (by decide)
 have e0:mf 1 [1,1] 0 0=1:=rfl
 have e1:mf 1 [1,1] 1 0=1:=rfl
 have s2:∀f:Nat→Int,sm 2 f=f 0+f 1:=fun f=>by show 0+f 0+f 1=_;omega
 rw[s2] at h0 g0
 rw[e0] at h0
 rw[e0,e1] at g0
 have h10:A 1 0=0:=by
  refine Classical.byContradiction fun hne=>?_
  have hfc:fc 1 (A 1)=0:=nV (by decide) (fun k hk=>absurd hk (Nat.not_lt_zero _)) hne
  have:=(hf 1 (by decide) (by rw[hfc];decide)).1 (by decide)
  omega
 have hpos:0≤A 0 0:=by
  by_cases hne:A 0 0=0
  ·omega
  ·have hfc:fc 1 (A 0)=0:=nV (by decide) (fun k hk=>absurd hk (Nat.not_lt_zero _)) hne
   have:=(hf 0 (by decide) (by rw[hfc];decide)).2.1
   rw[hfc] at this;omega
 have h00:A 0 0=1:=by
  rw[h10] at h0
  generalize A 0 0=x at*
  have hx2:x∣1:=⟨c0 0,by grind⟩
  have:=Int.le_of_dvd (by decide) hx2
  have hx0:x≠0:=fun e=>by subst e;omega
  omega
 refine pI hl fun j hj=>?_
 rw[hl] at hj
 rcases (show j=0∨j=1 by omega) with rfl|rfl
 ·rw[←a0,h00];rfl
 ·rw[←a1,h10];rfl
theorem gm11_p : pv (jw 1 (mf 1 [1,0]) 2)=[0]:=by decide
theorem gm11_b : Bd [1,1] 1:=bd64 (by decide)
theorem gm11_t : tab (2*1) 1 (fun i k=>cf [1,1] (i*1+k))=[1,1]:=by decide
end Go.Hp
namespace Go.Ll
open Go.Dt Go.Hp Go.Pz Go.En Go.Nt Go.Mz
theorem zDX {A:zI} (h:∀i j,A i j=A j i) {rs cs:List Nat} (hl:cs.length=rs.length):mn A rs cs=mn A cs rs:=by
 unfold mn
 rw[hl,←aX]
 exact zy fun i j _ _=>by unfold tr sub;exact h _ _
variable {n : Nat} {A : zI}
theorem kI (i j:Nat):qj n A i j=qj n A j i:=zf n _ _
def xe (n:Nat) (A:zI) (i k j:Nat):Int:=mn (qj n A) (k::rl j) (i::rl j)
theorem ee (i k:Nat):xe n A i k 0=ip n (A i) (A k):=by
 unfold xe
 rw[dq]
 show mn (qj n A) [] []*qj n A k i+0=_
 show 1*qj n A k i+0=_
 rw[Int.one_mul,Int.add_zero,kI];rfl
theorem cA (i j:Nat):xe n A i j j=lo n A (gw n A) i j:=(gX n A j i).symm
theorem ce (i:Nat):xe n A i i i=gd n A (i+1):=rfl
theorem pZ (i k j:Nat) (hd:gd n A j≠0):gd n A j*xe n A i k (j+1)=gd n A (j+1)*xe n A i k j-lo n A (gw n A) i j*lo n A (gw n A) k j:=by
 have h:=rW (qj n A) (rs:=rl j) (cs:=rl j) rfl hd k j i j
 have h1:mn (qj n A) (k::rl j) (j::rl j)=lo n A (gw n A) k j:=by rw[zDX (A:=qj n A) (fun i j=>kI i j) (rs:=k::rl j) (cs:=j::rl j) rfl];exact (gX n A j k).symm
 have h2:mn (qj n A) (j::rl j) (i::rl j)=lo n A (gw n A) i j:=(gX n A j i).symm
 rw[h1,h2] at h
 show gd n A j*mn (qj n A) (k::j::rl j) (i::j::rl j)=gd n A (j+1)*mn (qj n A) (k::rl j) (i::rl j)-_
 show mn (qj n A) (rl j) (rl j)*_=mn (qj n A) (j::rl j) (j::rl j)*_-_
 rw[←h,Int.mul_comm (lo n A (gw n A) k j),Int.mul_comm (mn (qj n A) (k::rl j) (i::rl j))]
theorem fU {K:Nat} (h:∀i k,(List.length (zA (qj n A i k).natAbs))≤K) (i k j:Nat):(List.length (zA (xe n A i k j).natAbs))≤(j+1)*(K+(j+1))+1:=by
 have:=gn (A:=sub (qj n A) (k::rl j) (i::rl j)) (fun _ _=>h _ _) (j+1)
 unfold xe mn
 rw[show (k::rl j).length=j+1 by rw[List.length_cons,jM]]
 exact this
def xJ (n R:Nat) (A:zI) (i k:Nat):List Int:=stL R (fun _=>0) (fun j=>lo n A (gw n A) i j) k
def xv (R i:Nat):List Int:=(List.replicate R (0:Int)).set i 1
theorem vC (n R:Nat) (A:zI) (i k:Nat):(xJ n R A i k).length=R:=xD _ _ _ _
theorem fW (R i:Nat):(xv R i).length=R:=by unfold xv;rw[List.length_set,List.length_replicate]
theorem fC {R:Nat} {i k j:Nat}:cf (xJ n R A i k) j=if j<k∧j<R then lo n A (gw n A) i j else 0:=by
 rcases Nat.lt_or_ge j R with g|g
 ·unfold xJ
  rw[jq g]
  by_cases e:j<k
  ·rw[if_pos e,if_pos ⟨e,g⟩]
  ·rw[if_neg e,if_neg (by omega)]
 ·rw[if_neg (by omega),wE (by rw[vC];exact g)]
theorem kB (R i:Nat):xJ n R A i 0=List.replicate R 0:=by
 refine List.ext_getElem? fun k=>?_
 rcases Nat.lt_or_ge k R with hk|hk
 ·unfold xJ
  rw[bR hk,if_neg (Nat.not_lt_zero _),List.getElem?_replicate,if_pos hk]
 ·rw[List.getElem?_eq_none (by rw[vC];exact hk),List.getElem?_eq_none (by rw[List.length_replicate];exact hk)]
theorem yi {R i k:Nat} (h:k<R):(xJ n R A i k).set k (lo n A (gw n A) i k)=xJ n R A i (k+1):=cl h
theorem pj {R i:Nat} (hi:i<R) (j:Nat):cf (xv R i) j=if j=i then 1 else 0:=by
 have e0:∀j,cf (List.replicate R (0:Int)) j=0:=fun j=>by
  unfold cf
  rw[List.getD_eq_getElem?_getD,List.getElem?_replicate]
  split <;> rfl
 unfold xv
 rw[wc 1 (by rw[List.length_replicate];exact hi)]
 show (if j=i then 1 else cf (List.replicate R 0) j)=_
 rw[e0]
theorem nz0' : nz 0=(false,[]):=Prod.ext rfl zJ
structure BG (n R:Nat) (A:zI) (i:Nat) (ds:List Int) (ls us:List Row):Prop where
 hd:ds=(List.range (i+1)).map (gd n A)
 hl:ls.map Prod.snd=(List.range i).map fun t=>xJ n R A t t
 hu:us.map Prod.snd=(List.range i).map (xv R)
variable {R i : Nat} {ds : List Int} {ls us : List Row}
theorem BG.dl (h:BG n R A i ds ls us):ds.length=i+1:=by rw[h.hd,List.length_map,List.length_range]
theorem BG.ll (h:BG n R A i ds ls us):ls.length=i:=by have:=congrArg List.length h.hl;rwa [List.length_map,List.length_map,List.length_range] at this
theorem BG.ul (h:BG n R A i ds ls us):us.length=i:=by have:=congrArg List.length h.hu;rwa [List.length_map,List.length_map,List.length_range] at this
theorem BG.cd (h:BG n R A i ds ls us) {t:Nat} (ht:t≤i):cf ds t=gd n A t:=by
 rw[h.hd];unfold cf
 rw[List.getD_eq_getElem?_getD,List.getElem?_map,List.getElem?_range (by omega)];rfl
theorem BG.lr (h:BG n R A i ds ls us) {t:Nat} {r:Row} (hr:ls[t]?=some r):r.2=xJ n R A t t:=by
 have ht:=qt hr
 rw[h.ll] at ht
 have:=congrArg (fun l=>l[t]?) h.hl
 rw[List.getElem?_map,hr,List.getElem?_map,List.getElem?_range ht] at this
 exact Option.some.inj this
theorem BG.ur (h:BG n R A i ds ls us) {t:Nat} {r:Row} (hr:us[t]?=some r):r.2=xv R t:=by
 have ht:=qt hr
 rw[h.ul] at ht
 have:=congrArg (fun l=>l[t]?) h.hu
 rw[List.getElem?_map,hr,List.getElem?_map,List.getElem?_range ht] at this
 exact Option.some.inj this
theorem BG.first (n R:Nat) (A:zI):BG n R A 0 [1] [] []:=⟨rfl,rfl,rfl⟩
theorem BG.next (h:BG n R A i ds ls us) (g g':Gr (Bool×List Nat)):BG n R A (i+1) (ds++[gd n A (i+1)]) (ls++[(g,xJ n R A i i)]) (us++[(g',xv R i)]):=by
 refine⟨?_,?_,?_⟩
 ·rw[h.hd,List.range_succ (n:=i+1),List.map_append];rfl
 ·rw[List.map_append,h.hl,List.range_succ,List.map_append];rfl
 ·rw[List.map_append,h.hu,List.range_succ,List.map_append];rfl
theorem zDP {R:Nat} {l:List Int} (hl:l.length=R*R) (hs:∀i k,i<R→k<R→cf l (i*R+k)=cf l (k*R+i)):(tab (R*R) R fun i k=>cf l (k*R+i))=l:=by
 refine List.ext_getElem? fun p=>?_
 rcases Nat.lt_or_ge p (R*R) with g|g
 ·have hR:0<R:=Nat.pos_of_ne_zero fun e=>by subst e;omega
  have hk:p%R<R:=Nat.mod_lt _ hR
  have hi:p/R<R:=(Nat.div_lt_iff_lt_mul hR).2 g
  have e:p/R*R+p%R=p:=by have:=Nat.div_add_mod p R;rw[Nat.mul_comm] at this;exact this
  have h1:=xH (N:=R*R) (C:=R) (fun i k=>cf l (k*R+i)) hk (by rw[e];exact g)
  rw[e] at h1
  rw[vE (by rw[qi];exact g),vE (by omega),h1,←hs _ _ hi hk,e]
 ·rw[List.getElem?_eq_none (by rw[qi];exact g),List.getElem?_eq_none (by omega)]
theorem zEE {R K K2 i k:Nat} (hgw:∀i k,(List.length (zA (qj n A i k).natAbs))≤K) (hK2:∀j,j≤R→(j+1)*(K+(j+1))+1≤K2):Bd (xJ n R A i k) K2:=fun j=>by
 rw[fC]
 split
 ·rename_i g
  rw[←cA]
  exact Nat.le_trans (fU hgw i j j) (hK2 j (by omega))
 ·rw[Int.natAbs_zero,zJ];exact Nat.zero_le _
theorem BG.dbK {K K2:Nat} (h:BG n R A i ds ls us) (hi:i≤R) (hgw:∀i k,(List.length (zA (qj n A i k).natAbs))≤K) (hK2:∀j,j≤R→(j+1)*(K+(j+1))+1≤K2):Bd ds K2:=fun t=>by
  rcases Nat.lt_or_ge i t with g|g
  · rw[wE (by rw[h.dl];omega),Int.natAbs_zero,zJ];exact Nat.zero_le _
  · rw[h.cd g]
    cases t with
    | zero=>
      have:=hK2 0 (Nat.zero_le _)
      exact Nat.le_trans (show (List.length (zA (1:Int).natAbs))≤1 from qL (by decide)) (show 1≤K2 by omega)
    | succ s=>
      rw[←ce]
      exact Nat.le_trans (fU hgw s s s) (hK2 s (by omega))
theorem BG.stepE (h:BG n R A i ds ls us) (hi:i<R) (hpos:∀t,t≤R→0<gd n A t) {k:Nat} (hk:k≤i) (hkR:k<R) {l:List Int} (hl:l=xJ n R A k k):∀j,j<k→cf ds j≠0∧cf ds j*xe n A i k (j+1)=cf ds (j+1)*xe n A i k j-cf (xJ n R A i k) j*cf l j:=fun j hj=>by
 have hd:=hpos j (by omega)
 rw[h.cd (show j≤i by omega),h.cd (show j+1≤i by omega),hl,fC,fC,if_pos ⟨hj,by omega⟩,if_pos ⟨hj,by omega⟩]
 exact⟨by omega,pZ i k j (by omega)⟩
theorem OD.congr {R:Nat} {A':zI} {d d':Nat→Int} {w:zI} (h:OD n R A d w) (e:∀i,i<R→∀k,A' i k=A i k) (ed:∀t,t≤R→d' t=d t):OD n R A' d' w where
 d0:=by rw[ed 0 (Nat.zero_le _)];exact h.d0
 pos:=fun t ht=>by rw[ed t ht];exact h.pos t ht
 sp:=fun t ht=>by
  have h1:SpZ t n A' fun k=>1*w t k+(-(d t))*A t k:=(h.sp t ht).trans fun r hr=>(SpZ.row A' hr).congr fun k _=>(e r (by omega) k).symm
  exact h1.congr fun k _=>by rw[ed t (by omega),e t ht]
 ort:=fun t j ht hj=>by
  rw[zf,qY (u':=A j) fun k _=>e j (by omega) k,zf];exact h.ort t j ht hj
 nx:=fun t ht=>by
  rw[ed (t+1) (by omega),zf,qY (u':=A t) fun k _=>e t ht k,zf];exact h.nx t ht
theorem BG.uB (h:BG n R A R ds ls us) {i:Nat} (hi:i<R) (k:Nat):Ll.uB R (us.map Prod.snd) A i k=A i k:=by
 have e:∀r,mL (us.map Prod.snd) i r=if r=i then 1 else 0:=fun r=>by
  obtain⟨u,hu⟩:∃r,us[i]?=some r:=⟨_,List.getElem?_eq_getElem (by rw[h.ul];exact hi)⟩
  rw[qg hu,h.ur hu,pj hi]
 show (Dt.sm R fun r=>mL (us.map Prod.snd) i r*A r k)=_
 rw[zS fun r _=>by rw[e r]]
 exact wq (fun r=>A r k) hi
theorem BG.mL (h:BG n R A R ds ls us) {i:Nat} (hi:i<R) (j:Nat):Ll.mL (ls.map Prod.snd) i j=if j<i∧j<R then lo n A (gw n A) i j else 0:=by
 obtain⟨u,hu⟩:∃r,ls[i]?=some r:=⟨_,List.getElem?_eq_getElem (by rw[h.ll];exact hi)⟩
 rw[qg hu,h.lr hu,fC]
theorem BG.rs {D N p q:Int} (h:BG n R A R ds ls us) (hpos:∀t,t≤R→0<gd n A t) (hD:∀t,t≤R→gd n A t≤D) (hN:((R:Nat):Int)*D≤N) (hN1:1≤N) (hA:∀i,i<R→ip n (A i) (A i)≤N):
  RS n R A D N p q ds (ls.map Prod.snd) (us.map Prod.snd) 0 ds ls us 1 1:=by
 have hip:∀i,i<R→ip n (Ll.uB R (us.map Prod.snd) A i) (Ll.uB R (us.map Prod.snd) A i)≤N:=fun i hi=>by
  have e:Ll.uB R (us.map Prod.snd) A i=A i:=funext fun k=>h.uB hi k
  rw[e];exact hA i hi
 have hli:LI n R A ds (ls.map Prod.snd) (us.map Prod.snd) (gw n A):={
  hL:=by rw[List.length_map,h.ll]
  hU:=by rw[List.length_map,h.ul]
  od:=(OD.made n R A hpos).congr (fun i hi k=>h.uB hi k) fun t ht=>h.cd ht
  hlo:=fun i j hi hj=>by
   rw[h.mL hi,if_pos ⟨hj,by omega⟩]
   unfold lo
   rw[zf,zf n _ (Ll.uB R (us.map Prod.snd) A i)]
   exact qY fun k _=>(h.uB hi k).symm }
 have hj:RJ n R A D N ds (ls.map Prod.snd) (us.map Prod.snd) (gw n A) 1 1:={
  li:=hli
  hd:=fun t ht=>by rw[h.cd ht];exact hD t ht
  hN:=hN
  hN1:=hN1
  red:=fun i t h1 _ h3=>absurd h3 (by omega)
  sm:=fun _ t h1 h2=>absurd h2 (by omega)
  nrm:=fun i hi _=>hip i hi
  cand:=fun h1=>by
   have hd1:=hD 0 (Nat.zero_le _)
   have hp0:=hpos 0 (Nat.zero_le _)
   have hf:1≤10*(D*D*N):=by
    have h2:=Int.mul_pos (Int.mul_pos (show 0<D by omega) (show 0<D by omega)) (show 0<N by omega)
    omega
   have h3:=cN hf (R-1)
   have h4:N*1≤N*(10*(D*D*N))^(R-1):=Int.mul_le_mul_of_nonneg_left h3 (by omega)
   have:=hip 1 h1
   omega }
 have h1:∀r∈ls,r.2.length=R:=fun r hr=>by
  obtain⟨i,hi⟩:=List.getElem?_of_mem hr
  rw[h.lr hi];exact vC _ _ _ _ _
 have h2:∀r∈us,r.2.length=R:=fun r hr=>by
  obtain⟨i,hi⟩:=List.getElem?_of_mem hr
  rw[h.ur hi];exact fW _ _
 exact { ex:=⟨_,hj⟩,lr:=.start,dl:=h.dl,hlr:=h1,hur:=h2,zd:=fun i j hi hij=>by rw[h.mL hi,if_neg (by omega)],st:=fun t ht=>absurd ht (by omega) }
end Go.Ll
namespace Go.Proofs.YtchbfpcaibfkdaaGreat
open Go.En Go.RowKit
set_option maxRecDepth 10000
set_option maxHeartbeats 4000000
open Go.Nt
open Go.Pz
open Go.Mz
open Go.Hn
open Go.Hp
open Go.Dt
theorem ns {r c r2 c2:Int} {xs ys:List (Bool×List Nat)}:Ctr Tryz.prog 132 [isM r c xs,isM r2 c2 ys] (isB (xc r c xs.length&&xc r2 c2 ys.length&&decide (r=r2)&&decide (c=c2))):=by
 refine Ctr.i Tryz.func132 rfl Tryz.ntmps132 fun w0 F0=>.w [0,1] rfl (.sr fun k1=>.box (.t rfl) rfl fun b1=>.box (.t rfl) rfl fun b2=>st (.as (.cB false)) rfl (nkQ k1 (.sr fun k2=>st (.load (.t rfl) (i:=1) rfl zL rfl (Ss':=[_,_,_]) rfl) rfl (st (.call (qO) (.cons (.t rfl) .nil)) rfl (stM rfl (stT rfl rfl (fun hg=>.load (.t rfl) (i:=0) rfl zL rfl (Ss':=[_,_,_]) rfl) rfl (stT rfl rfl (fun hg=>.call (qO) (.cons (Has.g rfl hg) .nil)) rfl (st (.pickAnd (.t rfl) (fun h=>Has.g rfl h)) rfl (stM rfl (stT rfl rfl (fun hg=>.fieldAddr (.t rfl) zY ty3) rfl (stT rfl rfl (fun hg=>.load1 (Has.g rfl hg) (i:=1) rfl ty3 rfl) rfl (stT rfl rfl (fun hg=>.fieldAddr (.t rfl) zY ty3) rfl (stT rfl rfl (fun hg=>.load1 (Has.g rfl hg) (i:=0) rfl ty3 rfl) rfl (stT rfl rfl (fun hg=>.eqI (Has.g rfl hg) (Has.g rfl hg)) rfl (st (.pickAnd (.t rfl) (fun h=>Has.g rfl h)) rfl (stM rfl (stT rfl rfl (fun hg=>.fieldAddr (.t rfl) zo ty3) rfl (stT rfl rfl (fun hg=>.load1 (Has.g rfl hg) (i:=1) rfl ty3 rfl) rfl (stT rfl rfl (fun hg=>.fieldAddr (.t rfl) zo ty3) rfl (stT rfl rfl (fun hg=>.load1 (Has.g rfl hg) (i:=0) rfl ty3 rfl) rfl (stT rfl rfl (fun hg=>.eqI (Has.g rfl hg) (Has.g rfl hg)) rfl ?_)))))))))))))))))))))
 refine st (.pickAnd (.t rfl) (fun h=>Has.g rfl h)) rfl (stM rfl (nkQ k2 (.w [4] rfl (.ret (rt1 (.inl rfl) Tryz.results132 rfl (.tmp (Has.t' rfl ?_) .nil))))))
 all_goals (rfl)
theorem iK {xs ys:List (Bool×List Nat)} {K:Nat} (hx:Bd (zG xs) K) (hy:Bd (zG ys) K):Ctr Tryz.prog 133 [SlK 2 zc xs,SlK 2 zc ys,dI (ι:=PR K) Tryz.prog (fun p=>[zk (zc p.1.1),zk (zc p.1.2)]) (fun p=>isB (decide (zv p.1.1.1 p.1.1.2=zv p.1.2.1 p.1.2.2)))] (isB (decide (zG xs=zG ys))):=by
 refine Ctr.i Tryz.func133 rfl Tryz.ntmps133 fun w0 F0=>.w [0,1,2] rfl (.fact (Has.lenLt (Has.t (t:=0) rfl)) fun lt0=>.fact (Has.lenLt (Has.t (t:=1) rfl)) fun lt1=>.sr fun k1=>st (.as (.cB false)) rfl (nkQ k1 (.sq fun k2=>.sr fun k3=>stM rfl (st (.len zz (.t rfl)) rfl (stM rfl (st (.len zz (.t rfl)) rfl (st (.neI (.t rfl) (.t rfl)) rfl (nkQ k3 (.cd rfl (fun hc1=>?_) (fun hc1=>?_))))))))))
 ·refine .sr fun k4=>st (.as (.cB false)) rfl (nkQ k4 (.w [0,1,2,6] rfl (.ret (.thr (rt1 (.inl rfl) Tryz.results133 rfl (.tmp (Has.t' rfl ?_) .nil))))))
  all_goals (exact zl (decide_eq_false fun h=>by have:=congrArg List.length h;rw[xy,xy] at this;omega).symm)
 ·have hll:xs.length=ys.length:=(by omega)
  refine .skip (.nk k2 (.w [0,1,2,6] rfl (.sq fun k5=>.sr fun k6=>stM rfl (st (.len zz (.t rfl)) rfl (st (.mv (.cI 0 rfl)) rfl (nkQ k6 (.block (.loopF [1,2,15,16] (fun (z:{ i:Nat//i≤xs.length∧∀j,j<i→cf (zG xs) j=cf (zG ys) j })=>match z with|⟨i,hI⟩=>[(17,isI (i:Int))]) (fun M=>fun (z:{ i:Nat//i≤xs.length∧∀j,j<i→cf (zG xs) j=cf (zG ys) j })=>match z with|⟨i,hI⟩=>M) (fun (z:{ i:Nat//i≤xs.length∧∀j,j<i→cf (zG xs) j=cf (zG ys) j })=>match z with|⟨i,hI⟩=>xs.length-i) (⟨0,Nat.zero_le _,fun j hj=>absurd hj (Nat.not_lt_zero _)⟩) (Cv.mem (.c 17 rfl ?_ (.l [1,2,15,16] rfl)) ?_) ?_))))))))
  ·rfl
  ·rfl
  rintro⟨i,hi,hq⟩ K7 hK7
  refine .w [17,1,2,15,16] rfl (.sr fun k8=>st (.ltI (.t rfl) (.t rfl)) rfl (nkQ k8 (.sq fun k9=>.cd rfl (fun hc2=>?_) (fun hc2=>?_))))
  ·refine .skip (.nk k9 (.sq fun k10=>.block (.sr fun k11=>stM rfl (st (.ixK zz zE (.t rfl) (.t rfl) zN (by omega) (getD_some (d:=(false,[])) (by omega))) rfl (st (.loadP (.t rfl) zE rfl (Ss':=[_,_]) rfl) rfl (.alloc [isB false,SlM isU []] zK (fun _ _=>⟨rfl,nilM _ _,trivial⟩) rfl fun b1=>stM rfl (.store (.t rfl) (.t rfl) (i:=0) rfl zE rfl rfl (Ss':=[_,_]) rfl (M':=[(some _,zC [_,_])]) rfl (nkQ k11 (.sr fun k12=>stM rfl (stM rfl (st (.ixK zz zE (.t rfl) (.t rfl) zN (by omega) (getD_some (d:=(false,[])) (by omega))) rfl (st (.loadP (.t rfl) zE rfl (Ss':=[_,_]) rfl) rfl (.alloc [isB false,SlM isU []] zK (fun _ _=>⟨rfl,nilM _ _,trivial⟩) rfl fun b2=>.store (.t rfl) (.t rfl) (i:=0) rfl zE rfl rfl (Ss':=[_,_]) rfl (M':=[(some _,zC [_,_]),_]) rfl (nkQ k12 (.sr fun k13=>stM rfl (st (.load (.t rfl) (i:=1) rfl zE rfl (Ss':=[_,_]) rfl) rfl (st (.load (.t rfl) (i:=0) rfl zE rfl (Ss':=[_,_]) rfl) rfl (st (.callV ⟨(xs.getD i (false,[]),ys.getD i (false,[])),hx.raw i,hy.raw i⟩ (.t rfl) (.cons (.t rfl) (.cons (.t rfl) .nil))) rfl (st (.not (.t rfl)) rfl (nkQ k13 (.cd rfl (fun hc3=>?_) (fun hc3=>?_))))))))))))))))))))))
   ·have HQ:¬cf (zG xs) i=cf (zG ys) i:=(by rw[qb,qb];simpa using hc3)
    refine .sr fun k14=>st (.as (.cB false)) rfl (nkQ k14 (.ret (.blr (.thr (.thr (.blr (.thr (rt1 (.inl rfl) Tryz.results133 rfl (.tmp (Has.t' rfl ?_) .nil)))))))))
    all_goals (exact zl (decide_eq_false fun h=>HQ (by rw[h])).symm)
   ·have HQ:cf (zG xs) i=cf (zG ys) i:=(by rw[qb,qb];simpa using hc3)
    refine .skip (.bln (.nk k10 (.region (st (.addI (.t rfl) (.cI 1 rfl) (by omega) (by omega)) rfl (stM rfl (nl (.thn ?_)))))))
    refine hK7 (⟨i+1,by omega,fun j hj=>by rcases Nat.lt_or_ge j i with h|h;exact hq j h;obtain rfl:j=i:=(by omega);exact HQ⟩) _ _ ?_ (Cv.trans (Cv.drop ((.cons _ (.cons _ .slnil)))) (Cv.mem (.c 17 rfl ?_ (.l [1,2,15,16] rfl)) ?_))
    ·show xs.length-(i+1)<xs.length-i;omega
    ·exact zF (by omega)
    ·rfl
  ·refine .exit (.the (.the (.blh (.nk k5 (.cv (Cv.wk .nil) (.sr fun k15=>st (.as (.cB true)) rfl (nkQ k15 (.ret (rt1 (.inl rfl) Tryz.results133 rfl (.tmp (Has.t' rfl ?_) .nil))))))))))
   all_goals (exact zl (decide_eq_true (pI (by rw[xy,xy];exact hll) fun j hj=>hq j (by rw[xy] at hj;omega))).symm)
theorem sT {r c r2 c2:Int} {xs ys:List (Bool×List Nat)} {K:Nat} (hx:Bd (zG xs) K) (hy:Bd (zG ys) K) (hK:K≤4000000000):Ctr Tryz.prog 125 [isM r c xs,isM r2 c2 ys] (isB (xc r c xs.length&&xc r2 c2 ys.length&&decide (r=r2)&&decide (c=c2)&&decide (zG xs=zG ys))):=by
 refine Ctr.i Tryz.func125 rfl Tryz.ntmps125 fun w0 F0=>.w [0,1] rfl (.sr fun k1=>.box (.t rfl) rfl fun b1=>.box (.t rfl) rfl fun b2=>st (.as (.cB false)) rfl (nkQ k1 (.sr fun k2=>st (.load (.t rfl) (i:=1) rfl zL rfl (Ss':=[_,_,_]) rfl) rfl (st (.load (.t rfl) (i:=0) rfl zL rfl (Ss':=[_,_,_]) rfl) rfl (st (.call (ns) (.cons (.t rfl) (.cons (.t rfl) .nil))) rfl (stM rfl (stT rfl rfl (fun hg=>.fieldAddr (.t rfl) qU zP) rfl (stT rfl rfl (fun hg=>.load1 (Has.g rfl hg) (i:=1) rfl zP rfl) rfl (stT rfl rfl (fun hg=>.fieldAddr (.t rfl) qU zP) rfl (stT rfl rfl (fun hg=>.load1 (Has.g rfl hg) (i:=0) rfl zP rfl) rfl ?_))))))))))
 refine stT rfl rfl (fun hg=>have hg':=BP.t hg;OK1.call (iK hx hy) (.cons (Has.g rfl hg) (.cons (Has.g rfl hg) (.cons (Has.fn (fun i=>bK (by have:=i.2.1;omega) (by have:=i.2.2;omega))) .nil)))) rfl ?_
 refine st (.pickAnd (.t rfl) (fun h=>Has.g rfl h)) rfl (stM rfl (nkQ k2 (.w [4] rfl (.ret (rt1 (.inl rfl) Tryz.results125 rfl (.tmp (Has.t' rfl ?_) .nil))))))
 all_goals (rfl)
end Go.Proofs.YtchbfpcaibfkdaaGreat
namespace Go.Proofs.YtchbfpcaibfkdaaGreat
open Go.En Go.RowKit
set_option maxRecDepth 10000
set_option maxHeartbeats 4000000
open Go.Nt
open Go.Pz
open Go.Mz
open Go.Dt
open Go.Ll
theorem re {R K:Nat} {xs:List (Bool×List Nat)} (hx:Bd (zG xs) K) (hK:K≤100000000) (hR:R≤64) (hl:xs.length=R*R) (hs:∀i k,i<R→k<R→cf (zG xs) (i*R+k)=cf (zG xs) (k*R+i)):Ctr Tryz.prog 112 [isM (R:Int) (R:Int) xs] (isB true):=by
 refine Ctr.i Tryz.func112 rfl Tryz.ntmps112 fun w0 F0=>.w [0] rfl ?_
 have hRR:=qT hR hR
 obtain⟨T,hT⟩:∃T,T=(tab (R*R) R fun i k=>cf (zG xs) (k*R+i)):=⟨_,rfl⟩
 have hTl:T.length=R*R:=by rw[hT];exact qi _ _ _
 have hTb:Bd T K:=by rw[hT];exact xr fun i k=>hx _
 have hTv:T=zG xs:=by rw[hT];exact zDP (by rw[xy,hl]) hs
 refine .sr fun k1=>.box (.t rfl) rfl fun b1=>st (.as (.cB false)) rfl (nkQ k1 (.sr fun k2=>st (.load (.t rfl) (i:=0) rfl zL rfl (Ss':=[_,_,_]) rfl) rfl (st (.eq (.call (ai hx (by omega) hR hR hl) (.cons (.t rfl) .nil)) ((show _=zZ [xW R R T,isI 0] from by rw[hT]))) rfl (stM rfl (st (.ext (.t rfl) rfl) rfl (st (.ext (.t rfl) rfl) rfl (.alloc [isI 0,isI 0,zi] zX (fun _ _=>⟨⟨rfl,by decide,by decide⟩,⟨rfl,by decide,by decide⟩,rfl,trivial⟩) rfl fun b2=>.store (.t rfl) (.t rfl) (i:=0) rfl zL rfl rfl (Ss':=[_,_,_]) rfl (M':=[(some _,zC [_,_,_]),_]) rfl (stM rfl (nkQ k2 (.w [1,2,3,4] rfl (.sr fun k3=>stM rfl (st (.eqI (.t rfl) (.cI 0 rfl)) rfl (stM rfl (stT rfl rfl (fun hg=>.load (.t rfl) (i:=0) rfl zL rfl (Ss':=[_,_,_]) rfl) rfl (stT rfl rfl (fun hg=>.load (.t rfl) (i:=1) rfl zL rfl (Ss':=[_,_,_]) rfl) rfl ?_)))))))))))))))
 refine stT rfl rfl (fun hg=>have hg':=BP.t hg;OK1.eq (.call (sT (K:=K) (by rw[zQ];exact hTb) hx (by omega)) (.cons (Has.g rfl hg) (.cons (Has.g rfl hg) .nil))) ((show isB _=isB true from zl (by show (xc (R:Int) (R:Int) (T.map nz).length&&xc (R:Int) (R:Int) xs.length&&_&&_&&_)=true;rw[show xc (R:Int) (R:Int) (T.map nz).length=true from qK hR hR (by rw[List.length_map,hTl]),show xc (R:Int) (R:Int) xs.length=true from qK hR hR hl,zQ,hTv];simp)))) rfl ?_
 refine st (.pickAnd (.t rfl) (fun h=>Has.g rfl h)) rfl (stM rfl (nkQ k3 (.w [2] rfl (.ret (rt1 (.inl rfl) Tryz.results112 rfl (.tmp (Has.t' rfl ?_) .nil))))))
 all_goals (rfl)
theorem kC {bw cu R K L:Nat} {gd:Gr (Bool×List Nat)} {gl gu:Gr Row} {ds:List Int} {ls:List Row} {m n:Bool} {ps qs:List Nat} {sw:Int} {xs:List (Bool×List Nat)} {i k:Nat} {r rk:Row} {X:Nat→Int} (hx:Bd (zG xs) L) (hL:L≤100000000) (hR:R≤64) (hl:xs.length=R*R) (hi:i<R) (hk:k<R) (hr:ls[i]?=some r) (hrk:ls[k]?=some rk) (hrl:k≤r.2.length) (hrkl:k≤rk.2.length) (hdl:k<ds.length) (hdb:Bd ds K) (hrb:Bd r.2 K) (hrkb:Bd rk.2 K) (hK:K≤100000000) (hX0:X 0=cf (zG xs) (i*R+k)) (hX:∀j,j<k→cf ds j≠0∧cf ds j*X (j+1)=cf ds (j+1)*X j-cf r.2 j*cf rk.2 j) (hXb:∀j,j≤k→(List.length (zA (X j).natAbs))≤K):CtrX Tryz.prog 113 [qX bw 0,isM (R:Int) (R:Int) xs,isI (i:Int),isI (k:Int)] (lw0 bw R gd gl gu (ds.map nz).length ls.length cu m n ps qs sw::zj zc gd (ds.map nz)::grM qQ gl ls::ls.map qo) (fun S M=>S=isZ (X k)∧M=lw0 bw R gd gl gu (ds.map nz).length ls.length cu m n ps qs sw::zj zc gd (ds.map nz)::grM qQ gl ls::ls.map qo):=by
 refine CtrX.i Tryz.func113 rfl Tryz.ntmps113 fun w0 F0=>.w [0,1,2,3] rfl (.fact (Has.rngI (Has.t (t:=2) rfl)) fun lt2=>.fact (Has.rngI (Has.t (t:=3) rfl)) fun lt3=>?_)
 have hdL:(ds.map nz).length=ds.length:=List.length_map _
 have hrL:(r.2.map nz).length=r.2.length:=List.length_map _
 have hrkL:(rk.2.map nz).length=rk.2.length:=List.length_map _
 have hiL:=qt hr
 have hkL:=qt hrk
 refine .sr fun k1=>.box (.t rfl) rfl fun b1=>.alloc [isB false,SlM isU []] zK (fun _ _=>⟨rfl,nilM _ _,trivial⟩) rfl fun b2=>nkQ k1 (.sr fun k2=>st (.load (.t rfl) (i:=1) rfl zL rfl (Ss':=[_,_,_]) rfl) rfl (stM rfl (stM rfl (st (.eq (.call (cY (R:=R) (C:=R) (i:=i) (k:=k) hx (by omega) hR hR hl hi hk) (.cons (.t rfl) (.cons (.t rfl) (.cons (.t rfl) .nil)))) ((show isZ _=isZ (X 0) from zO (by rw[hX0])))) rfl (.alloc [isB false,SlM isU []] zK (fun _ _=>⟨rfl,nilM _ _,trivial⟩) rfl fun b3=>.store (.t rfl) (.t rfl) (i:=0) rfl zE rfl rfl (Ss':=[_,_]) rfl (M':=((some _,zC [_,_])::_::_::_::_::_::_)) rfl (nkQ k2 (.w [0,2,3,8,9] rfl (.sq fun k3=>.sr fun k4=>stM rfl (st (.mv (.cI 0 rfl)) rfl (nkQ k4 (.block (.loopF [0,2,3,8,9,15] (fun (z:{ j:Nat//j≤k })=>match z with|⟨j,hj⟩=>[(16,isI (j:Int))]) (fun M=>fun (z:{ j:Nat//j≤k })=>match z with|⟨j,hj⟩=>(zM b3 (X j)::(some b2,zC [isB false,SlM isU []])::(some b1,zC [isI (R:Int),isI (R:Int),SlK 2 zc xs])::lw0 bw R gd gl gu (ds.map nz).length ls.length cu m n ps qs sw::zj zc gd (ds.map nz)::grM qQ gl ls::ls.map qo)) (fun (z:{ j:Nat//j≤k })=>match z with|⟨j,hj⟩=>k-j) (⟨0,Nat.zero_le _⟩) (Cv.mem (.c 16 rfl ?_ (.l [0,2,3,8,9,15] rfl)) ?_) ?_))))))))))))
 ·rfl
 ·rfl
 rintro⟨j,hj⟩ K5 hK5
 refine .w [16,0,2,3,8,9,15] rfl (.memEq (M':=(zM b3 (X j)::(some b2,zC [isB false,SlM isU []])::(some b1,zC [isI (R:Int),isI (R:Int),SlK 2 zc xs])::lw0 bw R gd gl gu (ds.map nz).length ls.length cu m n ps qs sw::zj zc gd (ds.map nz)::grM qQ gl ls::ls.map qo)) rfl (.sr fun k6=>st (.ltI (.t rfl) (.t rfl)) rfl (nkQ k6 (.sq fun k7=>.cd rfl (fun hc1=>?_) (fun hc1=>?_)))))
 ·obtain⟨hx1,hx2⟩:=hX j (by omega)
  have hXj:=hXb j (by omega)
  have hXj1:=hXb (j+1) (by omega)
  have hd0:=hdb j
  have hd1:=hdb (j+1)
  have hr0:=hrb j
  have hk0:=hrkb j
  have m1:=qA (cf ds (j+1)) (X j)
  have m2:=qA (cf r.2 j) (cf rk.2 j)
  have m3:=gD (cf ds (j+1)*X j) (cf r.2 j*cf rk.2 j)
  refine .skip (.nk k7 (.sq fun k8=>.block (.sr fun k9=>stM rfl (stM rfl (nkQ k9 (.dr (.m [] rfl (.so [19] rfl (.nilc (.t rfl)) (.so [20] rfl (.fieldAddr (.t rfl) xG zP) (.so [21] rfl (.load1 (.t rfl) (i:=3) rfl zP rfl) (.m [] rfl (.so [23] rfl (.eq (.addI (.t rfl) (.cI 1 rfl) (by first|omega|assumption) (by first|omega|assumption)) ((show isI _=isI ((j+1:Nat):Int) from zF (by omega)))) (.so [22,24] rfl (.ixGr zz zE (.t rfl) (.t rfl) (by omega)) ?_)))))))))))))
  refine .so [25] rfl (.loadGK zN (.t rfl) (i:=4) rfl zE (xn (i:=j+1) (by omega))) (.so [] rfl (.load (.t rfl) (i:=0) rfl zE rfl (Ss':=[_,_]) rfl) (.so [26,27] rfl (.eq (.call (qE (by first|omega|(rw[zB];omega)) (by first|omega|(rw[zB];omega))) (.cons (.t rfl) (.cons (.t rfl) .nil))) ((show isZ _=isZ (cf ds (j+1)*X j) from zO (by (try simp only[qN]);(try simp only[zH]))))) ?_))
  refine .m [] rfl (.so [29] rfl (.nilc (.t rfl)) (.so [30] rfl (.fieldAddr (.t rfl) qa zu) (.so [31] rfl (.load1 (.t rfl) (i:=3) rfl zu rfl) (.m [] rfl (.so [32,33] rfl (.ixGr qn zP (.t rfl) (.t rfl) (by omega)) ?_)))))
  refine .so [34] rfl (.loadGM (.t rfl) (i:=5) rfl zP hr) (.m [] rfl (.so [35,36] rfl (.ixGr zz zE (.t rfl) (.t rfl) (by omega)) ?_))
  refine .so [37] rfl (.loadGK zN (.t rfl) (i:=6+i) (jU (pre:=[_,_,_,_,_,_]) hr) zE (xn (i:=j) (by omega))) (.m [] rfl (.so [39] rfl (.nilc (.t rfl)) (.so [40] rfl (.fieldAddr (.t rfl) qa zu) (.so [41] rfl (.load1 (.t rfl) (i:=3) rfl zu rfl) (.m [] rfl (.so [42,43] rfl (.ixGr qn zP (.t rfl) (.t rfl) (by omega)) ?_))))))
  refine .so [44] rfl (.loadGM (.t rfl) (i:=5) rfl zP hrk) (.m [] rfl (.so [45,46] rfl (.ixGr zz zE (.t rfl) (.t rfl) (by omega)) ?_))
  refine .so [47] rfl (.loadGK zN (.t rfl) (i:=6+k) (jU (pre:=[_,_,_,_,_,_]) hrk) zE (xn (i:=j) (by omega))) (.so [38,48] rfl (.eq (.call (qE (by first|omega|(rw[zB];omega)) (by first|omega|(rw[zB];omega))) (.cons (.t rfl) (.cons (.t rfl) .nil))) ((show isZ _=isZ (cf r.2 j*cf rk.2 j) from zO (by (try simp only[qN]);(try simp only[zH]))))) ?_)
  refine .so [28,49] rfl (.eq (.call (vN (by first|omega|(rw[zB];omega)) (by first|omega|(rw[zB];omega))) (.cons (.t rfl) (.cons (.t rfl) .nil))) ((show isZ _=isZ (cf ds (j+1)*X j-cf r.2 j*cf rk.2 j) from zO (by (try simp only[qN]);(try simp only[zH]))))) ?_
  refine .m [] rfl (.so [51] rfl (.nilc (.t rfl)) (.so [52] rfl (.fieldAddr (.t rfl) xG zP) (.so [53] rfl (.load1 (.t rfl) (i:=3) rfl zP rfl) (.m [] rfl (.so [54,55] rfl (.ixGr zz zE (.t rfl) (.t rfl) (by omega)) ?_)))))
  refine .so [56] rfl (.loadGK zN (.t rfl) (i:=4) rfl zE (xn (i:=j) (by omega))) (.fn (n:=39) zW (.w [0,2,3,8,9,15,16,17,18,10,19,20,21,22,23,24,25,26,27,28,29,30,31,32,33,34,35,36,37,38,39,40,41,42,43,44,45,46,47,48,49,50,51,52,53,54,55,56,57] rfl (st (.eq (.call (bg (by first|omega|(rw[zB];omega)) (by first|omega|(rw[zB];omega)) (by first|(rw[qN];exact hx1)|(rw[zH];exact hx1)) (by simp only[qN,zH];exact⟨X (j+1),hx2.symm⟩)) (.cons (.t rfl) (.cons (.t rfl) .nil))) ((show isZ _=isZ (X (j+1)) from zO (by simp only[qN,zH];rw[←hx2];exact Int.mul_tdiv_cancel_left _ hx1)))) rfl ?_)))
  refine .store (.t rfl) (.t rfl) (i:=0) rfl zE rfl rfl (Ss':=[_,_]) rfl (M':=((some _,zC [_,_])::_::_::_::_::_::_)) rfl (nl (.bln (.nk k8 (.region (st (.addI (.t rfl) (.cI 1 rfl) (by first|omega|assumption) (by first|omega|assumption)) rfl (stM rfl (nl (.thn (hK5 (⟨j+1,by omega⟩) _ _ ?_ (Cv.mem (.c 16 rfl ?_ (.l [0,2,3,8,9,15] rfl)) ?_))))))))))
  ·show k-(j+1)<k-j;omega
  ·exact zF (by omega)
  ·rfl
 ·obtain rfl:j=k:=by omega
  refine .exit (.the (.the (.blh (.nk k3 (.w [8,9] rfl (.sr fun k10=>st (.load (.t rfl) (i:=0) rfl zE rfl (Ss':=[_,_]) rfl) rfl (.store (.t rfl) (.t rfl) (i:=1) rfl zE rfl rfl (Ss':=[_,_]) rfl (M':=(_::(some _,zC [_,_])::_::_::_::_::_)) rfl (nkQ k10 (.ret (rG (.cons _ (.cons _ (.cons _ (.cons_cons _ (.cons_cons _ (.cons_cons _ (List.Sublist.refl _))))))) (.inl rfl) Tryz.results113 rfl (.cell rfl (i:=1) rfl zE rfl rfl .nil) (⟨rfl,rfl⟩)))))))))))
end Go.Proofs.YtchbfpcaibfkdaaGreat
namespace Go.En
open Go.Nt Go.Pz Go.Mz Go.Dt Go.Ll
theorem kw (R:Nat):List.replicate R ((false,[]):Bool×List Nat)=(List.replicate R (0:Int)).map nz:=by rw[List.map_replicate,nz0']
theorem zAB {β:Type} {l:List β} {x:β} {i:Nat} (h:l.length=i):(l++[x])[i]?=some x:=by
 subst h
 rw[List.getElem?_append_right (Nat.le_refl _),Nat.sub_self];rfl
theorem gB {β γ:Type} {f:γ→β} {w d l u B b':β} {a:γ} {ls us:List γ}:(b'::f a::w::d::l::u::B::(ls++us).map f).Perm ((w::d::l::(ls++[a]).map f)++(b'::u::B::us.map f)):=by
 rw[List.map_append,List.map_append]
 refine List.Perm.trans ?_ (List.perm_append_comm (l₁:=b'::u::B::us.map f))
 show (b'::f a::w::d::l::u::B::(ls.map f++us.map f)).Perm (b'::u::B::(us.map f++(w::d::l::(ls.map f++[f a]))))
 refine .cons _ ?_
 have h1:(f a::w::d::l::u::B::(ls.map f++us.map f)).Perm (u::B::f a::w::d::l::(ls.map f++us.map f)):=by
  exact (List.perm_append_comm (l₁:=[f a,w,d,l]) (l₂:=[u,B])).append_right (ls.map f++us.map f)
 refine h1.trans (.cons _ (.cons _ ?_))
 have h2:(f a::w::d::l::(ls.map f++us.map f)).Perm (w::d::l::(ls.map f++[f a])++us.map f):=by
  have:([f a]++(w::d::l::ls.map f)).Perm ((w::d::l::ls.map f)++[f a]):=List.perm_append_comm
  have:=this.append_right (us.map f)
  exact this
 exact h2.trans List.perm_append_comm
theorem tM {d b u a l w B:Option Nat×MP}:[d,b,u,a,l,w,B].Perm [w,d,l,u,B,a,b]:=by
 have h:∀x y:Nat,True:=fun _ _=>trivial
 refine List.Perm.trans (l₂:=[w,d,b,u,a,l,B]) ?_ (.cons _ (.cons _ ?_))
 ·exact List.perm_append_comm (l₁:=[d,b,u,a,l]) (l₂:=[w]) |>.append_right [B]
 ·refine List.Perm.trans (l₂:=[l,b,u,a,B]) ?_ (.cons _ ?_)
  ·exact List.perm_append_comm (l₁:=[b,u,a]) (l₂:=[l]) |>.append_right [B]
  ·refine List.Perm.trans (l₂:=[u,b,a,B]) (.swap _ _ _) (.cons _ ?_)
   refine List.Perm.trans (l₂:=[B,b,a]) (List.perm_append_comm (l₁:=[b,a]) (l₂:=[B])) (.cons _ (.swap _ _ _))
theorem tL {β γ:Type} {f:γ→β} {w d l u B:β} {a b:γ} {ls us:List γ}:(f b::f a::w::d::l::u::B::(ls++us).map f).Perm (w::d::l::u::B::((ls++[a])++(us++[b])).map f):=by
 have h1:(f b::f a::w::d::l::u::B::(ls++us).map f).Perm (w::d::l::u::B::((ls++us).map f++[f a,f b])):=by
  have:([f b,f a]++(w::d::l::u::B::(ls++us).map f)).Perm ((w::d::l::u::B::(ls++us).map f)++[f b,f a]):=List.perm_append_comm
  refine this.trans ?_
  exact List.Perm.append_left (w::d::l::u::B::(ls++us).map f) (.swap _ _ _)
 refine h1.trans (.cons _ (.cons _ (.cons _ (.cons _ (.cons _ ?_)))))
 rw[List.map_append,List.map_append,List.map_append,List.map_append,List.append_assoc,List.append_assoc]
 refine List.Perm.append_left _ ?_
 show (us.map f++([f a]++[f b])).Perm ([f a]++(us.map f++[f b]))
 rw[←List.append_assoc,←List.append_assoc]
 exact List.perm_append_comm.append_right _
theorem zAC {g:Gr Row} {l:List Row} {h:Gr (Bool×List Nat)} {x y:List Int} (e:x.length=y.length):grM qQ g (l++[(h,x)])=grM qQ g (l++[(h,y)]):=by
 have:qQ (h,x)=qQ (h,y):=by
  show ze h (x.map nz).length=ze h (y.map nz).length
  rw[List.length_map,List.length_map,e]
 unfold grM
 rw[List.map_append,List.map_append,List.map_append,List.map_append,List.map_cons,List.map_cons,this]
variable {w d B : Option Nat × MP} {R n0 i k b2 : Nat} {A : zI} {gd a b : Gr (Bool × List Nat)} {g2 g3 : Gr Row} {ls us : List Row} {c1 : Nat} {S0 S1 S2 S3 S4 S5 : VP}
theorem tO : ([w,d,grM qQ g2 ([]++[(a,List.replicate R 0)]),grM qQ g3 ([]++[(b,List.replicate R 0)]),B,zj zc a ((List.replicate R 0).map nz),zj zc b (((List.replicate R 0).map nz).set 0 (nz 1))]:Mem)=w::d::grM qQ g2 ([]++[(a,xJ n0 R A 0 0)])::grM qQ g3 ([]++[(b,xv R 0)])::B::(([]++[(a,xJ n0 R A 0 0)])++([]++[(b,xv R 0)])).map qo:=by
 rw[kB,zAC (g:=g3) (h:=b) (x:=xv R 0) (y:=List.replicate R 0) (by rw[fW,List.length_replicate])]
 have e:((List.replicate R (0:Int)).map nz).set 0 (nz 1)=(xv R 0).map nz:=by unfold xv;rw[List.map_set]
 rw[e];rfl
theorem tK : (zj zc b (((List.replicate R 0).map nz).set i (nz 1))::zj zc a ((List.replicate R 0).map nz)::(some b2,zC [S0,S1,ze g2 (ls.length+[((a,List.replicate R 0):Row)].length),ze g3 (us.length+[((b,List.replicate R 0):Row)].length),S2,S3,S4,S5,isI 0])::d::grM qQ g2 (ls++[(a,List.replicate R 0)])::grM qQ g3 (us++[(b,List.replicate R 0)])::B::(ls++us).map qo:Mem)=
  zj zc b ((xv R i).map nz)::zj zc a ((xJ n0 R A i 0).map nz)::(some b2,zC [S0,S1,ze g2 (ls++[((a,xJ n0 R A i 0):Row)]).length,ze g3 (us++[((b,xv R i):Row)]).length,S2,S3,S4,S5,isI 0])::d::grM qQ g2 (ls++[(a,xJ n0 R A i 0)])::grM qQ g3 (us++[(b,xv R i)])::B::(ls++us).map qo:=by
 rw[kB,zAC (g:=g3) (h:=b) (x:=xv R i) (y:=List.replicate R 0) (by rw[fW,List.length_replicate]),List.length_append,List.length_append]
 have e:((List.replicate R (0:Int)).map nz).set i (nz 1)=(xv R i).map nz:=by unfold xv;rw[List.map_set]
 rw[e];rfl
theorem yh {u:Option Nat×MP} (hk:k<R):(u::zj zc a (((xJ n0 R A i k).map nz).set k (nz (xe n0 A i k k)))::(some b2,zC [S0,S1,ze g2 (ls++[((a,xJ n0 R A i k):Row)]).length,S2,S3,S4,S5,zD [],isI 0])::d::grM qQ g2 (ls++[(a,xJ n0 R A i k)])::w::B::(ls++us).map qo:Mem)=
  u::zj zc a ((xJ n0 R A i (k+1)).map nz)::(some b2,zC [S0,S1,ze g2 (ls++[((a,xJ n0 R A i (k+1)):Row)]).length,S2,S3,S4,S5,zD [],isI 0])::d::grM qQ g2 (ls++[(a,xJ n0 R A i (k+1))])::w::B::(ls++us).map qo:=by
 have e:((xJ n0 R A i k).map nz).set k (nz (xe n0 A i k k))=(xJ n0 R A i (k+1)).map nz:=by rw[←List.map_set,cA,yi hk]
 rw[e,zAC (g:=g2) (h:=a) (x:=xJ n0 R A i (k+1)) (y:=xJ n0 R A i k) (by rw[vC,vC]),List.length_append,List.length_append];rfl
theorem tN {ds:List Int} {x:Int} {l:Mem}:((some b2,zC [S0,ze gd ((ds.map nz).length+[nz x].length),S1,S2,S3,zD [],S4,S5,isI 0])::zj zc gd (ds.map nz++[nz x])::l:Mem)=(some b2,zC [S0,ze gd ((ds++[x]).map nz).length,S1,S2,S3,zD [],S4,S5,isI 0])::zj zc gd ((ds++[x]).map nz)::l:=by
 rw[List.map_append,List.length_append];rfl
theorem tC {β:Type} {a b c e x y z:β} {t:List β}:((a::b::c::e::t)++[x,y,z]).Perm (a::b::c::e::x::y::z::t):=
 .cons _ (.cons _ (.cons _ (.cons _ List.perm_append_comm)))
theorem perm_box4 {β:Type} {a b c e x y z v:β} {t:List β}:((a::b::c::e::t)++[x,y,z,v]).Perm (a::b::c::e::x::y::z::v::t):=
 .cons _ (.cons _ (.cons _ (.cons _ List.perm_append_comm)))
theorem zCV {β γ:Type} {f:γ→β} {a b c e x y z v:β} {ls us:List γ}:(a::e::(us.map f++[x])).Sublist ((a::b::c::e::(ls++us).map f)++[x,y,z,v]):=by
 refine .cons_cons _ (.cons _ (.cons _ (.cons_cons _ ?_)))
 refine List.Sublist.append ?_ (.cons_cons _ (List.nil_sublist _))
 rw[List.map_append]
 exact List.sublist_append_right _ _
theorem yO {β:Type} {a e x:β} {t:List β}:(a::e::(t++[x])).Perm (a::e::x::t):=.cons _ (.cons _ List.perm_append_comm)
def flU (us:List Row) (i:Nat):List Int:=(us.take i).flatMap Prod.snd
theorem zAW (us:List Row):flU us 0=[]:=rfl
theorem nS {us:List Row} {i:Nat} {r:Row} (h:us[i]?=some r):(flU us i).map nz++r.2.map nz=(flU us (i+1)).map nz:=by
 unfold flU
 rw[List.take_add_one,h,List.flatMap_append,List.map_append]
 simp
theorem ry {us:List Row} {i:Nat} (h:us.length≤i):flU us i=us.flatMap Prod.snd:=by unfold flU;rw[List.take_of_length_le h]
theorem lX {us:List Row} {R:Nat} (hr:∀r∈us,r.2.length=R):∀i,i≤us.length→(flU us i).length=i*R
  | 0,_=>by rw[zAW,Nat.zero_mul];rfl
  | i+1,h=>by
    have ih:=lX hr i (by omega)
    obtain⟨r,e⟩:∃r,us[i]?=some r:=⟨_,List.getElem?_eq_getElem (by omega)⟩
    have h1:=congrArg List.length (nS e)
    rw[List.length_append,List.length_map,List.length_map,List.length_map,ih,hr r (List.mem_of_getElem? e)] at h1
    rw[←h1,Nat.succ_mul]
theorem td {us:List Row} {i:Nat} {r:Row} (h:us[i]?=some r):(us.drop i).map qo=qo r::(us.drop (i+1)).map qo:=by
 have hi:i<us.length:=qt h
 rw[List.drop_eq_getElem_cons hi,List.map_cons]
 rw[List.getElem?_eq_getElem hi] at h
 rw[Option.some.inj h]
end Go.En
namespace Go.En
open Go.RowKit
section
variable {E : Env} {P : Program} {Γ : Ctx} {M : Mem} {ty : TypeId} {pos : String} {after : Array Edge} {gd : Option (Nat × Bool)} {d : Option Tmp}
 {ops : Array Oper} {Q : Exit → Act → World → Prop} {rest : List Oper}
theorem zBT {Δ:Ctx} {g:FuncId} {xs:List Operand} {ts:Array TypeId} {args:List VP} {Mp Mr:Mem} {R:VP→Mem→Prop} {d:Nat} (hf:CtrX P g args Mp R) (hx:HasL E Δ (Mp++Mr) xs args) {a:Act} {w:World} {F:Blk} (s:Sat E Δ (Mp++Mr) a w F) {K:Act→World→Prop} {Q:Exit→Act→World→Prop}
    (hK:∀v w' F' S M',R S M'→(∀b,F b→w'.heap[b]?=w.heap[b]?)→(∀b,F b→F' b)→(∀Γ'' M1,Sat E Γ'' (Mp++M1) a w F→Sat E Γ'' (M'++M1) a w' F')→S.h w' F' v→K (a.put (some d) v) w'):
    (⟨some d,.call ⟨.value (.func g),xs.toArray,ts⟩,ty,pos,after,none⟩:Oper).wp P a w K Q:=by
  unfold Oper.wp
  have hr:(execOp a.eval (⟨some d,.call ⟨.value (.func g),xs.toArray,ts⟩,ty,pos,after,none⟩:Oper)).run P w=.ok (.enter g (xs.map a.eval).toArray) w:=by
    have:=jh hf.1 (xs.map a.eval).toArray w
    simpa [go_sem] using this
  rw[hr]
  have hargs:=hx.all s
  have hapart:=List.pairwise_append.1 s.mem.apart
  have hmp:MemIn Mp w F:=⟨hapart.1,fun b C hb=>by
    obtain⟨_,h2,h3,h4⟩:=s.mem.each b C (List.mem_append_left _ hb)
    exact⟨h2,h3,h4⟩⟩
  refine (hf.2 w F _ s.flt hmp hargs).mono ?_
  rintro e w' ⟨v,S,M',F',rfl,hR',hk,hsub,hnew,hv,hap,heach⟩
  have hW:∀b,b∈dV Mp→¬F b:=fun b hb hF=>by
    obtain⟨C,hC⟩:=jx.1 hb
    exact (hmp.each b C hC).2.1 hF
  have hsame:∀b,F b→w'.heap[b]?=w.heap[b]?:=fun b hb=>hk.block b (s.flt b hb) (fun h=>hW b h hb)
  refine hK v w' F' S M' hR' hsame hsub (fun Γ'' M1 s=>?_) hv
  have hapart:=List.pairwise_append.1 s.mem.apart
  have hown:∀b,b∈dV Mp→E.w0.heap.size≤b∨b∈E.W:=fun b hb=>by
    obtain⟨C,hC⟩:=jx.1 hb
    exact (s.mem.each b C (List.mem_append_left _ hC)).1
  have hrest:∀(b:Nat) (C:MP),(some b,C)∈M1→b∉dV Mp∧b<w.heap.size:=fun b C hb=>by
    refine⟨fun h=>?_,(s.mem.each b C (List.mem_append_right _ hb)).2.1⟩
    obtain⟨C',hC'⟩:=jx.1 h
    have:=hapart.2.2 _ hC' _ hb
    rcases this with h|h
    · cases h
    · exact h rfl
  exact {
    defers:=s.defers,size:=s.size
    keep:=by
      refine⟨hk.os.trans s.keep.os,hk.tape.trans s.keep.tape,hk.output.trans s.keep.output,Nat.le_trans s.keep.size hk.size,fun k hk0 hkW=>?_⟩
      rw[hk.block k (Nat.lt_of_lt_of_le hk0 s.keep.size) (fun h=>by rcases hown k h with h'|h';omega;exact hkW h')]
      exact s.keep.block k hk0 hkW
    f0:=fun b h=>hsub b (s.f0 b h)
    fnew:=fun b h=>by
      rcases hnew b h with h1|h1
      · rcases s.fnew b h1 with h2|h2
        · exact .inl h2
        · exact .inr ⟨h2.1,Nat.lt_of_lt_of_le h2.2 hk.size⟩
      · exact .inr ⟨Nat.le_trans s.keep.size h1.1,h1.2⟩
    flt:=fun b h=>by
      rcases hnew b h with h1|h1
      · exact Nat.lt_of_lt_of_le (s.flt b h1) hk.size
      · exact h1.2
    slots:=fun t S h=>S.mono _ _ _ _ _ (s.slots t S h) hsame hsub
    mem:=by
      refine⟨List.pairwise_append.2 ⟨hap,hapart.2.1,?_⟩,?_⟩
      · rintro⟨k,C⟩ h1 ⟨k',C'⟩ h2
        cases k with
        | none=>exact .inl rfl
        | some b=>
          refine .inr fun e=>?_
          subst e
          obtain⟨g1,_⟩:=heach b C h1
          obtain⟨g2,g3⟩:=hrest b C' h2
          rcases g1 with g1|g1
          · omega
          · exact g2 g1
      · intro b C hb
        rcases List.mem_append.1 hb with h|h
        · obtain⟨g1,g2,g3,g4⟩:=heach b C h
          refine⟨?_,g2,g3,g4⟩
          rcases g1 with g1|g1
          · exact .inl (Nat.le_trans s.keep.size g1)
          · exact hown b g1
        · obtain⟨g1,g2,g3,o,g4,g5⟩:=s.mem.each b C (List.mem_append_right _ h)
          obtain⟨r1,r2⟩:=hrest b C h
          refine⟨g1,Nat.lt_of_lt_of_le g2 hk.size,fun hF=>?_,o,(hk.block b g2 r1).trans g4,C.mono _ _ _ _ _ g5 hsame hsub⟩
          rcases hnew b hF with h1|h1
          · exact g3 h1
          · omega }
theorem Sat.perm {a:Act} {w:World} {F:Blk} {M':Mem} (h:M.Perm M') (s:Sat E Γ M a w F):Sat E Γ M' a w F:=
 {s with mem:=⟨(h.pairwise_iff (fun {x y} hxy=>by
  rcases hxy with h1|h1
  ·by_cases h2:y.1=none
   ·exact .inl h2
   ·exact .inr (fun e=>h2 (e.trans h1))
  ·exact .inr (fun e=>h1 e.symm))).1 s.mem.apart,fun b C hb=>s.mem.each b C (h.mem_iff.2 hb)⟩ }
theorem HasL.perm {xs:List Operand} {Ss:List VP} {M':Mem} (h:M'.Perm M) (hx:HasL E Γ M xs Ss):HasL E Γ M' xs Ss:=by
 induction hx with
 | nil=>exact .nil
 | cons h1 _ ih=>exact .cons (fun a w F s=>h1 a w F (s.perm h)) ih
theorem OKX.call {Δ:Ctx} {g:FuncId} {xs:List Operand} {ts:Array TypeId} {args:List VP} {Mp Mr:Mem} {R:VP→Mem→Prop} {d:Nat} {S0:VP} (hf:CtrX P g args Mp R) (hp:M.Perm (Mp++Mr)) (hx:HasL E Δ M xs args) (hR:∀S M',R S M'→S=S0∧M'=Mp):
  OKX E P ops Δ M ⟨some d,.call ⟨.value (.func g),xs.toArray,ts⟩,ty,pos,after,none⟩ S0:=fun a w F s K Q hK=>by
 refine (if_pos (c:=Region.wanted _ _) (by simp[Region.wanted])).mpr ?_
 refine .inl (zBT hf (hx.perm hp.symm) (s.perm hp) fun v w' F' S M' hR' h1 h2 h3 hv=>?_)
 obtain⟨rfl,rfl⟩:=hR S M' hR'
 refine hK v w' F' ⟨h1,h2,fun Γ'' M1 hs s1=>?_⟩ hv
 obtain⟨Rr,hRr⟩:=hs.exists_perm_append
 have hq:M1.Perm (M'++(Mr++Rr)):=by rw[←List.append_assoc];exact hRr.trans (hp.append_right Rr)
 exact (h3 Γ'' _ (s1.perm hq)).perm hq.symm
theorem CtrX.imp {f:FuncId} {args:List VP} {M:Mem} {R R':VP→Mem→Prop} (h:CtrX P f args M R) (hR:∀S M',R S M'→R' S M'):CtrX P f args M R':=
 ⟨h.1,fun w F vs hF hM hargs=>(h.2 w F vs hF hM hargs).mono (by
  rintro e w' ⟨v,S',M',F',rfl,hr,rest⟩
  exact⟨v,S',M',F',rfl,hR S' M' hr,rest⟩)⟩
end
end Go.En
namespace Go.Dt
open RowF Go.Br Go.Pz
def zU : Nat→Nat→List (List Nat)
 | _,0=>[[]]
 | 0,_+1=>[]
 | m+1,n+1=>if m+1<n+1 then [] else zU m (n+1)++(zU m n).map (fun l=>l++[m])
theorem vp (m:Nat):zU m 0=[[]]:=by cases m <;> rfl
theorem vh {m n:Nat} (h:m<n):zU m n=[]:=by
  cases n with
  | zero=>omega
  | succ n=>
    cases m with
    | zero=>rfl
    | succ m=>unfold zU;rw[if_pos h]
theorem vq {m n:Nat} (h:n≤m):zU (m+1) (n+1)=zU m (n+1)++(zU m n).map (fun l=>l++[m]):=by
 show (if _ then _ else _)=_
 rw[if_neg (by omega)]
theorem vJ : ∀(m n:Nat) (Y:List Nat),Y∈zU m n→Y.length=n∧∀x∈Y,x<m
  | m,0,Y,h=>by
    rw[vp] at h
    obtain rfl:=List.mem_singleton.1 h
    exact⟨rfl,by simp⟩
  | 0,_+1,Y,h=>by cases h
  | m+1,n+1,Y,h=>by
    by_cases hm:m+1<n+1
    · rw[vh hm] at h;cases h
    · rw[vq (by omega)] at h
      rcases List.mem_append.1 h with h|h
      · obtain⟨h1,h2⟩:=vJ m (n+1) Y h
        exact⟨h1,fun x hx=>Nat.lt_succ_of_lt (h2 x hx)⟩
      · obtain⟨Z,hZ,rfl⟩:=List.mem_map.1 h
        obtain⟨h1,h2⟩:=vJ m n Z hZ
        refine⟨by rw[List.length_append,h1];rfl,fun x hx=>?_⟩
        rcases List.mem_append.1 hx with hx|hx
        · exact Nat.lt_succ_of_lt (h2 x hx)
        · rw[List.mem_singleton.1 hx];exact Nat.lt_succ_self m
theorem jd : ∀(m n:Nat) (X:List Nat),X.Nodup→X.length=n→(∀x∈X,x<m)→∃Y,Y∈zU m n∧Y.Perm X
  | m,0,X,_,hl,_=>by
    obtain rfl:=List.eq_nil_of_length_eq_zero hl
    exact⟨[],by rw[vp];exact List.mem_singleton.2 rfl,List.Perm.refl _⟩
  | 0,n+1,x::X,_,_,h=>absurd (h x (by simp)) (Nat.not_lt_zero _)
  | m+1,n+1,X,hd,hl,h=>by
    by_cases hm:m∈X
    · have hp:=List.perm_cons_erase hm
      have hd2:=(hp.nodup_iff.1 hd)
      obtain⟨hd3,hd4⟩:=List.nodup_cons.1 hd2
      obtain⟨Y,hY,hYp⟩:=jd m n (X.erase m) hd4 (by rw[List.length_erase_of_mem hm,hl];rfl) fun x hx=>by
        have h1:=h x (List.mem_of_mem_erase hx)
        have h2:x≠m:=fun e=>hd3 (e▸hx)
        omega
      have hnm:n≤m:=by
        rcases Nat.lt_or_ge m n with h1|h1
        · rw[vh h1] at hY;cases hY
        · exact h1
      refine⟨Y++[m],by rw[vq hnm];exact List.mem_append_right _ (List.mem_map.2 ⟨Y,hY,rfl⟩),?_⟩
      exact (List.perm_append_singleton m Y).trans ((hYp.cons m).trans hp.symm)
    · obtain⟨Y,hY,hYp⟩:=jd m (n+1) X hd hl fun x hx=>by
        have h1:=h x hx
        have h2:x≠m:=fun e=>hm (e▸hx)
        omega
      have hnm:n≤m:=by
        rcases Nat.lt_or_ge m (n+1) with h1|h1
        · rw[vh h1] at hY;cases hY
        · omega
      exact⟨Y,by rw[vq hnm];exact List.mem_append_left _ hY,hYp⟩
def ae (A:zI) (R:Nat) (cols:List Nat):Bool:=(zU R cols.length).any fun rs=>decide (mn A rs cols≠0)
def pivs (A:zI) (R:Nat):Nat→List Nat
 | 0=>[]
 | c+1=>if ae A R (pivs A R c++[c])=true then pivs A R c++[c] else pivs A R c
theorem BI.some_yes {A:zI} {R C c i:Nat} {s:BS} {q:List Nat} {r:List Int} (h:BI A R C c s q) (hti:s.ps.length≤i) (hi:s.rows[i]?=some r) (hc:c<C) (hne:cf r c≠0):ae A R (s.ps++[c])=true:=by
 have hiR:i<R:=by have:=aP hi;have:=h.hR;omega
 have hw:=h.row i r hti hi c hc
 have hql:=h.hq
 have hqi:q[i]?=some (q.getD i 0):=bS (by rw[h.hq];exact hiR)
 have e1:mn A (q.take s.ps.length++[q.getD i 0]) (s.ps++[c])≠0:=by
  rw[←yf A (by rw[List.length_append,List.length_append,List.length_take];simp;omega),List.reverse_append,List.reverse_append]
  show mn A (q.getD i 0::(q.take s.ps.length).reverse) (c::s.ps.reverse)≠0
  rw[←hw];exact hne
 have hnd:(q.take s.ps.length++[q.getD i 0]).Nodup:=by
  rw[List.nodup_append]
  refine⟨h.nd.sublist (List.take_sublist _ _),by simp,fun a ha b hb e=>?_⟩
  rw[List.mem_singleton.1 hb] at e
  obtain⟨j,hj,e2⟩:=List.mem_iff_getElem.1 ha
  rw[List.length_take] at hj
  rw[List.getElem_take] at e2
  refine (List.pairwise_iff_getElem.1 h.nd) j i (by omega) (by omega) (by omega) ?_
  rw[List.getElem?_eq_getElem (by omega)] at hqi
  rw[Option.some.inj hqi,e2,e]
 obtain⟨Y,hY,hp⟩:=jd R (s.ps++[c]).length (q.take s.ps.length++[q.getD i 0]) hnd (by rw[List.length_append,List.length_append,List.length_take];simp;omega) fun x hx=>by
  rcases List.mem_append.1 hx with hx|hx
  ·exact h.lt x (List.mem_of_mem_take hx)
  ·rw[List.mem_singleton.1 hx];exact h.lt _ (List.mem_of_getElem? hqi)
 unfold ae
 rw[List.any_eq_true]
 exact⟨Y,hY,decide_eq_true (zDY A hp.symm [] e1)⟩
theorem BI.some_no {A:zI} {R C c:Nat} {s:BS} {q:List Nat} (h:BI A R C c s q) (hc:c<C) (hz:∀(j:Nat) (r:List Int),s.ps.length≤j→s.rows[j]?=some r→cf r c=0):ae A R (s.ps++[c])=false:=by
 obtain⟨rs,hrs⟩:∃rs,rs=(q.take s.ps.length).reverse:=⟨_,rfl⟩
 have hql:=h.hq
 have hpl:=h.hps
 have hrl:rs.length=s.ps.length:=by rw[hrs,List.length_reverse,List.length_take];omega
 have hD:mn A rs s.ps.reverse≠0:=by rw[hrs,←h.hl];exact h.h0
 have hzero:∀y,y<R→∀k,k∈s.ps++[c]→mn A (y::rs) (k::s.ps.reverse)=0:=by
  intro y hy k hk
  rcases List.mem_append.1 hk with hk|hk
  ·exact oo A (by rw[List.length_reverse,hrl]) y (List.mem_reverse.2 hk)
  ·rw[List.mem_singleton.1 hk]
   by_cases hm:y∈rs
   ·exact yd A hm c
   ·have hyq:y∈q:=h.pm.mem_iff.2 (List.mem_range.2 hy)
    obtain⟨j,hj,e⟩:=gK hyq
    have htj:s.ps.length≤j:=by
     rcases Nat.lt_or_ge j s.ps.length with h1|h1
     ·refine absurd ?_ hm
      rw[hrs,List.mem_reverse,←e]
      rw[List.getD,List.getElem?_eq_getElem hj]
      show q[j]∈_
      have:q[j]=(q.take s.ps.length)[j]'(by rw[List.length_take];omega):=(List.getElem_take).symm
      rw[this];exact List.getElem_mem _
     ·exact h1
    have hjr:j<s.rows.length:=by rw[h.hR];omega
    have hr:=List.getElem?_eq_getElem hjr
    rw[←e,hrs,←h.row j _ htj hr c hc]
    exact hz j _ htj hr
 unfold ae
 rw[List.any_eq_false]
 intro Y hY
 obtain⟨h1,h2⟩:=vJ _ _ _ hY
 have hc1:(s.ps++[c]).length=s.ps.length+1:=by simp
 have h0:mn A Y (s.ps++[c])=0:=by
  unfold mn
  rw[h1,hc1]
  refine la (D:=mn A rs s.ps.reverse) hD (e:=fun i r => - ec A rs s.ps.reverse (Y.getD i 0) r) (V:=fun r j=>A (rs.getD r 0) ((s.ps++[c]).getD j 0)) fun i j hi hj=>?_
  have hx:=dq A rs s.ps.reverse (Y.getD i 0) ((s.ps++[c]).getD j 0)
  rw[hzero _ (h2 _ (vV (by omega))) _ (vV (by omega)),hrl] at hx
  have hs:(sm s.ps.length fun r => - ec A rs s.ps.reverse (Y.getD i 0) r*A (rs.getD r 0) ((s.ps++[c]).getD j 0)) = - sm s.ps.length fun r=>ec A rs s.ps.reverse (Y.getD i 0) r*A (rs.getD r 0) ((s.ps++[c]).getD j 0):=by
   have:=xf (-1) (fun r=>ec A rs s.ps.reverse (Y.getD i 0) r*A (rs.getD r 0) ((s.ps++[c]).getD j 0)) s.ps.length
   rw[show -1*(sm s.ps.length fun r=>ec A rs s.ps.reverse (Y.getD i 0) r*A (rs.getD r 0) ((s.ps++[c]).getD j 0)) = - sm s.ps.length fun r=>ec A rs s.ps.reverse (Y.getD i 0) r*A (rs.getD r 0) ((s.ps++[c]).getD j 0) by omega] at this
   rw[←this]
   exact zS fun r _=>by rw[Int.neg_mul];omega
  rw[hs]
  show mn A rs s.ps.reverse*A (Y.getD i 0) ((s.ps++[c]).getD j 0)=_
  omega
 rw[h0];decide
theorem BI.pivs {A:zI} {R C:Nat} {s0:BS} {q0:List Nat} (h0:BI A R C 0 s0 q0) (hp:s0.ps=[]):∀{c:Nat} {s:BS},BRun s0 c s→c≤C→s.ps=Go.Dt.pivs A R c:=by
  intro c s h
  induction h with
  | zero=>exact fun _=>hp
  | @step c s s' hr hs ih=>
    intro hc
    obtain⟨q,hq⟩:=h0.all hr (by omega)
    have e:=ih (by omega)
    show _=if ae A R (Go.Dt.pivs A R c++[c])=true then _ else _
    rw[←e]
    rcases hs with ⟨rfl,hz⟩|⟨i,r,t,sw,hti,hi,ht,hne,hsw,k1,k2,k3,k4,k5⟩
    · rw[if_neg (by rw[hq.some_no (by omega) hz];decide)]
    · rw[if_pos (hq.some_yes hti hi (by omega) hne)];exact k3
end Go.Dt
namespace Go.En
open Go.RowKit Go.Dt Go.Pz Go.Nt Go.Mz
abbrev wA (l:List Nat):VP:=SlM isI (pv l)
section
variable {P : Program} {α : Type} {f : α → VP}
theorem CtrX.freeze {g:FuncId} {args:List VP} {ys:List α} (h:CtrX P g args [] (fun S M=>∃gr:Gr α,S=ze gr ys.length∧M=[grM f gr ys])):Ctr P g args (SlM f ys):=
 ⟨h.1,fun w F vs hF hargs=>(h.2 w F vs hF ⟨List.Pairwise.nil,by simp⟩ hargs).mono (by
  rintro e w' ⟨v,S',M',F',rfl,⟨gr,rfl,rfl⟩,hk,hsub,hnew,hv,_,heach⟩
  refine⟨v,rfl,hk,?_⟩
  rcases hv with ⟨h1,h2,rfl⟩|⟨b,hob,rfl,h1,h2⟩
  ·obtain rfl:ys=[]:=List.eq_nil_of_length_eq_zero h2
   exact nilM _ _
  ·obtain⟨g1,g2,g3,o,g4,us,T,rfl,hu⟩:=heach b (zC ((ys++gr.sp).map f)) (by unfold grM;rw[hob];simp)
   have hb:aE F w w' b:=by
    rcases g1 with g1|g1
    ·exact .inr ⟨g1,g2⟩
    ·exact absurd g1 (by simp[dV])
   rw[List.map_append] at hu
   have hu2:=hu.take ys.length
   rw[List.take_left' (by simp)] at hu2
   refine⟨_,_,rfl,by omega,h2,by simp,.inr ⟨b,0,rfl,hb,us.take ys.length,All2.mono (fun _ _=>rfl) hnew _ _ hu2,fun j u hj=>?_⟩⟩
   rw[Nat.zero_add]
   have hj2:j<ys.length:=by
    rcases Nat.lt_or_ge j ys.length with h|h
    ·exact h
    ·rw[List.getElem?_take_eq_none h] at hj;cases hj
   rw[List.getElem?_take_of_lt hj2] at hj
   simp[World.cell?,g4,hj])⟩
end
theorem fp {E:Env} {P:Program} {Γ:Ctx} {M M':Mem} {fn:Func} {rs:List ResultVar} {Rs:List VP} {R:VP→Mem→Prop} {W:List Nat} {e:Exit} (hs:M'.Sublist M) (he:e=.ret∨e=.normal) (hr:fn.results=rs.toArray) (hn:Nat.beq rs.length 1=false) (hw:E.W=W) (h:ResL E P Γ M rs Rs) (hR:R (zZ Rs) M'):At E Γ M (bodyPost P fn (iD E.w0 E.F0 W R)) e:=by
 intro a w F s
 obtain⟨vs,h1,h2⟩:=xA hr h s
 have hl:Rs.length=rs.length:=by
  clear h1 h2 s a w F vs hR
  clear hn hr
  induction h with
  | nil=>rfl
  | tmp _ _ ih=>simp[ih]
  | cell _ _ _ _ _ _ ih=>simp[ih]
  | cell1 _ _ _ _ _ ih=>simp[ih]
 have hne:vs.length≠1:=by rw[←h2.len,hl];exact Nat.ne_of_beq_eq_false hn
 rw[dif_neg hne] at h1
 exact eB (S:=zZ Rs) hs he s hw h1 ⟨vs,rfl,h2⟩ hR
theorem vi : ∀m n,(zU m n).length≤2^m
  | m,0=>by rw[vp];exact Nat.one_le_pow _ _ (by decide)
  | 0,_+1=>Nat.zero_le _
  | m+1,n+1=>by
    by_cases h:m+1<n+1
    · rw[vh h];exact Nat.zero_le _
    · rw[vq (by omega),List.length_append,List.length_map,Nat.pow_succ]
      have:=vi m (n+1)
      have:=vi m n
      omega
def chU (m n i:Nat):List (List Nat):=zU m (n+1)++((zU m n).take i).map fun l=>l++[m]
theorem na (m n:Nat):chU m n 0=zU m (n+1):=by unfold chU;rw[List.take_zero,List.map_nil,List.append_nil]
theorem nb {m n i:Nat} {Y:List Nat} (h:(zU m n)[i]?=some Y):chU m n i++[Y++[m]]=chU m n (i+1):=by unfold chU;rw[List.take_add_one,h,List.map_append,List.append_assoc];rfl
theorem sM {m n i:Nat} (h:n≤m) (hi:i=(zU m n).length):chU m n i=zU (m+1) (n+1):=by subst hi;unfold chU;rw[List.take_length,vq h]
theorem zFO (m n i:Nat):(chU m n i).length≤2^m+2^m:=by
 unfold chU
 rw[List.length_append,List.length_map,List.length_take]
 have:=vi m (n+1)
 have:=vi m n
 omega
theorem rO {l:List Nat} {i:Nat} (h:i<l.length):(pv l)[i]?=some ((l.getD i 0:Nat):Int):=by unfold pv;rw[List.getElem?_map,List.getD,List.getElem?_eq_getElem h];rfl
def ptG (C:Nat) (xs:List (Bool×List Nat)) (rs cs:List Nat):Nat→Nat→Bool×List Nat:=fun i k=>xs.getD (rs.getD i 0*C+cs.getD k 0) (false,[])
theorem zGE {C N K:Nat} {xs:List (Bool×List Nat)} {rs cs:List Nat} (h:Bd (zG xs) K) (P:Nat):Bd (zG (qx N P (ptG C xs rs cs))) K:=by
 rw[wn]
 refine xr fun i k=>?_
 have:=h (rs.getD i 0*C+cs.getD k 0)
 rw[qb] at this
 exact this
theorem zGD {C n:Nat} {xs:List (Bool×List Nat)} {rs cs:List Nat} (h1:rs.length=n):det n (mf n (zG (qx (n*n) n (ptG C xs rs cs))))=mn (mf C (zG xs)) rs cs:=by
 unfold mn
 rw[h1]
 refine zy fun i j hi hj=>?_
 show cf _ (i*n+j)=cf (zG xs) (rs.getD i 0*C+cs.getD j 0)
 rw[wn,xH _ hj (zt hi hj),qb];rfl
theorem rP (A:zI) (R:Nat):∀c,(∀x∈pivs A R c,x<c)∧(pivs A R c).length≤c
  | 0=>⟨by simp[pivs],Nat.le_refl _⟩
  | c+1=>by
    obtain⟨h1,h2⟩:=rP A R c
    unfold pivs
    split
    · refine⟨fun x hx=>?_,by rw[List.length_append];show _+1≤_;omega⟩
      rcases List.mem_append.1 hx with h|h
      · have:=h1 x h;omega
      · rw[List.mem_singleton.1 h];omega
    · exact⟨fun x hx=>by have:=h1 x hx;omega,by omega⟩
theorem si {A:zI} {R:Nat} {cols rs:List Nat} (h:rs∈zU R cols.length) (h2:mn A rs cols≠0):true=ae A R cols:=by
 unfold ae
 exact (List.any_eq_true.2 ⟨rs,h,decide_eq_true h2⟩).symm
theorem uZ {A:zI} {R:Nat} {cols:List Nat} (h:∀j,j<(zU R cols.length).length→mn A ((zU R cols.length).getD j []) cols=0):false=ae A R cols:=by
 unfold ae
 refine (List.any_eq_false.2 fun x hx=>?_).symm
 obtain⟨j,hj,rfl⟩:=List.mem_iff_getElem.1 hx
 have:=h j hj
 rw[List.getD,List.getElem?_eq_getElem hj,Option.getD_some] at this
 rw[this];decide
theorem zGF {C K:Nat} {L:List Int} (h:Bd L K) (rs cols:List Nat):(List.length (zA (mn (mf C L) rs cols).natAbs))≤rs.length*(K+rs.length)+1:=gn (fun i j=>h _) rs.length
end Go.En
namespace Go.En
open Go.RowKit
def CellsIn (w w':World):Prop:=∀a c,w.cell? a=some c→w'.cell? a=some c
theorem CellsIn.refl (w:World):CellsIn w w:=fun _ _ h=>h
theorem CellsIn.trans {a b c:World} (h:CellsIn a b) (k:CellsIn b c):CellsIn a c:=fun x v hx=>k x v (h x v hx)
theorem CellsIn.of_heap {w w':World} (h:∀(k:Nat) (o:Obj),w.heap[k]?=some o→w'.heap[k]?=some o):CellsIn w w':=fun a c hc=>by
 unfold World.cell? at hc⊢
 cases ho:w.heap[a.block]? with
 | none=>rw[ho] at hc;cases hc
 | some o=>rw[ho] at hc;rw[h _ _ ho];exact hc
inductive Calm {α:Type}:Sem α→Prop
 | pure (a:α):Calm (.pure a)
 | load (m:Mode) (a:Addr) (k:Value→Sem α) (h:∀v,Calm (k v)):Calm (.load m a k)
 | new (o:Obj) (k:Nat→Sem α) (h:∀n,Calm (k n)):Calm (.new o k)
 | choose (q:Question) (k:Nat→Sem α) (h:∀n,Calm (k n)):Calm (.choose q k)
 | program (k:Program→Sem α) (h:∀p,Calm (k p)):Calm (.program k)
 | mark (m:Mark) (k:Sem α) (h:Calm k):Calm (.mark m k)
 | halt (x:Halt):Calm (.halt x)
theorem Calm.run {α:Type} {P:Program} {s:Sem α} (h:Calm s):∀(w:World) (a:α) (w':World),s.run P w=.ok a w'→CellsIn w w':=by
  induction h with
  | pure a=>intro w a' w' e;cases e;exact CellsIn.refl _
  | load m a k _ ih=>
    intro w a' w' e
    unfold Sem.run at e
    split at e
    · exact ih _ w a' w' e
    · split at e
      · exact ih _ w a' w' e
      · cases e
  | new o k _ ih=>
    intro w a' w' e
    refine CellsIn.trans (CellsIn.of_heap fun k' o' ho=>?_) (ih _ _ a' w' e)
    have hk:k'<w.heap.size:=by
      rcases Nat.lt_or_ge k' w.heap.size with h|h
      · exact h
      · rw[Array.getElem?_eq_none h] at ho;cases ho
    show (w.heap.push o)[k']?=some o'
    rw[Array.getElem?_push_lt hk,←ho,Array.getElem?_eq_getElem hk]
  | choose q k _ ih=>
    intro w a' w' e
    unfold Sem.run at e
    split at e <;> first|exact ih _ w a' w' e|exact CellsIn.trans (b:={ w with drawn:=w.drawn+1 }) (CellsIn.of_heap fun _ _ h=>h) (ih _ _ a' w' e)
  | program k _ ih=>intro w a' w' e;exact ih _ w a' w' e
  | mark m k _ ih=>intro w a' w' e;exact ih w a' w' e
  | halt x=>intro w a' w' e;cases e
theorem Calm.bind {α β:Type} {s:Sem α} {f:α→Sem β} (h:Calm s) (k:∀a,Calm (f a)):Calm (s >>= f):=by
 show Calm (Sem.bind s f)
 induction h with
 | pure a=>exact k a
 | load m a k' _ ih=>exact .load m a _ ih
 | new o k' _ ih=>exact .new o _ ih
 | choose q k' _ ih=>exact .choose q _ ih
 | program k' _ ih=>exact .program _ ih
 | mark m k' _ ih=>exact .mark m _ ih
 | halt x=>exact .halt x
theorem qr {α:Type} (a:α):Calm (Pure.pure a:Sem α):=.pure a
theorem vf {α:Type} (m:String):Calm (stuck m:Sem α):=.halt _
theorem vK {α:Type} (u:Unsupported):Calm (unsupported u:Sem α):=.halt _
theorem calm_program : Calm Go.program:=.program _ fun p=>.pure p
theorem wd (t:TypeId):Calm (typeInfo t):=by unfold typeInfo;exact calm_program.bind fun p=>by split;exact qr _;exact vf _
theorem va (t:TypeId):Calm (underlying t):=by unfold underlying;exact calm_program.bind fun p=>by split;exact qr _;exact vf _
theorem wS (t:TypeId):Calm (sizeOf t):=by unfold sizeOf;exact (wd t).bind fun p=>qr _
theorem wF (t:TypeId):Calm (zeroValue t):=by unfold zeroValue;exact (wd t).bind fun p=>by split;exact qr _;exact vK _
theorem pT (t:TypeId):Calm (isAgg t):=by unfold isAgg;exact (va t).bind fun p=>by split <;> exact qr _
theorem iT (v:Value):Calm (Instr.sureAddr v):=by unfold Instr.sureAddr;split;exact qr _;exact vf _
theorem kT (a:Addr):Calm (Go.load a):=.load _ _ _ fun v=>.pure v
theorem wG (a:Addr):∀(n i:Nat) (acc:Array Value),Calm (loadCellsFrom a i n acc)
 | 0,_,_=>qr _
 | n+1,i,acc=>(kT _).bind fun v=>wG a n (i+1) (acc.push v)
theorem lc (t:TypeId) (a:Addr):Calm (loadVar t a):=by
 unfold loadVar
 refine (pT t).bind fun b=>?_
 split
 ·exact (wS t).bind fun n=>(wG a n 0 #[]).bind fun _=>qr _
 ·exact kT a
theorem nh (t:TypeId) (v:Value):Calm (Instr.loadAt t v):=by unfold Instr.loadAt;exact (iT v).bind fun a=>lc t a
theorem bG (e:TypeId) (cs:Array Value):Calm (newRow e cs):=by unfold newRow;exact Calm.bind (.new _ _ fun n=>.pure n) fun _=>qr _
theorem dR {α:Type} (v:Value):Calm (goPanic v:Sem α):=.halt _
theorem dQ {α:Type} (e:RuntimeError):Calm (runtimePanic e:Sem α):=by
 unfold runtimePanic
 refine calm_program.bind fun p=>?_
 cases e <;> (first|exact dR _|(repeat' (first|exact dR _|exact qr _|exact vf _|exact vK _|exact calm_program|exact va _|exact wF _|exact wS _|exact bG _ _|exact (Calm.halt _)|split|refine Calm.bind ?_ fun _=>?_)))
theorem ni (q:Question):Calm (Go.choose q):=.choose _ _ fun n=>.pure n
theorem ld (n:Nat):Calm (askRoom n):=by unfold askRoom;split;exact .mark _ _ (.pure _);exact qr _
theorem lf (v:Value):Calm (asIntOf v):=by unfold asIntOf;split <;> first|exact qr _|exact vf _|exact vK _
theorem pU (v:Value):Calm (asInt v):=by unfold asInt;exact (lf v).bind fun _=>qr _
theorem gy (t:TypeId) (l c:Value):Calm (Instr.makeSlice t l c):=by
 unfold Instr.makeSlice
 repeat' (first|exact qr _|exact vf _|exact va _|exact pU _|exact wd _|exact dQ _|exact ni _|exact ld _|exact wS _|exact wF _|exact bG _ _|dsimp only|split|refine Calm.bind ?_ fun _=>?_)
theorem eY (t:TypeId) (n:Nat) (ps:Array (Nat×Value)):Calm (Instr.buildSlice t n ps):=by
 unfold Instr.buildSlice
 repeat' (first|exact qr _|exact vf _|exact vK _|exact va _|exact wS _|exact wF _|exact bG _ _|dsimp only|split|refine Calm.bind ?_ fun _=>?_)
def gz (o:Oper):Bool:=match o.op with
 | .load ..=>true
 | .makeSlice ..=>true
 | .buildSlice ..=>true
 | .move ..=>true
 | _=>false
theorem zBS {o:Oper} (h:gz o=true) {ρ:Operand→Value} {P:Program} {w w':World} {n:Next} (hr:(execOp ρ o).run P w=.ok n w'):(∃u,n=.value u)∧CellsIn w w':=by
 have key:∀{s:Sem Value},Calm s→(do pure (Next.value (←s)):Sem Next).run P w=.ok n w'→(∃u,n=.value u)∧CellsIn w w':=fun {s} hs e=>by
  refine⟨?_,(hs.bind fun _=>qr _).run _ _ _ e⟩
  rw[Sem.run_bind] at e
  cases hv:s.run P w with
  | ok v w1=>rw[hv] at e;exact⟨v,by simp at e;exact e.1.symm⟩
  | halt x w1=>rw[hv] at e;simp at e
 obtain⟨d,op,ty,pos,af,gd⟩:=o
 cases op <;> simp only[gz] at h <;> first|cases h|skip
 ·simp only[execOp] at hr
  cases hr
  exact⟨⟨_,rfl⟩,CellsIn.refl _⟩
 all_goals (simp only[execOp] at hr)
 ·exact key (eY _ _ _) hr
 ·exact key (nh _ _) hr
 ·exact key (gy _ _ _) hr
section
variable {P : Program} {ops : Array Oper} {md : Region.Mode} {Q : Exit → Act → World → Prop}
def bJ (P:Program) (w0:World) (o:Oper) (v:Value) (a:Act):Prop:=∀w,CellsIn w0 w→(execOp a.eval o).run P w=.ok (.value v) w
theorem sW {j:Nat} {oi oj:Oper} {v:Value} {w0:World} (hj:ops[j]?=some oj) (hap:oi.apart ops oj=true) (hc:gz oj=true)
    (hsi:∀cs b,oi.op≠.select cs b) (hsj:∀cs b,oj.op≠.select cs b)
    (hQ:∀c a w,Q (.panic c) (a.put oi.dst v) w→Q (.panic c) a w) {K:Act→World→Prop} {a:Act} {w:World}
    (hw0:CellsIn w0 w) (hy:bJ P w0 oi v a) (h:wpOp P ops Q j K (a.put oi.dst v) w):
    wpOp P ops Q j (fun a' w'=>(CellsIn w0 w'∧bJ P w0 oi v a')∧K (a'.put oi.dst v) w') a w:=by
  obtain⟨h1,h2,h3⟩:=Oper.apart_spec hap
  have keep:∀u,bJ P w0 oi v (a.put oj.dst u):=fun u w' hw'=>by rw[execOp_put oi hsi a oj.dst u h3];exact hy w' hw'
  unfold wpOp at*
  simp only[hj] at*
  rw[wanted_put oj a oi.dst v h1] at h
  split
  · rename_i hw
    simp only[hw,if_true] at h
    rcases h with h|⟨hasks,hlets⟩
    case inr=>exact .inr ⟨by unfold Oper.asks at *;rw[execOp_put oj hsj a oi.dst v h1] at hasks;exact hasks,hlets⟩
    refine .inl ?_
    unfold Oper.wp at*
    rw[execOp_put oj hsj a oi.dst v h1] at h
    cases hr:(execOp a.eval oj).run P w with
    | ok n w'=>
      obtain⟨⟨u,rfl⟩,hci⟩:=zBS hc hr
      rw[hr] at h
      simp only[Oper.upon] at h⊢
      exact⟨⟨hw0.trans hci,keep u⟩,by rw[←Act.put_comm a v u h2];exact h⟩
    | halt x w'=>
      rw[hr] at h
      cases x <;> simp only[Oper.upon] at h⊢
      case panic u=>exact hQ _ _ _ h
  · rename_i hw
    simp only[hw] at h
    exact⟨⟨hw0,keep _⟩,by rw[←Act.put_comm a v undef h2];exact h⟩
theorem kZ {i:Nat} {oi:Oper} {v:Value} {w0:World} (hi:ops[i]?=some oi) (hg:oi.guard=none) (hsel:∀(j:Nat) (o:Oper) cs b,ops[j]?=some o→o.op≠.select cs b)
    (hQ:∀c a w,Q (.panic c) (a.put oi.dst v) w→Q (.panic c) a w):
    ∀(fuel:Nat) (listed:Array Bool) (a:Act) (w:World),CellsIn w0 w→
      (∀j oj,ops[j]?=some oj→j≠i→listed.getD j true=false→(∀e∈oj.after,Region.binds md e=true→e.on≠i)→oi.apart ops oj=true∧gz oj=true)→
      i∈Region.ready md ops listed→bJ P w0 oi v a→
      wpAny P md ops Q fuel (listed.setIfInBounds i true) (a.put oi.dst v) w→wpAny P md ops Q (fuel+1) listed a w:=by
  have self:∀{K:Act→World→Prop} {a:Act} {w:World},CellsIn w0 w→bJ P w0 oi v a→K (a.put oi.dst v) w→wpOp P ops Q i K a w:=fun {K a w} hw hy hK=>by
    unfold wpOp
    simp only[hi]
    rw[if_pos (by simp[Region.wanted,hg])]
    refine .inl ?_
    unfold Oper.wp
    rw[hy w hw]
    exact hK
  intro fuel
  induction fuel with
  | zero=>
    intro listed a w hw _ hr hy H
    refine⟨fun h=>(by rw[h] at hr;cases hr),fun j hj=>?_⟩
    by_cases hji:j=i
    · subst hji;exact self hw hy H
    · have:=ready_mono hj hji
      rw[H.1] at this
      cases this
  | succ fuel ih=>
    intro listed a w hw hfree hr hy H
    refine⟨fun h=>(by rw[h] at hr;cases hr),fun j hj=>?_⟩
    by_cases hji:j=i
    · subst hji;exact self hw hy H
    · have h1:=H.2 j (ready_mono hj hji)
      obtain⟨hjun,oj,hoj,hall⟩:=mem_ready.1 hj
      have hnot:∀e∈oj.after,Region.binds md e=true→e.on≠i:=fun e he hb heq=>by
        have h1:=hall e he hb
        have h0:=(mem_ready.1 hr).1
        rw[heq] at h1
        rcases Nat.lt_or_ge i listed.size with h'|h'
        · simp[h'] at h0 h1;rw[h0] at h1;cases h1
        · simp[Array.getElem?_eq_none h'] at h1
      obtain⟨f1,f2⟩:=hfree j oj hoj hji hjun hnot
      have h2:=sW hoj f1 f2 (fun cs b=>hsel i oi cs b hi) (fun cs b=>hsel j oj cs b hoj) hQ hw hy h1
      have hfree':∀k ok,ops[k]?=some ok→k≠i→(listed.setIfInBounds j true).getD k true=false→
          (∀e∈ok.after,Region.binds md e=true→e.on≠i)→oi.apart ops ok=true∧gz ok=true:=fun k ok hk hki hun hno=>by
        refine hfree k ok hk hki ?_ hno
        by_cases hjk:j=k
        · subst hjk;exact hjun
        · rw[getD_set_ne true hjk] at hun;exact hun
      refine wpOp_mono (fun a' w' h3=>ih (listed.setIfInBounds j true) a' w' h3.1.1 hfree' (ready_mono hr (Ne.symm hji)) h3.1.2 ?_) h2
      rw[Array.setIfInBounds_comm _ _ hji]
      exact h3.2
end
def zAU (l:List Oper) (listed:Array Bool) (i:Nat):Bool:=match l[i]? with
 | none=>false
 | some oi=>(List.range l.length).all fun j=>j==i||listed.getD j true||match l[j]? with
   | some oj=>oj.after.any (fun e=>Region.binds .any e&&e.on==i)||(oi.apart l.toArray oj&&gz oj)
   | none=>true
theorem pG {l:List Oper} {i:Nat} {oi:Oper} {listed:Array Bool} (hi:l[i]?=some oi) (h:zAU l listed i=true) (j:Nat) (oj:Oper)
  (hj:l[j]?=some oj) (hne:j≠i) (hun:listed.getD j true=false) (hno:∀e∈oj.after,Region.binds .any e=true→e.on≠i):oi.apart l.toArray oj=true∧gz oj=true:=by
 simp only[zAU,hi,List.all_eq_true,List.mem_range] at h
 have h1:=h j (List.getElem?_eq_some_iff.1 hj).1
 simp only[hj,Bool.or_eq_true,beq_iff_eq,hne,false_or,hun,Bool.false_eq_true] at h1
 rcases h1 with h1|h1
 ·obtain⟨e,he,hb⟩:=Array.any_eq_true'.1 h1
  simp only[Bool.and_eq_true,beq_iff_eq] at hb
  exact absurd hb.2 (hno e he hb.1)
 ·simpa [Bool.and_eq_true] using h1
section
variable {E : Env} {P : Program} {Γ : Ctx} {M : Mem} {ty : TypeId} {pos : String} {after : Array Edge} {Q : Exit → Act → World → Prop}
def OKL (E:Env) (P:Program) (Γ:Ctx) (M:Mem) (o:Oper) (S:VP):Prop:=
 ∀a w F,Sat E Γ M a w F→∃v,(∀w',CellsIn w w'→(execOp a.eval o).run P w'=.ok (.value v) w')∧S.h w F v
theorem DrB.tl {l:List Oper} {bs:List Nat} {d:Nat} {o:Oper} {S:VP} (i:Nat) (hi:l[i]?=some o) (hd:o.dst=some d) (hg:o.guard=none) (hn:Nat.blt d E.n=true)
  (hok:OKL E P Γ M o S) (k:DrB E P l ((d,S)::Γ) M Q (bs++[i])) (hs:Region.noSelect l.toArray=true:=by kernel_rfl)
  (hf:zAU l (vM l.length bs) i=true:=by kernel_rfl) (hr:(Region.ready .any l.toArray (vM l.length bs)).contains i=true:=by kernel_rfl) (hl:Nat.blt bs.length l.length=true:=by kernel_rfl)
  (hQ:∀c a w v,Q (.panic c) (Act.put a (some d) v) w→Q (.panic c) a w:=by exact fun _ _ _ _ h=>h):DrB E P l Γ M Q bs:=by
 intro a w F s
 obtain⟨v,hv,hS⟩:=hok a w F s
 have hd':d<E.n:=by simpa [Nat.blt_eq] using hn
 have hl':bs.length<l.length:=by simpa [Nat.blt_eq] using hl
 have hk:=k (a.put (some d) v) w F (s.put hd' hS)
 obtain⟨f,hfu⟩:∃f,l.length-bs.length=f+1:=⟨l.length-bs.length-1,by omega⟩
 rw[hfu]
 refine kZ (i:=i) (oi:=o) (v:=v) (w0:=w) (by simpa using hi) hg (Region.noSelect_spec hs) (fun c a w h=>hQ c a w v (by rw[hd] at h;exact h)) f _ a w (CellsIn.refl w) (fun j oj hj=>pG hi hf j oj (by simpa using hj)) (by simpa using hr) hv ?_
 rw[hd,←iB]
 rw[List.length_append,List.length_singleton,show l.length-(bs.length+1)=f by omega] at hk
 exact hk
theorem OKL.load1 {d:Option Tmp} {x:Operand} {b off i:Nat} {T:TypeId} {Ss:List VP} {S:VP} (hx:Has E Γ M x (qX b off)) (hM:M[i]?=some (some b,zC Ss)) (hT:tyB P T=some (1,false))
  (hS:Ss[off]?=some S):OKL E P Γ M ⟨d,.load T x,ty,pos,after,none⟩ S:=fun a w F s=>by
 obtain⟨o,hb,vs,T',rfl,hv⟩:=wZ s hM
 have h1:a.eval x=.pointer (some ⟨b,off,none⟩):=hx a w F s
 obtain⟨v,hv1,hv2⟩:=hv.get off S hS
 have hc:w.cell? ⟨b,off,none⟩=some v:=by simp[World.cell?,hb,hv1]
 refine⟨v,fun w' hw'=>?_,hv2⟩
 simp only[execOp,h1,Instr.loadAt,Instr.sureAddr,loadVar,Sem.run_bind,Sem.run_pure,Result.andThen_ok,vt hT]
 simp[hw' _ _ hc]
end
end Go.En
