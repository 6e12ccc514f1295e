/- Rules and contracts, part 3 of 6. -/
import Derived.Test.YtchbfpcaibfkdaaGreatQGramReduces2
set_option linter.unusedVariables false
namespace Go.Proofs.YtchbfpcaibfkdaaGreat
open Go.En Go.RowKit
set_option maxRecDepth 10000
set_option maxHeartbeats 4000000
open Go.Nt
theorem hO {x:Nat}:Ctr Tryz.prog 85 [isU x] (isI (bitLen x:Int)):=by
 refine Ctr.i Tryz.func85 rfl Tryz.ntmps85 fun w0 F0=>.w [0] rfl (.fact (Has.ltU (Has.t (t:=0) rfl)) fun lt0=>.sr fun k1=>st (.as (.cI 0 rfl)) rfl (nkQ k1 (.cutF [] (fun (z:{ z:Nat×Nat//bitLen x=z.2+bitLen z.1∧z.1<4294967296∧z.2≤32 })=>match z with|⟨(y,n),hI⟩=>[(0,isU y),(2,isI (n:Int))]) (fun M=>fun (z:{ z:Nat×Nat//bitLen x=z.2+bitLen z.1∧z.1<4294967296∧z.2≤32 })=>match z with|⟨(y,n),hI⟩=>M) (fun K2 hK2=>?_) ?_)))
 ·refine .sr fun k3=>stM rfl (st (.geU (.t rfl) (.cU 4294967296 rfl)) rfl (nkQ k3 (.cd rfl (fun hc1=>?_) (fun hc1=>?_))))
  ·refine .sr fun k4=>stM rfl (st (.shrUU (.t rfl) (.cU 32 rfl) (by omega)) rfl (stM rfl (nkQ k4 (.region (st (.as (.cI 32 rfl)) rfl (nl (.thn ?_)))))))
   refine hK2 (⟨(x/2^32,32),by have:=bitLen_shift x 32 (by omega);exact this,by show x/2^32<_;omega,Nat.le_refl _⟩) _ _ (Cv.mem (.c 0 rfl ?_ (.c 2 rfl ?_ .nil)) ?_)
   ·rfl
   ·rfl
   ·rfl
  ·refine .skip (.thn ?_)
   refine hK2 (⟨(x,0),(Nat.zero_add _).symm,by show x<_;omega,Nat.zero_le _⟩) _ _ (Cv.mem (.c 0 rfl ?_ (.c 2 rfl ?_ .nil)) ?_)
   ·rfl
   ·rfl
   ·rfl
 rintro⟨⟨y,n⟩,h1,h2,h3⟩
 refine .w [0,2] rfl ?_
 simp only[] at h1 h2 h3
 refine .cutF [] (fun (z:{ z:Nat×Nat//bitLen x=z.2+bitLen z.1∧z.1<65536∧z.2≤48 })=>match z with|⟨(y,n),hI⟩=>[(0,isU y),(2,isI (n:Int))]) (fun M=>fun (z:{ z:Nat×Nat//bitLen x=z.2+bitLen z.1∧z.1<65536∧z.2≤48 })=>match z with|⟨(y,n),hI⟩=>M) (fun K5 hK5=>?_) ?_
 ·refine .sr fun k6=>stM rfl (st (.geU (.t rfl) (.cU 65536 rfl)) rfl (nkQ k6 (.cd rfl (fun hc2=>?_) (fun hc2=>?_))))
  ·refine .sr fun k7=>stM rfl (st (.shrUU (.t rfl) (.cU 16 rfl) (by omega)) rfl (stM rfl (nkQ k7 (.region (stM rfl (st (.addI (.t rfl) (.cI 16 rfl) (by omega) (by omega)) rfl (stM rfl (nl (.thn ?_)))))))))
   refine hK5 (⟨(y/2^16,n+16),by have:=bitLen_shift y 16 (by omega);show bitLen x=n+16+bitLen (y/2^16);omega,by show y/2^16<_;omega,by show n+16≤_;omega⟩) _ _ (Cv.mem (.c 0 rfl ?_ (.c 2 rfl ?_ .nil)) ?_)
   ·rfl
   ·rfl
   ·rfl
  ·refine .skip (.thn ?_)
   refine hK5 (⟨(y,n),h1,by show y<_;omega,by show n≤_;omega⟩) _ _ (Cv.mem (.c 0 rfl ?_ (.c 2 rfl ?_ .nil)) ?_)
   ·rfl
   ·rfl
   ·rfl
 rintro⟨⟨y,n⟩,h1,h2,h3⟩
 refine .w [0,2] rfl ?_
 simp only[] at h1 h2 h3
 refine .cutF [] (fun (z:{ z:Nat×Nat//bitLen x=z.2+bitLen z.1∧z.1<256∧z.2≤56 })=>match z with|⟨(y,n),hI⟩=>[(0,isU y),(2,isI (n:Int))]) (fun M=>fun (z:{ z:Nat×Nat//bitLen x=z.2+bitLen z.1∧z.1<256∧z.2≤56 })=>match z with|⟨(y,n),hI⟩=>M) (fun K8 hK8=>?_) ?_
 ·refine .sr fun k9=>stM rfl (st (.geU (.t rfl) (.cU 256 rfl)) rfl (nkQ k9 (.cd rfl (fun hc3=>?_) (fun hc3=>?_))))
  ·refine .sr fun k10=>stM rfl (st (.shrUU (.t rfl) (.cU 8 rfl) (by omega)) rfl (stM rfl (nkQ k10 (.region (stM rfl (st (.addI (.t rfl) (.cI 8 rfl) (by omega) (by omega)) rfl (stM rfl (nl (.thn ?_)))))))))
   refine hK8 (⟨(y/2^8,n+8),by have:=bitLen_shift y 8 (by omega);show bitLen x=n+8+bitLen (y/2^8);omega,by show y/2^8<_;omega,by show n+8≤_;omega⟩) _ _ (Cv.mem (.c 0 rfl ?_ (.c 2 rfl ?_ .nil)) ?_)
   ·rfl
   ·rfl
   ·rfl
  ·refine .skip (.thn ?_)
   refine hK8 (⟨(y,n),h1,by show y<_;omega,by show n≤_;omega⟩) _ _ (Cv.mem (.c 0 rfl ?_ (.c 2 rfl ?_ .nil)) ?_)
   ·rfl
   ·rfl
   ·rfl
 rintro⟨⟨y,n⟩,h1,h2,h3⟩
 refine .w [0,2] rfl ?_
 simp only[] at h1 h2 h3
 have h8:=bitLen_le8 y h2
 have hy:Int.toNat (y:Int)=y:=rfl
 refine .sr fun k11=>stM rfl (stM rfl (st (.convUu8 sa un5 (.t rfl) (by omega)) rfl (st (.eq (.idxStr un9 (.t rfl) (by omega) ⟨(show Int.toNat (y:Int)<256 by omega),len8tab_get _ _⟩) ((show isK .u8 _=isK .u8 ((bitLen y:Nat):Int) from rfl))) rfl (st (.convKI un5 un3 (.t rfl) (by omega) (by omega)) rfl (st (.addI (.t rfl) (.t rfl) (by omega) (by omega)) rfl (stM rfl (nkQ k11 (.w [2] rfl (.ret (rt1 (.inl rfl) Tryz.results85 rfl (.tmp (Has.t' rfl ?_) .nil)))))))))))
 all_goals (exact zF (by omega))
theorem kU {x:Nat}:Ctr Tryz.prog 128 [isU x] (isI ((64-bitLen x:Nat):Int)):=by
 refine Ctr.i Tryz.func128 rfl Tryz.ntmps128 fun w0 F0=>.w [0] rfl (.fact (Has.ltU (Has.t (t:=0) rfl)) fun lt0=>?_)
 have h64:=bH lt0
 refine .sr fun k1=>st (.as (.cI 0 rfl)) rfl (nkQ k1 (.sr fun k2=>stM rfl (st (.call (hO) (.cons (.t rfl) .nil)) rfl (st (.subI (.cI 64 rfl) (.t rfl) (by omega) (by omega)) rfl (stM rfl (nkQ k2 (.ret (rt1 (.inl rfl) Tryz.results128 rfl (.tmp (Has.t' rfl ?_) .nil)))))))))
 all_goals (exact zF (by omega))
theorem iA {hi lo y:Nat} (h:hi<y):Ctr Tryz.prog 134 [isU hi,isU lo,isU y] (zZ [isU ((hi*18446744073709551616+lo)/y),isU ((hi*18446744073709551616+lo)%y)]):=by
 refine Ctr.i Tryz.func134 rfl Tryz.ntmps134 fun w0 F0=>.w [0,1,2] rfl (.fact (Has.ltU (Has.t (t:=0) rfl)) fun lt0=>.fact (Has.ltU (Has.t (t:=1) rfl)) fun lt1=>.fact (Has.ltU (Has.t (t:=2) rfl)) fun lt2=>?_)
 obtain⟨s,Y,A,U1,U0,v1,v0,hs,hY,D⟩:=d64 lt1 lt2 h
 have hs64:=D.ks
 have hYl:=D.yl
 have hAl:=D.al
 have hV1:=D.hv.a
 have hV1':=D.hv.b
 have hV0:=D.hv.c
 have hU1:=D.hv.f
 have hU0:=D.hv2.f
 have hR1:=D.r1
 have hR0:=D.r0
 have hQ1:=D.q1
 have hQ0:=D.q0
 have dv:=Nat.div_mul_le_self A v1
 have dv2:=Nat.div_mul_le_self ((A*4294967296+U1)%Y) v1
 refine .sr fun k1=>st (.as (.cU 0 rfl)) rfl (st (.as (.cU 0 rfl)) rfl (nkQ k1 (.sq fun k2=>.sr fun k3=>stM rfl (st (.eqU (.t rfl) (.cU 0 rfl)) rfl (nkQ k3 (.cd rfl (fun hc1=>?_) (fun hc1=>?_)))))))
 ·exfalso;first|omega|contradiction|(revert hc1;simp)
 ·refine .skip (.nk k2 (.sq fun k4=>.sr fun k5=>stM rfl (stM rfl (st (.leU (.t rfl) (.t rfl)) rfl (nkQ k5 (.cd rfl (fun hc2=>?_) (fun hc2=>?_)))))))
  ·exfalso;first|omega|contradiction|(revert hc2;simp)
  ·refine .skip (.nk k4 (.w [0,1,2,6,7] rfl (.sq fun k6=>.sr fun k7=>stM rfl (st (.eqU (.t rfl) (.cU 0 rfl)) rfl (nkQ k7 (.cd rfl (fun hc3=>?_) (fun hc3=>?_)))))))
   ·refine .sq fun k8=>.w [0,1,2,7,26,27] rfl (.dr (.m [] rfl (.m [] rfl (.so [28,29] rfl (.quoU (.t rfl) (.t rfl) (by with_reducible assumption) (by with_reducible assumption)) (.m [] rfl (.m [] rfl (.so [31,32] rfl (.remU (.t rfl) (.t rfl) (by with_reducible assumption) (by with_reducible assumption)) (.m [30] rfl (.fn (n:=7) zW (.w [0,1,2,7,33,6] rfl (stM rfl (nkQ k8 (.ret (.thr (rtN (.inl rfl) Tryz.results134 rfl rfl (.tmp (Has.t' rfl ?_) (.tmp (Has.t' rfl ?_) .nil)))))))))))))))))
    ·exact zV (by rw[hc3,Nat.zero_mul,Nat.zero_add])
    ·exact zV (by rw[hc3,Nat.zero_mul,Nat.zero_add])
   ·refine .skip (.nk k6 (.sr fun k9=>stM rfl (st (.call (kU) (.cons (.t rfl) .nil)) rfl (st (.eq (.convIU un3 uQ (.t rfl) (by omega) (by omega)) ((show isU _=isU s from zV (by omega)))) rfl (stM rfl (nkQ k9 (.w [0,1,2,6,7,8] rfl (.sr fun k10=>stM rfl (stM rfl (st (.eq (.shlUU (.t rfl) (.t rfl) (by with_reducible exact True.intro)) ((show isU _=isU Y from zV (by rw[←hY];exact Nat.mod_eq_of_lt D.yl)))) rfl ?_))))))))))
    refine stM rfl (nkQ k10 (.sr fun k11=>stM rfl (st (.eq (.shrUU (.t rfl) (.cU 32 rfl) (by with_reducible assumption)) ((show isU _=isU v1 from zV (by have:=D.kv1;omega)))) rfl ?_)))
    refine stM rfl (nkQ k11 (.w [0,1,2,6,7,8,9] rfl (.sr fun k12=>stM rfl (st (.eq (.andU (.t rfl) (.cU 4294967295 rfl)) ((show isU _=isU v0 from zV ((Nat.and_two_pow_sub_one_eq_mod _ 32).trans (by have:=D.kv0;omega))))) rfl ?_))))
    refine stM rfl (nkQ k12 (.sr fun k13=>stM rfl (stM rfl (st (.shlUU (.t rfl) (.t rfl) (by with_reducible exact True.intro)) rfl (stM rfl (stM rfl (st (.subU' (.cU 64 rfl) (.t rfl) (by with_reducible assumption) (by omega)) rfl (st (.shrUU (.t rfl) (.t rfl) (by with_reducible assumption)) rfl (st (.eq (.orU (.t rfl) (.t rfl)) ((show isU _=isU A from zV D.un32))) rfl (stM rfl (nkQ k13 (.w [1,2,6,7,8,9,10,11] rfl (.sr fun k14=>stM rfl (stM rfl (st (.shlUU (.t rfl) (.t rfl) (by with_reducible exact True.intro)) rfl (stM rfl (nkQ k14 (.sr fun k15=>stM rfl (st (.eq (.shrUU (.t rfl) (.cU 32 rfl) (by omega)) ((show isU _=isU U1 from zV (by have:=D.u1;omega)))) rfl ?_)))))))))))))))))))
    refine stM rfl (nkQ k15 (.w [2,6,7,8,9,10,11,12,13] rfl (.sr fun k16=>stM rfl (st (.eq (.andU (.t rfl) (.cU 4294967295 rfl)) ((show isU _=isU U0 from zV ((Nat.and_two_pow_sub_one_eq_mod _ 32).trans (by have:=D.u0;omega))))) rfl ?_))))
    refine stM rfl (nkQ k16 (.sr fun k17=>stM rfl (stM rfl (st (.quoU (.t rfl) (.t rfl) (by omega) (by with_reducible assumption)) rfl (stM rfl (nkQ k17 (.w [2,6,7,8,9,10,11,13,14,15] rfl (.sr fun k18=>stM rfl (stM rfl (stM rfl (st (.mulU' (.t rfl) (.t rfl) (by omega)) rfl (st (.subU' (.t rfl) (.t rfl) (by with_reducible assumption) (by with_reducible assumption)) rfl (stM rfl (nkQ k18 (.w [2,6,7,8,9,10,11,13,14,15,16] rfl (.cutF [2,6,7,8,9,10,11,13,14] (fun (_:Unit)=>[(15,isU ((A*4294967296+U1)/Y))]) (fun M=>fun (_:Unit)=>M) (fun K19 hK19=>?_) ?_))))))))))))))))
    ·refine .block (.loopF [2,6,7,8,9,10,11,13,14] (fun (z:{ z:Nat×Nat//Gs A U1 v1 v0 z.1 z.2 })=>match z with|⟨(q,r),hI⟩=>[(15,isU q),(16,isU r)]) (fun M=>fun (z:{ z:Nat×Nat//Gs A U1 v1 v0 z.1 z.2 })=>match z with|⟨(q,r),hI⟩=>M) (fun (z:{ z:Nat×Nat//Gs A U1 v1 v0 z.1 z.2 })=>match z with|⟨(q,r),hI⟩=>q) (⟨(A/v1,A-A/v1*v1),Gs.start D.hv⟩) (Cv.mem (.c 15 rfl ?_ (.c 16 rfl ?_ (.l [2,6,7,8,9,10,11,13,14] rfl))) ?_) ?_)
     ·rfl
     ·rfl
     ·rfl
     rintro⟨⟨q,r⟩,g⟩ K20 hK20
     refine .w [15,16,2,6,7,8,9,10,11,13,14] rfl ?_
     simp only[] at g
     have gq:=g.q
     have gr:=g.r
     have hv0:=D.hv.c
     have hv1:=D.hv.b
     have hu1:=D.hv.f
     refine .sq fun k21=>.sr fun k22=>stM rfl (st (.geU (.t rfl) (.cU 4294967296 rfl)) rfl (stM rfl (stF rfl rfl (fun hg=>.mv (.t rfl)) rfl (stF rfl rfl (fun hg=>.mv (.t rfl)) rfl ?_))))
     refine stF rfl rfl (fun hg=>have hg':=BP.t hg;OK1.mulU' (Has.g rfl hg) (Has.g rfl hg) (by exact yZ (by omega) (by omega))) rfl ?_
     refine stF rfl rfl (fun hg=>.mv (.t rfl)) rfl ?_
     refine stF rfl rfl (fun hg=>have hg':=BP.t hg;OK1.mulU' (.cU 4294967296 rfl) (Has.g rfl hg) (by omega)) rfl ?_
     refine stF rfl rfl (fun hg=>.mv (.t rfl)) rfl ?_
     refine stF rfl rfl (fun hg=>have hg':=BP.t hg;OK1.addU' (Has.g rfl hg) (Has.g rfl hg) (by omega)) rfl ?_
     refine stF rfl rfl (fun hg=>.gtU (Has.g rfl hg) (Has.g rfl hg)) rfl (st (.pickOr (.t rfl) (fun h=>Has.g rfl (ng h))) rfl (nkQ k22 (.cd rfl (fun hc4=>?_) (fun hc4=>?_))))
     ·have hn:=Gs.next D.hv g hc4
      refine .skip (.nk k21 (.block (.sr fun k23=>stM rfl (st (.subU' (.t rfl) (.cU 1 rfl) (by omega) (by omega)) rfl (stM rfl (nkQ k23 (.sr fun k24=>stM rfl (stM rfl (st (.addU' (.t rfl) (.t rfl) (by omega)) rfl (stM rfl (nkQ k24 (.sr fun k25=>stM rfl (st (.geU (.t rfl) (.cU 4294967296 rfl)) rfl (nkQ k25 (.cd rfl (fun hc5=>?_) (fun hc5=>?_))))))))))))))))
      ·refine .exit (.blm rfl (.the (.blh (.thn (hK19 (()) _ _ (Cv.mem (.c 15 rfl ?_ (.l [2,6,7,8,9,10,11,13,14] rfl)) ?_))))))
       ·exact zV ((Gs.exit2 D.hv hn.1 hn.2.1 hn.2.2.1 (by omega)).trans (by rw[D.kY]))
       ·rfl
      ·refine .skip (.bln (.thn ?_))
       refine hK20 (⟨(q-1,r+v1),hn.1,hn.2.1,by show q-1≤_;omega,by show r+v1<_;omega⟩) _ _ ?_ (Cv.mem (.c 15 rfl ?_ (.c 16 rfl ?_ (.l [2,6,7,8,9,10,11,13,14] rfl))) ?_)
       ·show q-1<q;omega
       ·rfl
       ·rfl
       ·rfl
     ·refine .exit (.the (.the (.blh (.thn (hK19 (()) _ _ (Cv.mem (.c 15 rfl ?_ (.l [2,6,7,8,9,10,11,13,14] rfl)) ?_))))))
      ·exact zV ((Gs.exit D.hv g (by omega)).trans (by rw[D.kY]))
      ·rfl
    rintro _
    refine .w [15,2,6,7,8,9,10,11,13,14] rfl (.sr fun k26=>stM rfl (st (.mulU (.t rfl) (.cU 4294967296 rfl)) rfl (stM rfl (st (.addU (.t rfl) (.t rfl)) rfl (stM rfl (stM rfl (st (.mulU (.t rfl) (.t rfl)) rfl (st (.eq (.subU (.t rfl) (.t rfl) (by omega)) ((show isU _=isU ((A*4294967296+U1)%Y) from zV (pc (pK _ _) hR1 hU1)))) rfl (stM rfl (nkQ k26 (.w [2,6,7,8,9,10,14,15,17] rfl (.sr fun k27=>stM rfl (stM rfl (st (.quoU (.t rfl) (.t rfl) (by omega) (by with_reducible assumption)) rfl (stM rfl (nkQ k27 (.sr fun k28=>stM rfl (stM rfl (stM rfl (st (.mulU' (.t rfl) (.t rfl) (by with_reducible exact Nat.lt_of_le_of_lt (Nat.div_mul_le_self _ _) hR1)) rfl (st (.subU' (.t rfl) (.t rfl) (by with_reducible assumption) (by with_reducible assumption)) rfl (stM rfl (nkQ k28 (.w [2,6,7,8,9,10,14,15,17,18,16] rfl (.cutF [2,6,7,8,14,15,17] (fun (_:Unit)=>[(18,isU ((((A*4294967296+U1)%Y)*4294967296+U0)/Y))]) (fun M=>fun (_:Unit)=>M) (fun K29 hK29=>?_) ?_)))))))))))))))))))))))))
    ·refine .block (.loopF [2,6,7,8,9,10,14,15,17] (fun (z:{ z:Nat×Nat//Gs ((A*4294967296+U1)%Y) U0 v1 v0 z.1 z.2 })=>match z with|⟨(q,r),hI⟩=>[(18,isU q),(16,isU r)]) (fun M=>fun (z:{ z:Nat×Nat//Gs ((A*4294967296+U1)%Y) U0 v1 v0 z.1 z.2 })=>match z with|⟨(q,r),hI⟩=>M) (fun (z:{ z:Nat×Nat//Gs ((A*4294967296+U1)%Y) U0 v1 v0 z.1 z.2 })=>match z with|⟨(q,r),hI⟩=>q) (⟨(((A*4294967296+U1)%Y)/v1,((A*4294967296+U1)%Y)-((A*4294967296+U1)%Y)/v1*v1),Gs.start D.hv2⟩) (Cv.mem (.c 18 rfl ?_ (.c 16 rfl ?_ (.l [2,6,7,8,9,10,14,15,17] rfl))) ?_) ?_)
     ·rfl
     ·rfl
     ·rfl
     rintro⟨⟨q,r⟩,g⟩ K30 hK30
     refine .w [18,16,2,6,7,8,9,10,14,15,17] rfl ?_
     simp only[] at g
     have gq:=g.q
     have gr:=g.r
     have hv0:=D.hv2.c
     have hv1:=D.hv2.b
     have hu1:=D.hv2.f
     refine .sq fun k31=>.sr fun k32=>stM rfl (st (.geU (.t rfl) (.cU 4294967296 rfl)) rfl (stM rfl (stF rfl rfl (fun hg=>.mv (.t rfl)) rfl (stF rfl rfl (fun hg=>.mv (.t rfl)) rfl ?_))))
     refine stF rfl rfl (fun hg=>have hg':=BP.t hg;OK1.mulU' (Has.g rfl hg) (Has.g rfl hg) (by exact yZ (by omega) (by omega))) rfl ?_
     refine stF rfl rfl (fun hg=>.mv (.t rfl)) rfl ?_
     refine stF rfl rfl (fun hg=>have hg':=BP.t hg;OK1.mulU' (.cU 4294967296 rfl) (Has.g rfl hg) (by omega)) rfl ?_
     refine stF rfl rfl (fun hg=>.mv (.t rfl)) rfl ?_
     refine stF rfl rfl (fun hg=>have hg':=BP.t hg;OK1.addU' (Has.g rfl hg) (Has.g rfl hg) (by omega)) rfl ?_
     refine stF rfl rfl (fun hg=>.gtU (Has.g rfl hg) (Has.g rfl hg)) rfl (st (.pickOr (.t rfl) (fun h=>Has.g rfl (ng h))) rfl (nkQ k32 (.cd rfl (fun hc6=>?_) (fun hc6=>?_))))
     ·have hn:=Gs.next D.hv2 g hc6
      refine .skip (.nk k31 (.block (.sr fun k33=>stM rfl (st (.subU' (.t rfl) (.cU 1 rfl) (by omega) (by omega)) rfl (stM rfl (nkQ k33 (.sr fun k34=>stM rfl (stM rfl (st (.addU' (.t rfl) (.t rfl) (by omega)) rfl (stM rfl (nkQ k34 (.sr fun k35=>stM rfl (st (.geU (.t rfl) (.cU 4294967296 rfl)) rfl (nkQ k35 (.cd rfl (fun hc7=>?_) (fun hc7=>?_))))))))))))))))
      ·refine .exit (.blm rfl (.the (.blh (.thn (hK29 (()) _ _ (Cv.mem (.c 18 rfl ?_ (.l [2,6,7,8,14,15,17] rfl)) ?_))))))
       ·exact zV ((Gs.exit2 D.hv2 hn.1 hn.2.1 hn.2.2.1 (by omega)).trans (by rw[D.kY]))
       ·rfl
      ·refine .skip (.bln (.thn ?_))
       refine hK30 (⟨(q-1,r+v1),hn.1,hn.2.1,by show q-1≤_;omega,by show r+v1<_;omega⟩) _ _ ?_ (Cv.mem (.c 18 rfl ?_ (.c 16 rfl ?_ (.l [2,6,7,8,9,10,14,15,17] rfl))) ?_)
       ·show q-1<q;omega
       ·rfl
       ·rfl
       ·rfl
     ·refine .exit (.the (.the (.blh (.thn (hK29 (()) _ _ (Cv.mem (.c 18 rfl ?_ (.l [2,6,7,8,14,15,17] rfl)) ?_))))))
      ·exact zV ((Gs.exit D.hv2 g (by omega)).trans (by rw[D.kY]))
      ·rfl
    rintro _
    refine .w [18,2,6,7,8,14,15,17] rfl (.sr fun k36=>stM rfl (st (.mulU (.t rfl) (.cU 4294967296 rfl)) rfl (stM rfl (st (.addU (.t rfl) (.t rfl)) rfl (stM rfl (st (.mulU (.t rfl) (.cU 4294967296 rfl)) rfl (stM rfl (st (.addU (.t rfl) (.t rfl)) rfl (stM rfl (stM rfl (st (.mulU (.t rfl) (.t rfl)) rfl (st (.eq (.subU (.t rfl) (.t rfl) (by omega)) ((show isU _=isU ((((A*4294967296+U1)%Y)*4294967296+U0)%Y) from zV (pc (pK _ _) hR0 hU0)))) rfl (stM rfl (st (.shrUU (.t rfl) (.t rfl) (by with_reducible assumption)) rfl (stM rfl (stM rfl (nkQ k36 (.w [6,7] rfl (.ret (rtN (.inl rfl) Tryz.results134 rfl rfl (.tmp (Has.t' rfl ?_) (.tmp (Has.t' rfl ?_) .nil))))))))))))))))))))))
    ·exact zV (Eq.trans (zCL hQ1 hQ0) D.quo)
    ·exact zV D.rem
theorem tf {xs:List Nat} {x:Nat} (hx:(List.length (zA (val xs)))<4294900000):Ctr Tryz.prog 127 [zD xs,isU x] (zZ [zD (zA (val xs/x)),isU (if x=0 then 0 else val xs%x),isB (decide (x≠0))]):=by
 refine Ctr.i Tryz.func127 rfl Tryz.ntmps127 fun w0 F0=>.w [0,1] rfl (.fact (Has.lenLt (Has.t (t:=0) rfl)) fun lt0=>.fact (Has.okW (Has.t (t:=0) rfl)) fun ok0=>.fact (Has.ltU (Has.t (t:=1) rfl)) fun lt1=>.sr fun k1=>st (.as (.cW (f:=isU))) rfl (st (.as (.cU 0 rfl)) rfl (st (.as (.cB false)) rfl (nkQ k1 (.sq fun k2=>.sr fun k3=>stM rfl (st (.eqU (.t rfl) (.cU 0 rfl)) rfl (nkQ k3 (.cd rfl (fun hc1=>?_) (fun hc1=>?_)))))))))
 ·refine .sr fun k4=>st (.as (.cW (f:=isU))) rfl (st (.as (.cU 0 rfl)) rfl (st (.as (.cB false)) rfl (nkQ k4 (.ret (.thr (rtN (.inl rfl) Tryz.results127 rfl rfl (.tmp (Has.t' rfl ?_) (.tmp (Has.t' rfl ?_) (.tmp (Has.t' rfl ?_) .nil)))))))))
  ·exact qJ (by rw[hc1,Nat.div_zero,zJ])
  ·exact zV (by rw[if_pos hc1])
  ·exact zl (by simp[hc1])
 ·refine .skip (.nk k2 (.sr fun k5=>stM rfl (.callO (tG (by omega)) (.cons (.t rfl) .nil) rfl (fun hO2=>?_) (fun hO2 b1 cb1 jb1=>?_))))
  ·refine stM rfl (nkQ k5 (.sr fun k6=>st (.as (.cU 0 rfl)) rfl (nkQ k6 (.sq fun k7=>.sr fun k8=>stM rfl (st (.len zh (.t rfl)) rfl (st (.subI (.t rfl) (.cI 1 rfl) (by omega) (by simp only[List.length_nil];omega)) rfl ?_))))))
   refine stM rfl (nkQ k8 (.w [0,1,4,5,6,7,8] rfl (.block (.loopF [0,1,4,5,6] (fun (_:Unit)=>[(8,isI (-1)),(7,isU 0)]) (fun M=>fun (_:Unit)=>M) (fun (_:Unit)=>0) (()) (Cv.mem (.c 8 rfl ?_ (.c 7 rfl ?_ (.l [0,1,4,5,6] rfl))) ?_) ?_))))
   ·rfl
   ·rfl
   ·rfl
   rintro _ K9 hK9
   refine .w [8,7,0,1,4,5,6] rfl (.sq fun k10=>.sr fun k11=>stM rfl (st (.geI (.t rfl) (.cI 0 rfl)) rfl (nkQ k11 (.cd rfl (fun hc3=>?_) (fun hc3=>?_)))))
   ·exfalso;first|omega|contradiction|(revert hc3;simp)
   ·refine .exit (.the (.the (.blh (.nk k7 (.sr fun k12=>stM rfl (st (.call (vT (by show (zA 0).length≤_;rw[zJ];exact Nat.zero_le _)) (.cons (.t rfl) .nil)) rfl ?_))))))
    refine stM rfl (stM rfl (stM rfl (st (.as (.cB true)) rfl (nkQ k12 (.w [4,5,6] rfl (.ret (rtN (.inl rfl) Tryz.results127 rfl rfl (.tmp (Has.t' rfl ?_) (.tmp (Has.t' rfl ?_) (.tmp (Has.t' rfl ?_) .nil))))))))))
    ·exact qJ (by rw[aO hO2,Nat.zero_div];rfl)
    ·exact zV (by rw[if_neg hc1,aO hO2,Nat.zero_mod])
    ·exact zl (by simp[hc1])
  ·refine stM rfl (nkQ k5 (.sr fun k13=>st (.as (.cU 0 rfl)) rfl (nkQ k13 (.sq fun k14=>.sr fun k15=>stM rfl (st (.len zh (.t rfl)) rfl (st (.subI (.t rfl) (.cI 1 rfl) (by omega) (by omega)) rfl (stM rfl (nkQ k15 (.w [0,1,4,5,6,7,8] rfl (.block (.loopF [0,1,4,5,6] (fun (z:{ k:Nat//k≤(List.length (zA (val xs))) })=>match z with|⟨k,hI⟩=>[(8,isI ((k:Int)-1)),(7,isU (val xs/W^k%x))]) (fun M=>fun (z:{ k:Nat//k≤(List.length (zA (val xs))) })=>match z with|⟨k,hI⟩=>[(some b1,zC (List.map isU (mix k (val xs) (val xs/x) ((List.length (zA (val xs))))++List.replicate jb1 0)))]) (fun (z:{ k:Nat//k≤(List.length (zA (val xs))) })=>match z with|⟨k,hI⟩=>k) (⟨(List.length (zA (val xs))),Nat.le_refl _⟩) (Cv.mem (.c 8 rfl ?_ (.c 7 rfl ?_ (.l [0,1,4,5,6] rfl))) ?_) ?_)))))))))))
   ·rfl
   ·exact zV (by rw[Nat.div_eq_of_lt (xI _),Nat.zero_mod])
   ·exact qy (oJ _ _ _)
   rintro⟨k,hI⟩ K16 hK16
   refine .w [8,7,0,1,4,5,6] rfl (.memEq (M':=[(some b1,zC (List.map isU (mix k (val xs) (val xs/x) ((List.length (zA (val xs))))++List.replicate jb1 0)))]) rfl ?_)
   have wl:(mix k (val xs) (val xs/x) ((List.length (zA (val xs))))++List.replicate jb1 0).length=(List.length (zA (val xs)))+jb1:=by rw[List.length_append,jW hI,List.length_replicate]
   have ek:((k:Int)-1).toNat=k-1:=by omega
   refine .sq fun k17=>.sr fun k18=>stM rfl (st (.geI (.t rfl) (.cI 0 rfl)) rfl (nkQ k18 (.cd rfl (fun hc4=>?_) (fun hc4=>?_))))
   ·refine .skip (.nk k17 (.sq fun k19=>.block (.region (stM rfl (stM rfl (stM rfl (stM rfl (stM rfl (st (.eq (.ixWin zh zp (.t rfl) (.t rfl) (by omega)) (qG (by exact aS))) rfl (st (.eq (.load1 (.t rfl) (i:=0) rfl zp (map_some (getD_some (d:=0) (by omega)))) ((show isU _=isU (dig (val xs) (k-1)) from zV (by rw[ek,nO (by rw[jW hI];omega),zDZ (by omega)])))) rfl ?_))))))))))
    refine stM rfl (st (.call (iA (Nat.mod_lt _ (by omega))) (.cons (.t rfl) (.cons (.t rfl) (.cons (.t rfl) .nil)))) rfl (stM rfl (st (.ext (.t rfl) rfl) rfl (st (.ext (.t rfl) rfl) rfl (st (.eq (.ixWin zh zp (.t rfl) (.t rfl) (by omega)) (qG (by exact aS))) rfl (.storeM (.t rfl) (.t rfl) (i:=0) rfl zp (by omega) (M':=[(_,_)]) rfl (stM rfl (nl (.bln (.nk k19 (.region (stM rfl (st (.subI (.t rfl) (.cI 1 rfl) (by omega) (by omega)) rfl (stM rfl (nl (.thn ?_))))))))))))))))
    have hs:=ff (A:=val xs) (x:=x) (by omega) (by omega:0<k)
    refine hK16 (⟨k-1,by omega⟩) _ _ ?_ (Cv.mem (.c 8 rfl ?_ (.c 7 rfl ?_ (.l [0,1,4,5,6] rfl))) ?_)
    ·show k-1<k;omega
    ·exact zF (by show _=((k-1:Nat):Int)-1;omega)
    ·exact zV hs.2
    ·exact qy (by rw[ek];exact mi (by omega) hI hs.1)
   ·refine .exit (.the (.the (.blh (.nk k14 (.sq fun k20=>.cv (Cv.freeze' (t:=0) (i:=0) (ys:=zT ((List.length (zA (val xs)))) (val xs/x)) rfl rfl rfl (by omega) (by obtain rfl:k=0:=(by omega);exact ua rfl)) ?_)))))
    refine .memEq (M':=[]) rfl (.w [0,1,4,5,6,8,7,16,17] rfl (.region (stM rfl (st (.call (vT (by rw[xz];exact zIE (by omega))) (.cons (.t rfl) .nil)) rfl ?_))))
    refine stM rfl (stM rfl (stM rfl (st (.as (.cB true)) rfl (nkQ k20 (.w [4,5,6] rfl (.ret (rtN (.inl rfl) Tryz.results127 rfl rfl (.tmp (Has.t' rfl ?_) (.tmp (Has.t' rfl ?_) (.tmp (Has.t' rfl ?_) .nil))))))))))
    ·exact qJ (sX _ _)
    ·obtain rfl:k=0:=(by omega);exact zV (by rw[if_neg hc1,Nat.pow_zero,Nat.div_one])
    ·exact zl (by simp[hc1])
theorem te {u2 u1 u0 v1 v0:Nat} (h:0<v1):Ctr Tryz.prog 135 [isU u2,isU u1,isU u0,isU v1,isU v0] (isU (gss u2 u1 u0 v1 v0)):=by
 refine Ctr.i Tryz.func135 rfl Tryz.ntmps135 fun w0 F0=>.w [0,1,2,3,4] rfl (.fact (Has.ltU (Has.t (t:=0) rfl)) fun lt0=>.fact (Has.ltU (Has.t (t:=1) rfl)) fun lt1=>.fact (Has.ltU (Has.t (t:=2) rfl)) fun lt2=>.fact (Has.ltU (Has.t (t:=3) rfl)) fun lt3=>.fact (Has.ltU (Has.t (t:=4) rfl)) fun lt4=>.sr fun k1=>st (.as (.cU 0 rfl)) rfl (nkQ k1 (.sq fun k2=>.sr fun k3=>stM rfl (stM rfl (st (.gtU (.t rfl) (.t rfl)) rfl (nkQ k3 (.cd rfl (fun hc1=>?_) (fun hc1=>?_))))))))
 ·refine .sr fun k4=>st (.as (.cU 18446744073709551615 rfl)) rfl (nkQ k4 (.ret (.thr (rt1 (.inl rfl) Tryz.results135 rfl (.tmp (Has.t' rfl ?_) .nil)))))
  all_goals (exact zV (zEU hc1 lt4 h))
 ·refine .skip (.nk k2 (.sr fun k5=>st (.as (.cU 18446744073709551615 rfl)) rfl (st (.as (.cU 0 rfl)) rfl (st (.as (.cU 0 rfl)) rfl (nkQ k5 (.cutF [2,3,4,10] (fun (z:{ z:Nat×Nat//Gw u2 u1 u0 v1 v0 z.1 z.2 })=>match z with|⟨(q,r),hI⟩=>[(11,isU q),(12,isU (r%18446744073709551616)),(13,isU (r/18446744073709551616))]) (fun M=>fun (z:{ z:Nat×Nat//Gw u2 u1 u0 v1 v0 z.1 z.2 })=>match z with|⟨(q,r),hI⟩=>M) (fun K6 hK6=>?_) ?_))))))
  ·refine .sr fun k7=>stM rfl (stM rfl (st (.eqU (.t rfl) (.t rfl)) rfl (nkQ k7 (.w [0,1,2,3,4,10,11,12,13,21] rfl (.cd rfl (fun hc2=>?_) (fun hc2=>?_))))))
   ·refine .region (stM rfl (stM rfl (st (.add64 vz (.t rfl) (.t rfl) (.cU 0 rfl) (by omega) ⟨(by with_reducible assumption),(by with_reducible assumption)⟩) rfl (stM rfl (st (.ext (.t rfl) rfl) rfl (st (.ext (.t rfl) rfl) rfl (stM rfl (stM rfl (nl (.thn (hK6 (⟨(18446744073709551615,u1+v1),Gw.same hc2 lt1 lt3⟩) _ _ (Cv.mem (.c 11 rfl ?_ (.c 12 rfl ?_ (.c 13 rfl ?_ (.l [2,3,4,10] rfl)))) ?_))))))))))))
    ·rfl
    ·rfl
    ·rfl
    ·rfl
   ·refine .region (stM rfl (stM rfl (stM rfl (st (.call (iA (by omega)) (.cons (.t rfl) (.cons (.t rfl) (.cons (.t rfl) .nil)))) rfl (stM rfl (st (.ext (.t rfl) rfl) rfl (st (.ext (.t rfl) rfl) rfl (stM rfl (stM rfl (nl (.thn ?_)))))))))))
    have hm:=Nat.mod_lt (u2*18446744073709551616+u1) h
    refine hK6 (⟨((u2*18446744073709551616+u1)/v1,(u2*18446744073709551616+u1)%v1),Gw.start (by omega) lt1 lt2 lt3⟩) _ _ (Cv.mem (.c 11 rfl ?_ (.c 12 rfl ?_ (.c 13 rfl ?_ (.l [2,3,4,10] rfl)))) ?_)
    ·rfl
    ·exact zV (Nat.mod_eq_of_lt (by omega)).symm
    ·exact zV (Nat.div_eq_of_lt (by omega)).symm
    ·rfl
  rintro⟨⟨q,r⟩,g⟩
  refine .w [11,12,13,2,3,4,10] rfl ?_
  simp only[] at g
  refine .sq fun k8=>.block (.loopF [2,3,4,10] (fun (z:{ z:Nat×Nat//Gw u2 u1 u0 v1 v0 z.1 z.2 })=>match z with|⟨(q,r),hI⟩=>[(11,isU q),(12,isU (r%18446744073709551616)),(13,isU (r/18446744073709551616))]) (fun M=>fun (z:{ z:Nat×Nat//Gw u2 u1 u0 v1 v0 z.1 z.2 })=>match z with|⟨(q,r),hI⟩=>M) (fun (z:{ z:Nat×Nat//Gw u2 u1 u0 v1 v0 z.1 z.2 })=>match z with|⟨(q,r),hI⟩=>q) (⟨(q,r),g⟩) (Cv.mem (.c 11 rfl ?_ (.c 12 rfl ?_ (.c 13 rfl ?_ (.l [2,3,4,10] rfl)))) ?_) ?_)
  ·rfl
  ·rfl
  ·rfl
  ·rfl
  rintro⟨⟨q,r⟩,g⟩ K9 hK9
  refine .w [11,12,13,2,3,4,10] rfl ?_
  simp only[] at g
  have gq:=g.q
  have gr:=g.r
  refine .sq fun k10=>.sr fun k11=>stM rfl (st (.eqU (.t rfl) (.cU 0 rfl)) rfl (nkQ k11 (.cd rfl (fun hc3=>?_) (fun hc3=>?_))))
  ·refine .skip (.nk k10 (.block (.sr fun k12=>stM rfl (stM rfl (st (.call cV (.cons (.t rfl) (.cons (.t rfl) .nil))) rfl (stM rfl (st (.ext (.t rfl) rfl) rfl (st (.ext (.t rfl) rfl) rfl (stM rfl (stM rfl (nkQ k12 (.sq fun k13=>.sr fun k14=>stM rfl (stM rfl (st (.ltU (.t rfl) (.t rfl)) rfl (stM rfl (stF rfl rfl (fun hg=>.mv (.t rfl)) rfl (stF rfl rfl (fun hg=>.mv (.t rfl)) rfl (stF rfl rfl (fun hg=>.eqU (Has.g rfl hg) (Has.g rfl hg)) rfl (stF rfl rfl (fun hg=>.mv (Has.g rfl hg)) rfl (km rfl rfl (fun hg=>.mv (.t rfl)) rfl (km rfl rfl (fun hg=>.mv (.t rfl)) rfl (km rfl rfl (fun hg=>.leU (Has.g rfl hg) (Has.g rfl hg)) rfl (stF rfl rfl (fun hg=>.pickAnd (Has.g rfl hg) (fun h=>Has.g rfl (ga hg h))) rfl (st (.pickOr (.t rfl) (fun h=>Has.g rfl (ng h))) rfl (nkQ k14 (.cd rfl (fun hc4=>?_) (fun hc4=>?_)))))))))))))))))))))))))))
   ·have ht:=(po (p:=q*v0) (r:=r%18446744073709551616) (u0:=u0) (by omega) lt2).1 hc4
    rw[Nat.mod_eq_of_lt (show r<18446744073709551616 by omega)] at ht
    refine .exit (.the (.blm rfl (.the (.blh (.nk k8 (.w [10,11] rfl (.sr fun k15=>stM rfl (stM rfl (nkQ k15 (.ret (rt1 (.inl rfl) Tryz.results135 rfl (.tmp (Has.t' rfl ?_) .nil))))))))))))
    all_goals (exact zV (g.exit h ht))
   ·have ht:¬_:=fun hh=>absurd ((po (p:=q*v0) (r:=r%18446744073709551616) (u0:=u0) (by omega) lt2).2 hh) (by omega)
    have hn:=Gw.next h lt3 g (by omega) (by omega)
    refine .skip (.nk k13 (.sr fun k16=>stM rfl (st (.subU' (.t rfl) (.cU 1 rfl) (by omega) (by omega)) rfl (stM rfl (nkQ k16 (.region (stM rfl (stM rfl (st (.add64 vz (.t rfl) (.t rfl) (.cU 0 rfl) (by omega) ⟨(by omega),(by with_reducible assumption)⟩) rfl (stM rfl (st (.ext (.t rfl) rfl) rfl (st (.ext (.t rfl) rfl) rfl (stM rfl (stM rfl (nl (.bln (.thn (hK9 (⟨(q-1,r+v1),hn.1⟩) _ _ ?_ (Cv.mem (.c 11 rfl ?_ (.c 12 rfl ?_ (.c 13 rfl ?_ (.l [2,3,4,10] rfl)))) ?_)))))))))))))))))))
    ·show q-1<q;have:=hn.2;omega
    ·rfl
    ·exact zV (by show (r%_+v1+0)%_=(r+v1)%_;omega)
    ·exact zV (by show (r%_+v1+0)/_=(r+v1)/_;omega)
    ·rfl
  ·refine .exit (.the (.the (.blh (.nk k8 (.w [10,11] rfl (.sr fun k17=>stM rfl (stM rfl (nkQ k17 (.ret (rt1 (.inl rfl) Tryz.results135 rfl (.tmp (Has.t' rfl ?_) .nil)))))))))))
   all_goals (exact zV (g.exit2 h lt4 (by omega)))
end Go.Proofs.YtchbfpcaibfkdaaGreat
namespace Go.Proofs.YtchbfpcaibfkdaaGreat
open Go.En Go.RowKit
set_option maxRecDepth 10000
open Go.Nt
set_option maxHeartbeats 2000000 in
theorem zBE {N v q o c m:Nat} (h2:o+((List.length (zA v))+1)≤m) (h3:N/W^o<W^((List.length (zA v))+1)):CtrM Tryz.prog 136 (fun b0=>[qW b0 o ((List.length (zA v))+1) c,zD (zA v),isU q]) (zC (List.map isU (zT m N))) (zC (List.map isU (zT m (N%W^o+W^o*(wJ (N/W^o) (v*q) ((List.length (zA v))+1)))))) (fun b0=>isB (decide (N/W^o<v*q))):=by
 refine CtrM.intro Tryz.func136 rfl (by kernel_rfl) Tryz.ntmps136 (fun _=>rfl) fun w0 F0 b0=>.w [0,1,2] rfl (.fact (Has.lenLt (Has.t (t:=0) rfl)) fun lt0=>.fact (Has.winLe (Has.t (t:=0) rfl)) fun lw0=>.fact (Has.lenLt (Has.t (t:=1) rfl)) fun lt1=>.fact (Has.okW (Has.t (t:=1) rfl)) fun ok1=>.fact (Has.ltU (Has.t (t:=2) rfl)) fun lt2=>.sr fun k1=>st (.as (.cB false)) rfl (nkQ k1 (.sr fun k2=>st (.as (.cU 0 rfl)) rfl (st (.as (.cU 0 rfl)) rfl (nkQ k2 (.sq fun k3=>.sr fun k4=>stM rfl (st (.len zh (.t rfl)) rfl (st (.mv (.cI 0 rfl)) rfl (nkQ k4 (.block (.loopF [0,1,2,6,14,15] (fun (z:{ i:Nat//i≤(List.length (zA v)) })=>match z with|⟨i,hI⟩=>[(16,isI (i:Int)),(7,isU (wa 0 v q i)),(8,isU (bor (N/W^o) (v*q) i))]) (fun M=>fun (z:{ i:Nat//i≤(List.length (zA v)) })=>match z with|⟨i,hI⟩=>[(some b0,zC (List.map isU (mix (o+i) (N%W^o+W^o*(wJ (N/W^o) (v*q) ((List.length (zA v))+1))) N m)))]) (fun (z:{ i:Nat//i≤(List.length (zA v)) })=>match z with|⟨i,hI⟩=>(List.length (zA v))-i) (⟨0,Nat.zero_le _⟩) (Cv.mem (.c 16 rfl ?_ (.c 7 rfl ?_ (.c 8 rfl ?_ (.l [0,1,2,6,14,15] rfl)))) ?_) ?_)))))))))))
 ·rfl
 ·exact zV (iy _ _ _)
 ·exact zV (nj _ _)
 ·exact qy (aB (by omega) (kd _ _ _))
 rintro⟨i,hI⟩ K5 hK5
 refine .w [16,7,8,0,1,2,6,14,15] rfl (.memEq (M':=[(some b0,zC (List.map isU (mix (o+i) (N%W^o+W^o*(wJ (N/W^o) (v*q) ((List.length (zA v))+1))) N m)))]) rfl ?_)
 have wl:(mix (o+i) (N%W^o+W^o*(wJ (N/W^o) (v*q) ((List.length (zA v))+1))) N m).length=m:=jW (by omega)
 have hcl:=Nat.lt_of_le_of_lt (dF 0 v q i) lt2
 have hrow:=sb lt2 (xB v i) hcl (xB _ _) (iv v q i)
 refine .sr fun k6=>st (.ltI (.t rfl) (.t rfl)) rfl (nkQ k6 (.sq fun k7=>.cd rfl (fun hc1=>?_) (fun hc1=>?_)))
 ·refine .skip (.nk k7 (.sq fun k8=>.block (.sr fun k9=>stM rfl (st (.ixP zh zp (.t rfl) (.t rfl) (by omega) (getD_some (d:=0) (by omega))) rfl (st (.eq (.loadP1 (.t rfl) zp) (zV (qH _ i))) rfl (stM rfl (stM rfl (nkQ k9 (.sr fun k10=>stM rfl (stM rfl (st (.call (cV) (.cons (.t rfl) (.cons (.t rfl) .nil))) rfl (stM rfl (st (.ext (.t rfl) rfl) rfl (st (.ext (.t rfl) rfl) rfl (stM rfl (stM rfl (nkQ k10 (.sr fun k11=>st (.as (.cU 0 rfl)) rfl (nkQ k11 (.sr fun k12=>stM rfl (stM rfl (st (.add64 vz (.t rfl) (.t rfl) (.cU 0 rfl) (by omega) ⟨(by omega),(by with_reducible assumption)⟩) rfl (stM rfl (st (.ext (.t rfl) rfl) rfl (st (.ext (.t rfl) rfl) rfl (stM rfl (stM rfl (nkQ k12 (.sr fun k13=>stM rfl (stM rfl (st (.addU' (.t rfl) (.t rfl) (by omega)) rfl ?_)))))))))))))))))))))))))))))))
  refine stM rfl (nkQ k13 (.region (stM rfl (stM rfl (stM rfl (stM rfl (st (.eq (.ixWin zh zp (.t rfl) (.t rfl) (by omega)) (qG (by exact gS))) rfl (st (.eq (.load1 (.t rfl) (i:=0) rfl zp (map_some (getD_some (d:=0) (by omega)))) (zV (oP (by omega)))) rfl (stM rfl (stM rfl (st (.sub64 eC (.t rfl) (.t rfl) (.t rfl) (by with_reducible exact lg _ _ _) ⟨(by with_reducible exact xB _ _),(by omega)⟩) rfl (stM rfl (st (.ext (.t rfl) rfl) rfl (st (.ext (.t rfl) rfl) rfl (st (.eq (.ixWin zh zp (.t rfl) (.t rfl) (by omega)) (qG (by exact gS))) rfl (.storeM (.t rfl) (.t rfl) (i:=0) rfl zp (by omega) (M':=[(_,_)]) rfl (stM rfl (nl (.bln (.nk k8 (.region (st (.addI (.t rfl) (.cI 1 rfl) (by omega) (by omega)) rfl (stM rfl (nl (.thn (hK5 (⟨i+1,by omega⟩) _ _ ?_ (Cv.mem (.c 16 rfl ?_ (.c 7 rfl ?_ (.c 8 rfl ?_ (.l [0,1,2,6,14,15] rfl)))) ?_)))))))))))))))))))))))))))
  ·show (List.length (zA v))-(i+1)<(List.length (zA v))-i;omega
  ·rfl
  ·exact zV hrow.2.1
  ·exact zV (by rw[hrow.1];exact dU _ _ _)
  ·exact qy (ke (by omega) (by rw[hrow.1];exact uN (ph (xI v) lt2) (by omega)))
 ·refine .exit (.the (.the (.blh (.nk k3 (.w [0,1,6,7,8] rfl (.sr fun k14=>stM rfl (stM rfl (st (.len zh (.t rfl)) rfl (stM rfl (stM rfl (st (.len zh (.t rfl)) rfl (st (.eq (.ixWin zh zp (.t rfl) (.t rfl) (by omega)) (qG (by exact gS))) rfl (st (.eq (.load1 (.t rfl) (i:=0) rfl zp (map_some (getD_some (d:=0) (by omega)))) ((zV (rI (j:=(List.length (zA v))) (by omega) (by omega))))) rfl (stM rfl (stM rfl (st (.sub64 (l:=dig (N/W^o) ((List.length (zA v)))) (m:=wa 0 v q i) (c:=bor (N/W^o) (v*q) i) eC (.t rfl) (.t rfl) (.t rfl) (lg _ _ _) ⟨xB _ _,hcl⟩) rfl (stM rfl (st (.ext (.t rfl) rfl) rfl (st (.ext (.t rfl) rfl) rfl (st (.eq (.ixWin zh zp (.t rfl) (.t rfl) (by omega)) (qG (by exact gS))) rfl (.storeM (.t rfl) (.t rfl) (i:=0) rfl zp (by omega) (M':=[(_,_)]) rfl (stM rfl (nkQ k14 (.w [6,8] rfl (.sr fun k15=>stM rfl (st (.neU (.t rfl) (.cU 0 rfl)) rfl (stM rfl (nkQ k15 (.ret (zDG (.inl rfl) Tryz.results136 rfl (i:=0) ?_ (.tmp (Has.t' rfl ?_) .nil)))))))))))))))))))))))))))))))
  ·obtain rfl:i=(List.length (zA v)):=(by omega);exact lH ((ke (by omega) (zCR (xI v) lt2)).trans (uM (by omega) h3 (lz _ _ _)))
  ·obtain rfl:i=(List.length (zA v)):=(by omega);exact zl (zCS (xI v) lt2 h3)
set_option maxHeartbeats 2000000 in
theorem zBH {N v o c m:Nat} (h2:o+((List.length (zA v))+1)≤m) (h3:N/W^o<W^((List.length (zA v))+1)):CtrM Tryz.prog 137 (fun b0=>[qW b0 o ((List.length (zA v))+1) c,zD (zA v)]) (zC (List.map isU (zT m N))) (zC (List.map isU (zT m (N%W^o+W^o*(iH (N/W^o) v ((List.length (zA v))+1)))))) (fun b0=>zZ []):=by
 refine CtrM.intro Tryz.func137 rfl (by kernel_rfl) Tryz.ntmps137 (fun _=>rfl) fun w0 F0 b0=>.w [0,1] rfl (.fact (Has.lenLt (Has.t (t:=0) rfl)) fun lt0=>.fact (Has.winLe (Has.t (t:=0) rfl)) fun lw0=>.fact (Has.lenLt (Has.t (t:=1) rfl)) fun lt1=>.fact (Has.okW (Has.t (t:=1) rfl)) fun ok1=>.sr fun k1=>st (.as (.cU 0 rfl)) rfl (nkQ k1 (.sq fun k2=>.sr fun k3=>stM rfl (st (.len zh (.t rfl)) rfl (st (.mv (.cI 0 rfl)) rfl (nkQ k3 (.block (.loopF [0,1,7,8] (fun (z:{ i:Nat//i≤(List.length (zA v)) })=>match z with|⟨i,hI⟩=>[(9,isI (i:Int)),(4,isU (car (N/W^o) v i))]) (fun M=>fun (z:{ i:Nat//i≤(List.length (zA v)) })=>match z with|⟨i,hI⟩=>[(some b0,zC (List.map isU (mix (o+i) (N%W^o+W^o*(iH (N/W^o) v ((List.length (zA v))+1))) N m)))]) (fun (z:{ i:Nat//i≤(List.length (zA v)) })=>match z with|⟨i,hI⟩=>(List.length (zA v))-i) (⟨0,Nat.zero_le _⟩) (Cv.mem (.c 9 rfl ?_ (.c 4 rfl ?_ (.l [0,1,7,8] rfl))) ?_) ?_))))))))
 ·rfl
 ·exact zV (nf _ _)
 ·exact qy (aB (by omega) (kd _ _ _))
 rintro⟨i,hI⟩ K4 hK4
 refine .w [9,4,0,1,7,8] rfl (.memEq (M':=[(some b0,zC (List.map isU (mix (o+i) (N%W^o+W^o*(iH (N/W^o) v ((List.length (zA v))+1))) N m)))]) rfl ?_)
 have wl:(mix (o+i) (N%W^o+W^o*(iH (N/W^o) v ((List.length (zA v))+1))) N m).length=m:=jW (by omega)
 refine .sr fun k5=>st (.ltI (.t rfl) (.t rfl)) rfl (nkQ k5 (.sq fun k6=>.cd rfl (fun hc1=>?_) (fun hc1=>?_)))
 ·refine .skip (.nk k6 (.sq fun k7=>.block (.sr fun k8=>stM rfl (st (.ixP zh zp (.t rfl) (.t rfl) (by omega) (getD_some (d:=0) (by omega))) rfl (st (.eq (.loadP1 (.t rfl) zp) (zV (qH _ i))) rfl (stM rfl (stM rfl (nkQ k8 (.region (stM rfl (stM rfl (stM rfl (stM rfl (st (.eq (.ixWin zh zp (.t rfl) (.t rfl) (by omega)) (qG (by exact gS))) rfl (st (.eq (.load1 (.t rfl) (i:=0) rfl zp (map_some (getD_some (d:=0) (by omega)))) (zV (oP (by omega)))) rfl (stM rfl (stM rfl (st (.add64 vz (.t rfl) (.t rfl) (.t rfl) (by with_reducible exact pS _ _ _) ⟨(by with_reducible exact xB _ _),(by with_reducible exact xB _ _)⟩) rfl (stM rfl (st (.ext (.t rfl) rfl) rfl (st (.ext (.t rfl) rfl) rfl (st (.eq (.ixWin zh zp (.t rfl) (.t rfl) (by omega)) (qG (by exact gS))) rfl (.storeM (.t rfl) (.t rfl) (i:=0) rfl zp (by omega) (M':=[(_,_)]) rfl (stM rfl (nl (.bln (.nk k7 (.region (st (.addI (.t rfl) (.cI 1 rfl) (by omega) (by omega)) rfl (stM rfl (nl ?_)))))))))))))))))))))))))))))))
  refine .thn (hK4 (⟨i+1,by omega⟩) _ _ ?_ (Cv.mem (.c 9 rfl ?_ (.c 4 rfl ?_ (.l [0,1,7,8] rfl))) ?_))
  ·show (List.length (zA v))-(i+1)<(List.length (zA v))-i;omega
  ·rfl
  ·exact zV (sR _ _ _)
  ·exact qy (ke (by omega) (uH (by omega)))
 ·refine .exit (.the (.the (.blh (.nk k2 (.region (stM rfl (stM rfl (st (.len zh (.t rfl)) rfl (st (.eq (.ixWin zh zp (.t rfl) (.t rfl) (by omega)) (qG (by exact gS))) rfl (st (.eq (.load1 (.t rfl) (i:=0) rfl zp (map_some (getD_some (d:=0) (by omega)))) ((zV (rI (j:=(List.length (zA v))) (by omega) (by omega))))) rfl (stM rfl (st (.addU (.t rfl) (.t rfl)) rfl (st (.eq (.ixWin zh zp (.t rfl) (.t rfl) (by omega)) (qG (by exact gS))) rfl (.storeM (.t rfl) (.t rfl) (i:=0) rfl zp (by omega) (M':=[(_,_)]) rfl (nl (rtM0 (.inr rfl) Tryz.results137 rfl (i:=0) ?_))))))))))))))))
  all_goals (obtain rfl:i=(List.length (zA v)):=(by omega);exact lH ((ke (by omega) (zFT (xI v))).trans (uM (by omega) h3 (zCJ _ _ _))))
end Go.Proofs.YtchbfpcaibfkdaaGreat
namespace Go.Proofs.YtchbfpcaibfkdaaGreat
open Go.En Go.RowKit
set_option maxRecDepth 10000
set_option maxHeartbeats 4000000
open Go.Nt
theorem zBG {N v c m:Nat} (hn:2≤(List.length (zA v))) (hm:(List.length (zA v))<m) (hM:m≤4294967296) (hN:N<v*W^(m-(List.length (zA v)))):CtrM Tryz.prog 130 (fun b0=>[qW b0 0 m c,zD (zA v)]) (zC (List.map isU (zT m N))) (zC (List.map isU (zT m (left N v 0)))) (fun b0=>zD (zT (m-(List.length (zA v))) (N/v))):=by
 refine CtrM.intro Tryz.func130 rfl (by kernel_rfl) Tryz.ntmps130 (fun _=>rfl) fun w0 F0 b0=>.w [0,1] rfl (.fact (Has.lenLt (Has.t (t:=0) rfl)) fun lt0=>.fact (Has.winLe (Has.t (t:=0) rfl)) fun lw0=>.fact (Has.lenLt (Has.t (t:=1) rfl)) fun lt1=>.fact (Has.okW (Has.t (t:=1) rfl)) fun ok1=>.sr fun k1=>st (.as (.cW (f:=isU))) rfl (nkQ k1 (.sr fun k2=>stM rfl (st (.len zh (.t rfl)) rfl (stM rfl (nkQ k2 (.sr fun k3=>stM rfl (st (.len zh (.t rfl)) rfl (stM rfl (st (.eq (.subI (.t rfl) (.t rfl) (by omega) (by omega)) ((show isI _=isI ((m-(List.length (zA v)):Nat):Int) from zF (by omega)))) rfl (.make (f:=isU) (u:=0) (n:=m-(List.length (zA v))) (c:=m-(List.length (zA v))) zh zp jL (fun _ _=>⟨⟨rfl,by decide⟩,trivial⟩) hH (Has.t' rfl rfl) (Has.t' rfl rfl) (by omega) rfl fun b1=>stM rfl (nkQ k3 (.w [0,1,4,5,6] rfl (.sq fun k4=>.sr fun k5=>stM rfl (st (.len zh (.t rfl)) rfl (st (.subI (.t rfl) (.cI 1 rfl) (by omega) (by omega)) rfl (stM rfl (nkQ k5 (.block (.loopF [0,1,4,5,6] (fun (z:{ k:Nat//k≤m-(List.length (zA v)) })=>match z with|⟨k,hI⟩=>[(7,isI ((k:Int)-1))]) (fun M=>fun (z:{ k:Nat//k≤m-(List.length (zA v)) })=>match z with|⟨k,hI⟩=>[(some b1,zC (List.map isU (mix k 0 (N/v) (m-(List.length (zA v)))))),(some b0,zC (List.map isU (zT m (left N v k))))]) (fun (z:{ k:Nat//k≤m-(List.length (zA v)) })=>match z with|⟨k,hI⟩=>k) (⟨m-(List.length (zA v)),Nat.le_refl _⟩) (Cv.mem (.c 7 rfl ?_ (.l [0,1,4,5,6] rfl)) ?_) ?_))))))))))))))))))))
 ·rfl
 ·exact lJ (yS _ _) (by rw[yq hN])
 rintro⟨k,hI⟩ K6 hK6
 refine .w [7,0,1,4,5,6] rfl (.memEq (M':=[(some b1,zC (List.map isU (mix k 0 (N/v) (m-(List.length (zA v)))))),(some b0,zC (List.map isU (zT m (left N v k))))]) rfl ?_)
 have wl:(zT m (left N v k)).length=m:=qB _ _
 have wl2:(mix k 0 (N/v) (m-(List.length (zA v)))).length=m-(List.length (zA v)):=jW hI
 refine .sq fun k7=>.sr fun k8=>stM rfl (st (.geI (.t rfl) (.cI 0 rfl)) rfl (nkQ k8 (.cd rfl (fun hc1=>?_) (fun hc1=>?_))))
 ·obtain⟨j,rfl⟩:∃j,k=j+1:=⟨k-1,by omega⟩
  obtain⟨k2,hk2⟩:∃k2,(List.length (zA v))=k2+2:=⟨(List.length (zA v))-2,by omega⟩
  have ej:(((j+1:Nat):Int)-1)=(j:Int):=by omega
  obtain⟨g,hg⟩:∃g,g=gss (dig (left N v (j+1)/W^j) (k2+2)) (dig (left N v (j+1)/W^j) (k2+1)) (dig (left N v (j+1)/W^j) k2) (dig v (k2+1)) (dig v k2):=⟨_,rfl⟩
  have hgl:g<18446744073709551616:=hg▸gss_lt _ _ _ _ _
  have R:=mM hk2 hg hgl
  refine .skip (.nk k7 (.sq fun k9=>.block (.sq fun k10=>.dr (.m [] rfl (.so [] rfl (.eq (.mv (.t rfl)) ((zF ej))) (.m [] rfl (.so [25,26] rfl (.addI (.t rfl) (.t rfl) (by omega) (by omega)) ?_)))))))
  refine .so [24,27] rfl (.eq (.ixWin zh zp (.t rfl) (.t rfl) (by omega)) (qG (by exact aS))) (.so [28] rfl (.eq (.load1 (.t rfl) (i:=1) rfl zp (map_some (getD_some (d:=0) (by omega)))) ((show isU _=isU (dig (left N v (j+1)/W^j) (k2+2)) from zV (getW (by omega) (by omega))))) (.m [] rfl (.so [] rfl (.eq (.mv (.t rfl)) ((zF ej))) (.m [] rfl (.so [31,32] rfl (.addI (.t rfl) (.t rfl) (by omega) (by omega)) ?_)))))
  refine .so [33] rfl (.subI (.t rfl) (.cI 1 rfl) (by omega) (by omega)) ?_
  refine .so [30,34] rfl (.eq (.ixWin zh zp (.t rfl) (.t rfl) (by omega)) (qG (by exact aS))) (.so [35] rfl (.eq (.load1 (.t rfl) (i:=1) rfl zp (map_some (getD_some (d:=0) (by omega)))) ((show isU _=isU (dig (left N v (j+1)/W^j) (k2+1)) from zV (getW (by omega) (by omega))))) (.m [] rfl (.so [] rfl (.eq (.mv (.t rfl)) ((zF ej))) (.m [] rfl (.so [38,39] rfl (.addI (.t rfl) (.t rfl) (by omega) (by omega)) ?_)))))
  refine .so [40] rfl (.subI (.t rfl) (.cI 2 rfl) (by omega) (by omega)) ?_
  refine .so [37,41] rfl (.eq (.ixWin zh zp (.t rfl) (.t rfl) (by omega)) (qG (by exact aS))) (.so [42] rfl (.eq (.load1 (.t rfl) (i:=1) rfl zp (map_some (getD_some (d:=0) (by omega)))) ((show isU _=isU (dig (left N v (j+1)/W^j) (k2)) from zV (getW (by omega) (by omega))))) (.m [] rfl (.m [] rfl (.so [45] rfl (.subI (.t rfl) (.cI 1 rfl) (by omega) (by omega)) ?_))))
  refine .so [44,46] rfl (.ixP zh zp (.t rfl) (.t rfl) (by omega) (getD_some (d:=0) (by omega))) (.so [47] rfl (.eq (.loadP1 (.t rfl) zp) ((show isU _=isU (dig v (k2+1)) from zV (zEY (by omega))))) (.m [] rfl (.m [] rfl (.so [50] rfl (.subI (.t rfl) (.cI 2 rfl) (by omega) (by omega)) ?_))))
  refine .so [49,51] rfl (.ixP zh zp (.t rfl) (.t rfl) (by omega) (getD_some (d:=0) (by omega))) (.so [52] rfl (.eq (.loadP1 (.t rfl) zp) ((show isU _=isU (dig v k2) from zV (zEY (by omega))))) (.fn (n:=30) zW (.w [0,1,4,5,6,7,20,21,24,25,26,27,28,29,30,31,32,33,34,35,36,37,38,39,40,41,42,43,44,45,46,47,48,49,50,51,52,53] rfl (st (.eq (.call (te R.hd) (.cons (.t rfl) (.cons (.t rfl) (.cons (.t rfl) (.cons (.t rfl) (.cons (.t rfl) .nil)))))) ((show isU _=isU g from zV hg.symm))) rfl (stM rfl (nkQ k10 (.sr fun k11=>stM rfl (st (.eq (.mv (.t rfl)) ((zF ej))) rfl (st (.eq (.mv (.t rfl)) ((zF ej))) rfl (stM rfl (st (.addI (.t rfl) (.t rfl) (by omega) (by omega)) rfl (st (.addI (.t rfl) (.cI 1 rfl) (by omega) (by omega)) rfl (st (.eq (.eq (.slLHWin zh zp (.t rfl) (.t rfl) (.t rfl) ⟨by omega,by omega,by omega,by omega⟩) (gT (by exact aS) rfl rfl)) ((show qW _ _ _ _=qW b0 j ((List.length (zA v))+1) (c-j) from gT (by omega) (by omega) (by omega)))) rfl (stM rfl (nkQ k11 (.sq fun k12=>.sr fun k13=>stM rfl (stM rfl (stM rfl (.callM (zBE (N:=left N v (j+1)) (o:=j) (v:=v) (q:=g) (m:=m) (by omega) R.hw) (i:=1) rfl (.cons (.t rfl) (.cons (.t rfl) (.cons (.t rfl) .nil))) rfl (M':=[_,(_,_)]) rfl (nkQ k13 (.cd rfl (fun hc2=>?_) (fun hc2=>?_))))))))))))))))))))))
  ·have hbk:=R.bk hc2
   have hg1:=hbk.2.1
   refine .sr fun k14=>stM rfl (st (.subU' (.t rfl) (.cU 1 rfl) (by with_reducible assumption) (by with_reducible assumption)) rfl (stM rfl (nkQ k14 (.region (stM rfl (stM rfl (.callM (zBH (N:=left N v (j+1)%W^j+W^j*wJ (left N v (j+1)/W^j) (v*g) ((List.length (zA v))+1)) (o:=j) (m:=m) (by omega) (by rw[ci];exact lz _ _ _)) (i:=1) rfl (.cons (.t rfl) (.cons (.t rfl) .nil)) rfl (M':=[_,(_,_)]) rfl ?_)))))))
   refine nkQ k12 (.region (stM rfl (st (.eq (.mv (.t rfl)) ((zF ej))) rfl (stM rfl (st (.eq (.ixWin zh zp (.t rfl) (.t rfl) (by omega)) (qG (by exact aS))) rfl (.storeM (.t rfl) (.t rfl) (i:=0) rfl zp (by omega) (M':=[(_,_),_]) rfl (nl (.bln (.nk k9 (.region (stM rfl (st (.subI (.t rfl) (.cI 1 rfl) (by omega) (by omega)) rfl (stM rfl (nl (.thn (hK6 (⟨j,by omega⟩) _ _ ?_ (Cv.mem (.c 7 rfl ?_ (.l [0,1,4,5,6] rfl)) ?_)))))))))))))))))
   ·show j<j+1;omega
   ·exact zF (by show (((j+1:Nat):Int)-1)-1=(j:Int)-1;omega)
   ·exact lJ (ix (k:=j+1) (by omega) hI hbk.1) (iY hbk.2.2)
  ·have hfi:=R.fine (by omega)
   refine .skip (.nk k12 (.region (stM rfl (st (.eq (.mv (.t rfl)) ((zF ej))) rfl (stM rfl (st (.eq (.ixWin zh zp (.t rfl) (.t rfl) (by omega)) (qG (by exact aS))) rfl (.storeM (.t rfl) (.t rfl) (i:=0) rfl zp (by omega) (M':=[(_,_),_]) rfl (nl (.bln (.nk k9 (.region (stM rfl (st (.subI (.t rfl) (.cI 1 rfl) (by omega) (by omega)) rfl (stM rfl (nl (.thn (hK6 (⟨j,by omega⟩) _ _ ?_ (Cv.mem (.c 7 rfl ?_ (.l [0,1,4,5,6] rfl)) ?_))))))))))))))))))
   ·show j<j+1;omega
   ·exact zF (by show (((j+1:Nat):Int)-1)-1=(j:Int)-1;omega)
   ·exact lJ (ix (k:=j+1) (by omega) hI hfi.1) (iY hfi.2)
 ·refine .exit (.the (.the (.blh (.nk k4 (.w [4,6] rfl (.sq fun k15=>.cv (Cv.freezeM (t:=6) (i:=0) (j:=1) (ys:=zT (m-(List.length (zA v))) (N/v)) rfl rfl rfl rfl rfl (by omega) (by obtain rfl:k=0:=(by omega);rw[zHZ];exact aU (qB _ _).symm)) ?_))))))
  refine .memEq (M':=[_]) rfl (.w [4,6] rfl (.region (stM rfl (stM rfl (nkQ k15 (.ret (zDG (.inl rfl) Tryz.results130 rfl (i:=0) ?_ (.tmp (Has.t' rfl ?_) .nil))))))))
  ·obtain rfl:k=0:=(by omega);rfl
  ·rfl
theorem yU {B:Nat} (h:(List.length (zA B))=1):(zA B).getD 0 0=B:=by
 rw[qH,aW,Nat.pow_zero,Nat.div_one,Nat.mod_eq_of_lt (eS (by omega))]
theorem zBX {A:Nat} (h:(List.length (zA A))≠0):64*(((List.length (zA A)):Int)-1)+((bitLen (dig A ((List.length (zA A))-1)):Nat):Int)=((bitLen A:Nat):Int):=by
 have hA:A≠0:=fun e=>h (by rw[e,zJ];rfl)
 have:=pV hA
 omega
theorem zAR {p q g:Nat} (h:Nat.gcd p q=g):Nat.gcd q (p%q)=g:=by rw[←h,Nat.gcd_comm p q,Nat.gcd_rec q p,Nat.gcd_comm]
theorem gk {xs ys:List Nat} (hx:(List.length (zA (val xs)))<4294800000) (hy:(List.length (zA (val ys)))<4294800000):Ctr Tryz.prog 121 [zD xs,zD ys] (zZ [zD (zA (val xs/val ys)),zD (zA (if val ys=0 then 0 else val xs%val ys)),isB (decide (val ys≠0))]):=by
 refine Ctr.i Tryz.func121 rfl Tryz.ntmps121 fun w0 F0=>.w [0,1] rfl (.fact (Has.lenLt (Has.t (t:=0) rfl)) fun lt0=>.fact (Has.okW (Has.t (t:=0) rfl)) fun ok0=>.fact (Has.lenLt (Has.t (t:=1) rfl)) fun lt1=>.fact (Has.okW (Has.t (t:=1) rfl)) fun ok1=>.sr fun k1=>st (.as (.cW (f:=isU))) rfl (st (.as (.cW (f:=isU))) rfl (st (.as (.cB false)) rfl (nkQ k1 (.sr fun k2=>stM rfl (st (.eq (.call (vT (by omega)) (.cons (.t rfl) .nil)) (by rfl)) rfl (stM rfl (st (.eq (.call (vT (by omega)) (.cons (.t rfl) .nil)) (by rfl)) rfl (stM rfl (stM rfl (nkQ k2 (.sq fun k3=>.block (.sr fun k4=>stM rfl (st (.len zh (.t rfl)) rfl (st (.eqI (.t rfl) (.cI 0 rfl)) rfl (stM rfl (nkQ k4 (.w [0,1,4,5,6,23] rfl (.cd rfl (fun hc1=>?_) (fun hc1=>?_))))))))))))))))))))
 ·refine .sr fun k5=>st (.as (.cW (f:=isU))) rfl (st (.as (.cW (f:=isU))) rfl (st (.as (.cB false)) rfl (nkQ k5 (.ret (.blr (.thr (rtN (.inl rfl) Tryz.results121 rfl rfl (.tmp (Has.t' rfl ?_) (.tmp (Has.t' rfl ?_) (.tmp (Has.t' rfl ?_) .nil))))))))))
  ·exact qJ (by rw[aI (A:=val ys) (by omega),Nat.div_zero,zJ])
  ·exact qJ (by rw[if_pos (aI (A:=val ys) (by omega)),zJ])
  ·exact zl (by simp[aI (show (List.length (zA (val ys)))=0 by omega)])
 ·refine .sr fun k6=>stM rfl (stM rfl (st (.eq (.call (et) (.cons (.t rfl) (.cons (.t rfl) .nil))) (by simp only[zB];rfl)) rfl ?_))
  refine st (.ltI (.t rfl) (.cI 0 rfl)) rfl (stM rfl (nkQ k6 (.w [0,1,4,5,6,27] rfl (.cd rfl (fun hc2=>?_) (fun hc2=>?_)))))
  ·have hlt:=dP.1 hc2
   refine .sr fun k7=>stM rfl (st (.as (.cW (f:=isU))) rfl (stM rfl (st (.as (.cB true)) rfl (nkQ k7 (.ret (.blr (.thr (rtN (.inl rfl) Tryz.results121 rfl rfl (.tmp (Has.t' rfl ?_) (.tmp (Has.t' rfl ?_) (.tmp (Has.t' rfl ?_) .nil)))))))))))
   ·exact qJ (by rw[Nat.div_eq_of_lt hlt,zJ])
   ·exact qJ (by rw[if_neg (by omega),Nat.mod_eq_of_lt hlt])
   ·exact zl (by simp;omega)
  ·have hle:val ys≤val xs:=Nat.le_of_not_lt (fun h=>by have:=dP.2 h;omega)
   refine .sr fun k8=>stM rfl (st (.len zh (.t rfl)) rfl (st (.eqI (.t rfl) (.cI 1 rfl)) rfl (stM rfl (nkQ k8 (.cd rfl (fun hc3=>?_) (fun hc3=>?_))))))
   ·have hB:val ys≠0:=fun e=>by rw[e,zJ] at hc1;simp at hc1
    refine .sr fun k9=>stM rfl (stM rfl (st (.ixP zh zp (.t rfl) (.cI 0 rfl) (by omega) (getD_some (d:=0) (by omega))) rfl (st (.eq (.loadP1 (.t rfl) zp) ((show isU _=isU (val ys) from zV (yU (by omega))))) rfl (st (.eq (.call (tf (by simp only[zB];omega)) (.cons (.t rfl) (.cons (.t rfl) .nil))) (by simp only[zB];rfl)) rfl ?_))))
    refine stM rfl (st (.ext (.t rfl) rfl) rfl (st (.ext (.t rfl) rfl) rfl (st (.ext (.t rfl) rfl) rfl (stM rfl (stM rfl (stM rfl (nkQ k9 (.w [0,1,4,5,6,7,8] rfl (.sr fun k10=>stM rfl (stM rfl (st (.call (oh) (.cons (.t rfl) .nil)) rfl (stM rfl (stM rfl (st (.as (.cB true)) rfl (nkQ k10 (.w [0,1,4,5,6] rfl (.ret (.blr (.thr (rtN (.inl rfl) Tryz.results121 rfl rfl (.tmp (Has.t' rfl ?_) (.tmp (Has.t' rfl ?_) (.tmp (Has.t' rfl ?_) .nil)))))))))))))))))))))))
    ·rfl
    ·rfl
    ·exact zl (by simp[hB])
   ·have hB:val ys≠0:=fun e=>by rw[e,zJ] at hc1;simp at hc1
    obtain⟨k,hk⟩:∃k,k=64-bitLen (dig (val ys) ((List.length (zA (val ys)))-1)):=⟨_,rfl⟩
    have D:=dm hB hle hk
    have Dk:=D.k64
    have Dv:=D.v
    have Dw:=D.w
    have Dl:=D.le
    refine .skip (.bln (.nk k3 (.w [0,1,4,5,6] rfl (.sr fun k11=>stM rfl (stM rfl (st (.len zh (.t rfl)) rfl (st (.subI (.t rfl) (.cI 1 rfl) (by omega) (by omega)) rfl (st (.ixP zh zp (.t rfl) (.t rfl) (by omega) (getD_some (d:=0) (by omega))) rfl (st (.eq (.loadP1 (.t rfl) zp) ((show isU _=isU (dig (val ys) ((List.length (zA (val ys)))-1)) from zV (zEY (by omega))))) rfl (st (.eq (.call (kU) (.cons (.t rfl) .nil)) ((show isI _=isI ((k:Nat):Int) from zF (by rw[hk])))) rfl (stM rfl (nkQ k11 (.w [0,1,4,5,6,10] rfl (.sr fun k12=>stM rfl (stM rfl (st (.eq (.call (rS (by omega) (by rw[zB];omega)) (.cons (.t rfl) (.cons (.t rfl) .nil))) (by simp only[zB];rfl)) rfl ?_))))))))))))))))
    refine stM rfl (st (.ext (.t rfl) rfl) rfl (st (.ext (.t rfl) rfl) rfl (stM rfl (stM rfl (nkQ k12 (.w [0,4,5,6,10,11] rfl (.sr fun k13=>stM rfl (stM rfl (st (.eq (.call (rS (by omega) (by rw[zB];omega)) (.cons (.t rfl) (.cons (.t rfl) .nil))) (by simp only[zB];rfl)) rfl ?_)))))))))
    refine stM rfl (st (.ext (.t rfl) rfl) rfl (st (.ext (.t rfl) rfl) rfl (stM rfl (stM rfl (nkQ k13 (.w [0,4,5,6,10,11,13] rfl (.sr fun k14=>stM rfl (st (.len zh (.t rfl)) rfl (st (.addI (.t rfl) (.cI 1 rfl) (by omega) (by omega)) rfl (.make (f:=isU) (u:=0) (n:=(List.length (zA (val xs)))+1) (c:=(List.length (zA (val xs)))+1) zh zp jL (fun _ _=>⟨⟨rfl,by decide⟩,trivial⟩) hH (Has.t' rfl rfl) (Has.t' rfl rfl) (by omega) rfl fun b1=>stM rfl (nkQ k14 (.w [4,5,6,10,11,13,15] rfl (.sr fun k15=>stM rfl (stM rfl (.copyW zh zp (fun _=>inferInstance) (.t rfl) (.t rfl) (i:=0) rfl ⟨Dw,by simp⟩ rfl (M':=[(some b1,zC (List.map isU (zT ((List.length (zA (val xs)))+1) (val xs*2^k))))]) (qy (pL Dw)) (nkQ k15 (.sr fun k16=>stM rfl (stM rfl (.callM (zBG (N:=val xs*2^k) (v:=val ys*2^k) (m:=(List.length (zA (val xs)))+1) (by omega) (by omega) (by omega) D.lt) (i:=0) rfl (.cons (.t rfl) (.cons (.t rfl) .nil)) rfl (M':=[(_,_)]) rfl (stM rfl (nkQ k16 (.w [4,5,6,10,15,16] rfl (.sq fun k17=>.cv (Cv.freeze' (t:=15) (i:=0) (ys:=zT ((List.length (zA (val xs)))+1) (left (val xs*2^k) (val ys*2^k) 0)) rfl rfl rfl (by simp[qB]) (aU (qB _ _).symm)) (.memEq (M':=[]) rfl (.w [4,5,6,10,15,16] rfl ?_)))))))))))))))))))))))))
    refine .region (stM rfl ?_)
    refine stM rfl (st (.call (zDT (by omega) (by have:=cF ((List.length (zA (val xs)))+1) (left (val xs*2^k) (val ys*2^k) 0);omega)) (.cons (.t rfl) (.cons (.t rfl) .nil))) rfl ?_)
    refine stM rfl (st (.ext (.t rfl) rfl) rfl (st (.ext (.t rfl) rfl) rfl (stM rfl (stM rfl (nkQ k17 (.w [4,5,6,16,17] rfl (.sr fun k18=>stM rfl ?_)))))))
    refine st (.call (vT (by have:=cF ((List.length (zA (val xs)))+1-(List.length (zA (val ys*2^k)))) (val xs*2^k/(val ys*2^k));omega)) (.cons (.t rfl) .nil)) rfl ?_
    refine stM rfl (stM rfl (stM rfl (st (.as (.cB true)) rfl (nkQ k18 (.w [4,5,6] rfl (.ret (rtN (.inl rfl) Tryz.results121 rfl rfl (.tmp (Has.t' rfl ?_) (.tmp (Has.t' rfl ?_) (.tmp (Has.t' rfl ?_) .nil))))))))))
    ·exact qJ (dm_quo hB D rfl rfl)
    ·exact qJ (by rw[if_neg hB,zFF hB D rfl])
    ·exact zl (by simp[hB])
theorem zFG {xs ys:List Nat} (hx:(List.length (zA (val xs)))<4294800000) (hy:(List.length (zA (val ys)))<4294800000):Ctr Tryz.prog 120 [zD xs,zD ys] (zZ [zD (zA (if val ys=0 then 0 else val xs%val ys)),isB (decide (val ys≠0))]):=by
 refine Ctr.i Tryz.func120 rfl Tryz.ntmps120 fun w0 F0=>.w [0,1] rfl (.fact (Has.lenLt (Has.t (t:=0) rfl)) fun lt0=>.fact (Has.okW (Has.t (t:=0) rfl)) fun ok0=>.fact (Has.lenLt (Has.t (t:=1) rfl)) fun lt1=>.fact (Has.okW (Has.t (t:=1) rfl)) fun ok1=>.sr fun k1=>st (.as (.cW (f:=isU))) rfl (st (.as (.cB false)) rfl (nkQ k1 (.sr fun k2=>stM rfl (stM rfl (st (.call (gk (by with_reducible assumption) (by with_reducible assumption)) (.cons (.t rfl) (.cons (.t rfl) .nil))) rfl (stM rfl (st (.ext (.t rfl) rfl) rfl (st (.ext (.t rfl) rfl) rfl (st (.ext (.t rfl) rfl) rfl (stM rfl (stM rfl (stM rfl (nkQ k2 (.w [4,5,7,8] rfl (.sr fun k3=>stM rfl (stM rfl (stM rfl (stM rfl (nkQ k3 (.ret (rtN (.inl rfl) Tryz.results120 rfl rfl (.tmp (Has.t' rfl ?_) (.tmp (Has.t' rfl ?_) .nil))))))))))))))))))))))))
 all_goals (rfl)
theorem yY {xs:List Nat} (hx:(List.length (zA (val xs)))<4294967296):Ctr Tryz.prog 55 [zD xs] (isI ((bitLen (val xs):Nat):Int)):=by
 refine Ctr.i Tryz.func55 rfl Tryz.ntmps55 fun w0 F0=>.w [0] rfl (.fact (Has.lenLt (Has.t (t:=0) rfl)) fun lt0=>.fact (Has.okW (Has.t (t:=0) rfl)) fun ok0=>.sr fun k1=>st (.as (.cI 0 rfl)) rfl (nkQ k1 (.sr fun k2=>stM rfl (st (.call (xR) (.cons (.t rfl) .nil)) rfl (stM rfl (nkQ k2 (.sq fun k3=>.sr fun k4=>stM rfl (st (.len zh (.t rfl)) rfl (st (.eqI (.t rfl) (.cI 0 rfl)) rfl (nkQ k4 (.cd rfl (fun hc1=>?_) (fun hc1=>?_))))))))))))
 ·refine .sr fun k5=>st (.as (.cI 0 rfl)) rfl (nkQ k5 (.w [0,2] rfl (.ret (.thr (rt1 (.inl rfl) Tryz.results55 rfl (.tmp (Has.t' rfl ?_) .nil))))))
  all_goals (exact zF (by rw[aI (A:=val xs) (by omega)];rfl))
 ·have hb:=zBX (A:=val xs) (by omega)
  have hd:=bH (xB (val xs) ((List.length (zA (val xs)))-1))
  refine .skip (.nk k3 (.w [0,2] rfl (.sr fun k6=>stM rfl (st (.len zh (.t rfl)) rfl (st (.subI (.t rfl) (.cI 1 rfl) (by omega) (by omega)) rfl (st (.mulI (.cI 64 rfl) (.t rfl) (by omega) (by omega)) rfl (stM rfl (stM rfl (st (.len zh (.t rfl)) rfl (st (.subI (.t rfl) (.cI 1 rfl) (by omega) (by omega)) rfl (st (.ixP zh zp (.t rfl) (.t rfl) (by omega) (getD_some (d:=0) (by omega))) rfl (st (.eq (.loadP1 (.t rfl) zp) ((show isU _=isU (dig (val xs) ((List.length (zA (val xs)))-1)) from zV (zEY (by omega))))) rfl (st (.call (hO) (.cons (.t rfl) .nil)) rfl (st (.addI (.t rfl) (.t rfl) (by omega) (by omega)) rfl (stM rfl (nkQ k6 (.w [2] rfl (.ret (rt1 (.inl rfl) Tryz.results55 rfl (.tmp (Has.t' rfl ?_) .nil))))))))))))))))))))
  all_goals (exact zF (by omega))
theorem zFH {xs ys:List Nat} (hx:(List.length (zA (val xs)))<4294800000) (hy:(List.length (zA (val ys)))<4294800000):Ctr Tryz.prog 107 [zD xs,zD ys] (zD (zA (Nat.gcd (val xs) (val ys)))):=by
 refine Ctr.i Tryz.func107 rfl Tryz.ntmps107 fun w0 F0=>.w [0,1] rfl (.fact (Has.lenLt (Has.t (t:=0) rfl)) fun lt0=>.fact (Has.okW (Has.t (t:=0) rfl)) fun ok0=>.fact (Has.lenLt (Has.t (t:=1) rfl)) fun lt1=>.fact (Has.okW (Has.t (t:=1) rfl)) fun ok1=>.sr fun k1=>st (.as (.cW (f:=isU))) rfl (nkQ k1 (.sr fun k2=>stM rfl (st (.eq (.call (vT (by omega)) (.cons (.t rfl) .nil)) (by rfl)) rfl (stM rfl (st (.eq (.call (vT (by omega)) (.cons (.t rfl) .nil)) (by rfl)) rfl (stM rfl (stM rfl (nkQ k2 (.sq fun k3=>.block (.loopF [4] (fun (z:{ z:Nat×Nat//Nat.gcd z.1 z.2=Nat.gcd (val xs) (val ys)∧(List.length (zA z.1))<4294800000∧(List.length (zA z.2))<4294800000 })=>match z with|⟨(p,q),hI⟩=>[(0,zD (zA p)),(1,zD (zA q))]) (fun M=>fun (z:{ z:Nat×Nat//Nat.gcd z.1 z.2=Nat.gcd (val xs) (val ys)∧(List.length (zA z.1))<4294800000∧(List.length (zA z.2))<4294800000 })=>match z with|⟨(p,q),hI⟩=>M) (fun (z:{ z:Nat×Nat//Nat.gcd z.1 z.2=Nat.gcd (val xs) (val ys)∧(List.length (zA z.1))<4294800000∧(List.length (zA z.2))<4294800000 })=>match z with|⟨(p,q),hI⟩=>q) (⟨(val xs,val ys),rfl,hx,hy⟩) (Cv.mem (.c 0 rfl ?_ (.c 1 rfl ?_ (.l [4] rfl))) ?_) ?_)))))))))))
 ·rfl
 ·rfl
 ·rfl
 rintro⟨⟨p,q⟩,hI⟩ K4 hK4
 refine .w [0,1,4] rfl ?_
 simp only[] at hI
 obtain⟨g1,g2,g3⟩:=hI
 refine .sq fun k5=>.sr fun k6=>stM rfl (st (.len zh (.t rfl)) rfl (st (.gtI (.t rfl) (.cI 0 rfl)) rfl (nkQ k6 (.cd rfl (fun hc1=>?_) (fun hc1=>?_)))))
 ·refine .skip (.nk k5 (.block (.sr fun k7=>stM rfl (stM rfl (st (.eq (.call (zFG (by simp only[zB];omega) (by simp only[zB];omega)) (.cons (.t rfl) (.cons (.t rfl) .nil))) (by simp only[zB];rfl)) rfl ?_)))))
  refine stM rfl (st (.ext (.t rfl) rfl) rfl (st (.ext (.t rfl) rfl) rfl (stM rfl (stM rfl (nkQ k7 (.region (stM rfl (stM rfl (stM rfl (stM rfl (nl (.bln (.thn ?_)))))))))))))
  have hq:q≠0:=fun e=>by rw[e,zJ] at hc1;simp at hc1
  refine hK4 (⟨(q,p%q),zAR g1,g3,Nat.lt_of_le_of_lt (qF (Nat.le_of_lt (Nat.mod_lt _ (by omega)))) g3⟩) _ _ ?_ (Cv.mem (.c 0 rfl ?_ (.c 1 rfl ?_ (.l [4] rfl))) ?_)
  ·show p%q<q;exact Nat.mod_lt _ (by omega)
  ·rfl
  ·exact qJ (by rw[if_neg hq])
  ·rfl
 ·refine .exit (.the (.the (.blh (.nk k3 (.sr fun k8=>stM rfl (stM rfl (nkQ k8 (.w [4] rfl (.ret (rt1 (.inl rfl) Tryz.results107 rfl (.tmp (Has.t' rfl ?_) .nil)))))))))))
  all_goals (obtain rfl:q=0:=aI (by omega);exact qJ (by rw[←g1,Nat.gcd_zero_right]))
theorem gb (a b:Nat):Nat.gcd a b≤max a b:=by
 rcases Nat.eq_zero_or_pos a with h|h
 ·subst h;rw[Nat.gcd_zero_left];exact Nat.le_max_right _ _
 ·exact Nat.le_trans (Nat.gcd_le_left b h) (Nat.le_max_left _ _)
theorem gF (a b:Nat):(List.length (zA (max a b)))≤max ((List.length (zA a))) ((List.length (zA b))):=by
 rcases Nat.le_total a b with h|h
 ·rw[Nat.max_eq_right h];omega
 ·rw[Nat.max_eq_left h];omega
def upW (n:Nat) (xs:List Nat):List Nat:=if xs.length=0 then [] else List.replicate n 0++xs
theorem zCO {n:Nat} {xs:List Nat} (h:xs.length=0):[]=upW n xs:=by unfold upW;rw[if_pos h]
theorem zCP {n:Nat} {xs:List Nat} (h:xs.length≠0):List.replicate n 0++xs=upW n xs:=by unfold upW;rw[if_neg h]
theorem kf (n:Nat) (xs:List Nat):val (upW n xs)=W^n*val xs:=by
 unfold upW
 split
 ·rename_i h;rw[List.eq_nil_of_length_eq_zero h];rfl
 ·rw[jo,vQ,List.length_replicate,Nat.zero_add]
theorem uP {n:Nat} {xs:List Nat} (h:Ok xs):(List.length (zA (val (upW n xs))))≤n+xs.length:=by
 rw[kf]
 refine ay ?_
 rw[Nat.pow_add]
 exact Nat.mul_lt_mul_of_pos_left (oE h) (qD n)
theorem zDQ {xs:List Nat} (h:Ok xs) (n:Nat):Ok (xs.take n):=fun x hx=>h x (List.mem_of_mem_take hx)
theorem zDR {xs:List Nat} (h:Ok xs) (n:Nat):Ok (xs.drop n):=fun x hx=>h x (List.mem_of_mem_drop hx)
theorem ra (a n:Nat):(List.length (zA (val ((zA a).take n))))≤min n ((List.length (zA a))):=by
 have:=wX (zDQ (aj a) n)
 rwa [List.length_take] at this
theorem nJ (a n:Nat):(List.length (zA (val ((zA a).drop n))))≤(List.length (zA a))-n:=by
 have:=wX (zDR (aj a) n)
 rwa [List.length_drop] at this
theorem zAH (a n:Nat):val ((zA a).take n)+W^n*val ((zA a).drop n)=a:=by
 rcases Nat.lt_or_ge n (zA a).length with h|h
 ·have e:=jo ((zA a).take n) ((zA a).drop n)
  rw[List.take_append_drop,zB,List.length_take,Nat.min_eq_left (Nat.le_of_lt h)] at e
  exact e.symm
 ·rw[List.take_of_length_le h,List.drop_eq_nil_of_le h,zB];exact Nat.add_zero _
theorem kara (p q r s n:Nat):p*r+W^n*((p+q)*(r+s)-p*r-q*s)+W^(2*n)*(q*s)=(p+W^n*q)*(r+W^n*s):=by
 have e:(p+q)*(r+s)-p*r-q*s=p*s+q*r:=by
  rw[Nat.add_mul,Nat.mul_add,Nat.mul_add];omega
 rw[e,Nat.two_mul,Nat.pow_add]
 generalize W^n=w
 simp only[Nat.add_mul,Nat.mul_add,Nat.mul_assoc,Nat.mul_left_comm,Nat.mul_comm,Nat.add_assoc,Nat.add_left_comm,Nat.add_comm]
theorem rT {xs:List Nat} {n:Nat}:Ctr Tryz.prog 98 [zD xs,isI (n:Int)] (zD (xs.take n)):=by
 refine Ctr.i Tryz.func98 rfl Tryz.ntmps98 fun w0 F0=>.w [0,1] rfl (.fact (Has.lenLt (Has.t (t:=0) rfl)) fun lt0=>.fact (Has.okW (Has.t (t:=0) rfl)) fun ok0=>.fact (Has.rngI (Has.t (t:=1) rfl)) fun lt1=>.sr fun k1=>st (.as (.cW (f:=isU))) rfl (nkQ k1 (.sq fun k2=>.sr fun k3=>stM rfl (st (.len zh (.t rfl)) rfl (stM rfl (st (.leI (.t rfl) (.t rfl)) rfl (nkQ k3 (.cd rfl (fun hc1=>?_) (fun hc1=>?_)))))))))
 ·refine .sr fun k4=>stM rfl (stM rfl (nkQ k4 (.w [0,1,4] rfl (.ret (.thr (rt1 (.inl rfl) Tryz.results98 rfl (.tmp (Has.t' rfl ?_) .nil)))))))
  all_goals (exact qJ (List.take_of_length_le (by omega)).symm)
 ·refine .skip (.nk k2 (.sr fun k5=>stM rfl (stM rfl (st (.slHM zh zp (.t rfl) (.t rfl) (by omega)) rfl (stM rfl (nkQ k5 (.w [4] rfl (.ret (rt1 (.inl rfl) Tryz.results98 rfl (.tmp (Has.t' rfl ?_) .nil))))))))))
  all_goals (exact qJ (by rw[Int.toNat_natCast]))
theorem bB {xs:List Nat} {n:Nat}:Ctr Tryz.prog 99 [zD xs,isI (n:Int)] (zD (xs.drop n)):=by
 refine Ctr.i Tryz.func99 rfl Tryz.ntmps99 fun w0 F0=>.w [0,1] rfl (.fact (Has.lenLt (Has.t (t:=0) rfl)) fun lt0=>.fact (Has.okW (Has.t (t:=0) rfl)) fun ok0=>.fact (Has.rngI (Has.t (t:=1) rfl)) fun lt1=>.sr fun k1=>st (.as (.cW (f:=isU))) rfl (nkQ k1 (.sq fun k2=>.sr fun k3=>stM rfl (st (.len zh (.t rfl)) rfl (stM rfl (st (.leI (.t rfl) (.t rfl)) rfl (nkQ k3 (.cd rfl (fun hc1=>?_) (fun hc1=>?_)))))))))
 ·refine .sr fun k4=>st (.as (.cW (f:=isU))) rfl (nkQ k4 (.ret (.thr (rt1 (.inl rfl) Tryz.results99 rfl (.tmp (Has.t' rfl ?_) .nil)))))
  all_goals (exact qJ (List.drop_eq_nil_of_le (by omega)).symm)
 ·refine .skip (.nk k2 (.sr fun k5=>stM rfl (stM rfl (st (.slLM zh zp (.t rfl) (.t rfl) (by omega)) rfl (stM rfl (nkQ k5 (.w [4] rfl (.ret (rt1 (.inl rfl) Tryz.results99 rfl (.tmp (Has.t' rfl ?_) .nil))))))))))
  all_goals (exact qJ (by rw[Int.toNat_natCast]))
theorem mX {xs ys:List Nat} (hx:(List.length (zA (val xs)))<4294967296):Ctr Tryz.prog 100 [zD xs,zD ys] (zD (zA (val xs-val ys))):=by
 refine Ctr.i Tryz.func100 rfl Tryz.ntmps100 fun w0 F0=>.w [0,1] rfl (.fact (Has.lenLt (Has.t (t:=0) rfl)) fun lt0=>.fact (Has.okW (Has.t (t:=0) rfl)) fun ok0=>.fact (Has.lenLt (Has.t (t:=1) rfl)) fun lt1=>.fact (Has.okW (Has.t (t:=1) rfl)) fun ok1=>.sr fun k1=>st (.as (.cW (f:=isU))) rfl (nkQ k1 (.sr fun k2=>stM rfl (stM rfl (st (.call (lE (by with_reducible assumption)) (.cons (.t rfl) (.cons (.t rfl) .nil))) rfl (stM rfl (st (.ext (.t rfl) rfl) rfl (st (.ext (.t rfl) rfl) rfl (stM rfl (stM rfl (nkQ k2 (.w [4,5] rfl (.sr fun k3=>stM rfl (stM rfl (nkQ k3 (.ret (rt1 (.inl rfl) Tryz.results100 rfl (.tmp (Has.t' rfl ?_) .nil))))))))))))))))))
 all_goals (rfl)
theorem mul_up {xs:List Nat} {n:Nat} (hn:n+xs.length≤4294967296):Ctr Tryz.prog 119 [zD xs,isI (n:Int)] (zD (upW n xs)):=by
 refine Ctr.i Tryz.func119 rfl Tryz.ntmps119 fun w0 F0=>.w [0,1] rfl (.fact (Has.lenLt (Has.t (t:=0) rfl)) fun lt0=>.fact (Has.okW (Has.t (t:=0) rfl)) fun ok0=>.fact (Has.rngI (Has.t (t:=1) rfl)) fun lt1=>.sr fun k1=>st (.as (.cW (f:=isU))) rfl (nkQ k1 (.sq fun k2=>.sr fun k3=>stM rfl (st (.len zh (.t rfl)) rfl (st (.eqI (.t rfl) (.cI 0 rfl)) rfl (nkQ k3 (.cd rfl (fun hc1=>?_) (fun hc1=>?_))))))))
 ·refine .sr fun k4=>st (.as (.cW (f:=isU))) rfl (nkQ k4 (.ret (.thr (rt1 (.inl rfl) Tryz.results119 rfl (.tmp (Has.t' rfl ?_) .nil)))))
  all_goals (exact qJ (zCO (by omega)))
 ·refine .skip (.nk k2 (.sr fun k5=>stM rfl (stM rfl (stM rfl (st (.len zh (.t rfl)) rfl (st (.eq (.addI (.t rfl) (.t rfl) (by omega) (by omega)) ((show isI _=isI ((n+xs.length:Nat):Int) from zF (by omega)))) rfl (.make (f:=isU) (u:=0) (n:=n) (c:=n+xs.length) zh zp jL (fun _ _=>⟨⟨rfl,by decide⟩,trivial⟩) hH (Has.t' rfl rfl) (Has.t' rfl rfl) (by omega) rfl fun b1=>stM rfl (.cv (Cv.winGrM (f:=isU) (t:=13) (i:=0) (ys:=List.replicate n 0) rfl rfl (by simp) (by simp) (by simp)) ?_))))))))
  refine .memEq (M':=[grM _ _ _]) rfl (.appendG (f:=isU) (u:=0) zh zp jL (fun _ _=>⟨⟨rfl,by decide⟩,trivial⟩) (fun _=>inferInstance) hH (.t rfl) (i:=0) rfl (.t rfl) (by rw[List.length_replicate];exact hn) (by omega) rfl fun gr1=>?_)
  refine .memEq (M':=[grM _ _ _]) rfl (.cv (Cv.freezeGn (t:=15) (i:=0) (ys:=List.replicate n 0++xs) rfl rfl rfl (by simp)) ?_)
  refine .memEq (M':=[]) rfl (.w [0,1,4,5,6,7,8,9,10,11,12,14,15] rfl (stM rfl (nkQ k5 (.w [4] rfl (.ret (rt1 (.inl rfl) Tryz.results119 rfl (.tmp (Has.t' rfl ?_) .nil)))))))
  all_goals (exact qJ (zCP (by omega)))
theorem om {xs ys zs:List Nat} {n:Nat} (hx:(List.length (zA (val xs)))≤2100000000) (hn:n≤1000000000) (hy:ys.length≤2000000000) (hz:zs.length≤2000000000):Ctr Tryz.prog 101 [zD xs,zD ys,zD zs,isI (n:Int)] (zD (zA (val xs+W^n*val ys+W^(2*n)*val zs))):=by
 refine Ctr.i Tryz.func101 rfl Tryz.ntmps101 fun w0 F0=>.w [0,1,2,3] rfl (.fact (Has.lenLt (Has.t (t:=0) rfl)) fun lt0=>.fact (Has.okW (Has.t (t:=0) rfl)) fun ok0=>.fact (Has.lenLt (Has.t (t:=1) rfl)) fun lt1=>.fact (Has.okW (Has.t (t:=1) rfl)) fun ok1=>.fact (Has.lenLt (Has.t (t:=2) rfl)) fun lt2=>.fact (Has.okW (Has.t (t:=2) rfl)) fun ok2=>.fact (Has.rngI (Has.t (t:=3) rfl)) fun lt3=>?_)
 have u1:=uP (n:=n) ok1
 have u2:=uP (n:=2*n) ok2
 have h1:=ji (val xs) (val (upW n ys))
 refine .sr fun k1=>st (.as (.cW (f:=isU))) rfl (nkQ k1 (.sr fun k2=>st (.as (Has.fn (ι:={ p:List Nat×Nat//p.2+p.1.length≤4294967296 }) (As:=fun p=>[zD p.1.1,isI (p.1.2:Int)]) (R:=fun p=>zD (upW p.1.2 p.1.1)) (fun p=>mul_up p.2))) rfl (nkQ k2 (.sr fun k3=>stM rfl (stM rfl (stM rfl ?_))))))
 refine stM rfl (st (.callV ⟨(ys,n),by show n+ys.length≤_;omega⟩ (.t rfl) (.cons (.t rfl) (.cons (.t rfl) .nil))) rfl ?_)
 refine st (.call (dD (by omega) (by simp only[zB];omega)) (.cons (.t rfl) (.cons (.t rfl) .nil))) rfl ?_
 refine stM rfl (stM rfl (stM rfl (st (.eq (.mulI (.cI 2 rfl) (.t rfl) (by omega) (by omega)) ((show isI _=isI ((2*n:Nat):Int) from zF (by omega)))) rfl ?_)))
 refine st (.callV ⟨(zs,2*n),by show 2*n+zs.length≤_;omega⟩ (.t rfl) (.cons (.t rfl) (.cons (.t rfl) .nil))) rfl ?_
 refine st (.call (dD (by simp only[zB];omega) (by simp only[zB];omega)) (.cons (.t rfl) (.cons (.t rfl) .nil))) rfl ?_
 refine stM rfl (nkQ k3 (.w [8] rfl (.ret (rt1 (.inl rfl) Tryz.results101 rfl (.tmp (Has.t' rfl ?_) .nil)))))
 all_goals (exact qJ (by rw[zB,kf,kf]))
theorem eL {xs ys:List Nat} (hx:(List.length (zA (val xs)))≤1000000000) (hy:(List.length (zA (val ys)))≤1000000000) (IH:∀us vs:List Nat,max ((List.length (zA (val us)))) ((List.length (zA (val vs))))<max ((List.length (zA (val xs)))) ((List.length (zA (val ys))))→(List.length (zA (val us)))≤1000000000→(List.length (zA (val vs)))≤1000000000→Ctr Tryz.prog 70 [zD us,zD vs] (zD (zA (val us*val vs)))):Ctr Tryz.prog 70 [zD xs,zD ys] (zD (zA (val xs*val ys))):=by
 refine Ctr.i Tryz.func70 rfl Tryz.ntmps70 fun w0 F0=>.w [0,1] rfl (.fact (Has.lenLt (Has.t (t:=0) rfl)) fun lt0=>.fact (Has.okW (Has.t (t:=0) rfl)) fun ok0=>.fact (Has.lenLt (Has.t (t:=1) rfl)) fun lt1=>.fact (Has.okW (Has.t (t:=1) rfl)) fun ok1=>?_)
 obtain⟨N,hN⟩:∃N,N=(max ((List.length (zA (val xs)))) ((List.length (zA (val ys))))+1)/2:=⟨_,rfl⟩
 have kp:=ra (val xs) N
 have kq:=nJ (val xs) N
 have kr:=ra (val ys) N
 have ks:=nJ (val ys) N
 have ka:=ji (val ((zA (val xs)).take N)) (val ((zA (val xs)).drop N))
 have kb:=ji (val ((zA (val ys)).take N)) (val ((zA (val ys)).drop N))
 have ea:=zAH (val xs) N
 have eb:=zAH (val ys) N
 obtain⟨p,hp⟩:∃p,p=(zA (val xs)).take N:=⟨_,rfl⟩
 obtain⟨q,hq⟩:∃q,q=(zA (val xs)).drop N:=⟨_,rfl⟩
 obtain⟨r,hr⟩:∃r,r=(zA (val ys)).take N:=⟨_,rfl⟩
 obtain⟨s,hs⟩:∃s,s=(zA (val ys)).drop N:=⟨_,rfl⟩
 rw[←hp] at kp ka ea
 rw[←hq] at kq ka ea
 rw[←hr] at kr kb eb
 rw[←hs] at ks kb eb
 have kpr:=wz (val p) (val r)
 have kqs:=wz (val q) (val s)
 have kc:=wz (val p+val q) (val r+val s)
 have kc2:=qF (Nat.sub_le ((val p+val q)*(val r+val s)) (val p*val r))
 have kc3:=qF (Nat.sub_le ((val p+val q)*(val r+val s)-val p*val r) (val q*val s))
 refine .sr fun k1=>st (.as (.cW (f:=isU))) rfl (nkQ k1 (.sr fun k2=>stM rfl (st (.eq (.call (vT (by omega)) (.cons (.t rfl) .nil)) (by rfl)) rfl (stM rfl (st (.eq (.call (vT (by omega)) (.cons (.t rfl) .nil)) (by rfl)) rfl (stM rfl (stM rfl (nkQ k2 (.sq fun k3=>.sr fun k4=>stM rfl (st (.len zh (.t rfl)) rfl (stM rfl (st (.len zh (.t rfl)) rfl (st (.minI (.t rfl) (.t rfl)) rfl (st (.leI (.t rfl) (.cI 8 rfl)) rfl (nkQ k4 (.w [0,1,4,22] rfl (.cd rfl (fun hc1=>?_) (fun hc1=>?_))))))))))))))))))
 ·have HM:(List.length (zA (val xs)))≤8∨(List.length (zA (val ys)))≤8:=(by revert hc1;split <;> intro hc1 <;> omega)
  refine .sr fun k5=>stM rfl (stM rfl (st (.eq (.call (zDU (by simp only[zB];omega)) (.cons (.t rfl) (.cons (.t rfl) .nil))) (by simp only[zB];rfl)) rfl ?_))
  refine stM rfl (nkQ k5 (.ret (.thr (rt1 (.inl rfl) Tryz.results70 rfl (.tmp (Has.t' rfl ?_) .nil)))))
  all_goals (rfl)
 ·have HM:8<(List.length (zA (val xs)))∧8<(List.length (zA (val ys))):=(by revert hc1;split <;> intro hc1 <;> omega)
  refine .skip (.nk k3 (.sr fun k6=>stM rfl (st (.len zh (.t rfl)) rfl (stM rfl (st (.len zh (.t rfl)) rfl (st (.maxI (.t rfl) (.t rfl)) rfl (st (.addI (.t rfl) (.cI 1 rfl) (by omega) (by omega)) rfl (st (.eq (.quoI (.t rfl) (.cI 2 rfl) (by omega) (by omega) (by omega)) ((show isI _=isI (N:Int) from zF (by rw[hN];split <;> omega)))) rfl ?_))))))))
  refine stM rfl (nkQ k6 (.w [0,1,4,5] rfl (.sr fun k7=>stM rfl (stM rfl (st (.eq (.call (rT) (.cons (.t rfl) (.cons (.t rfl) .nil))) ((show zD ((zA (val xs)).take N)=zD p from qJ hp.symm))) rfl (stM rfl (stM rfl (st (.eq (.call (bB) (.cons (.t rfl) (.cons (.t rfl) .nil))) ((show zD ((zA (val xs)).drop N)=zD q from qJ hq.symm))) rfl (stM rfl (stM rfl (st (.eq (.call (rT) (.cons (.t rfl) (.cons (.t rfl) .nil))) ((show zD ((zA (val ys)).take N)=zD r from qJ hr.symm))) rfl (stM rfl (stM rfl (st (.eq (.call (bB) (.cons (.t rfl) (.cons (.t rfl) .nil))) ((show zD ((zA (val ys)).drop N)=zD s from qJ hs.symm))) rfl (stM rfl (stM rfl (stM rfl (stM rfl (nkQ k7 (.w [4,5,6,7,8,9] rfl (.sr fun k8=>stM rfl (stM rfl (st (.call (IH _ _ (by omega) (by omega) (by omega)) (.cons (.t rfl) (.cons (.t rfl) .nil))) rfl (stM rfl (stM rfl (st (.call (IH _ _ (by omega) (by omega) (by omega)) (.cons (.t rfl) (.cons (.t rfl) .nil))) rfl (stM rfl (stM rfl (nkQ k8 (.w [4,5,6,7,8,9,10,11] rfl (.sr fun k9=>stM rfl (stM rfl (st (.eq (.call (dD (by omega) (by omega)) (.cons (.t rfl) (.cons (.t rfl) .nil))) ((show zD (zA (val p+val q))=_ from rfl))) rfl (stM rfl (stM rfl ?_)))))))))))))))))))))))))))))))))))
  refine st (.call (dD (by omega) (by omega)) (.cons (.t rfl) (.cons (.t rfl) .nil))) rfl (st (.eq (.call (IH _ _ (by simp only[zB];omega) (by simp only[zB];omega) (by simp only[zB];omega)) (.cons (.t rfl) (.cons (.t rfl) .nil))) ((show zD _=zD (zA ((val p+val q)*(val r+val s))) from qJ (by rw[zB,zB])))) rfl ?_)
  refine stM rfl (st (.eq (.call (mX (by simp only[zB];omega)) (.cons (.t rfl) (.cons (.t rfl) .nil))) ((show zD _=zD (zA ((val p+val q)*(val r+val s)-val p*val r)) from qJ (by rw[zB,zB])))) rfl ?_)
  refine stM rfl (st (.eq (.call (mX (by simp only[zB];omega)) (.cons (.t rfl) (.cons (.t rfl) .nil))) ((show zD _=zD (zA ((val p+val q)*(val r+val s)-val p*val r-val q*val s)) from qJ (by rw[zB,zB])))) rfl ?_)
  refine stM rfl (nkQ k9 (.w [4,5,10,11,12] rfl (.sr fun k10=>stM rfl (stM rfl (stM rfl (stM rfl (st (.call (om (by simp only[zB];omega) (by omega) (by omega) (by omega)) (.cons (.t rfl) (.cons (.t rfl) (.cons (.t rfl) (.cons (.t rfl) .nil))))) rfl ?_)))))))
  refine stM rfl (nkQ k10 (.w [4] rfl (.ret (rt1 (.inl rfl) Tryz.results70 rfl (.tmp (Has.t' rfl ?_) .nil)))))
  all_goals (exact qJ (by simp only[zB];rw[kara,ea,eb]))
theorem zDW : ∀{xs ys:List Nat},(List.length (zA (val xs)))≤1000000000→(List.length (zA (val ys)))≤1000000000→Ctr Tryz.prog 70 [zD xs,zD ys] (zD (zA (val xs*val ys))):=by
 have h:∀N,∀xs ys:List Nat,max ((List.length (zA (val xs)))) ((List.length (zA (val ys))))≤N→(List.length (zA (val xs)))≤1000000000→(List.length (zA (val ys)))≤1000000000→Ctr Tryz.prog 70 [zD xs,zD ys] (zD (zA (val xs*val ys))):=by
  intro N
  induction N with
  | zero=>intro xs ys h hx hy;exact eL hx hy (fun us vs hl=>absurd hl (by omega))
  | succ N ih=>intro xs ys h hx hy;exact eL hx hy (fun us vs hl=>ih us vs (by omega))
 intro xs ys hx hy
 exact h _ xs ys (Nat.le_refl _) hx hy
theorem qq {xs:List Nat} {m:Bool} (hx:(List.length (zA (val xs)))≤4294967296):Ctr Tryz.prog 53 [zD xs,isB m] (isZ (zv m xs)):=by
 refine Ctr.i Tryz.func53 rfl Tryz.ntmps53 fun w0 F0=>.w [0,1] rfl (.fact (Has.lenLt (Has.t (t:=0) rfl)) fun lt0=>.fact (Has.okW (Has.t (t:=0) rfl)) fun ok0=>.sr fun k1=>.alloc [isB false,SlM isU []] zK (fun _ _=>⟨rfl,nilM _ _,trivial⟩) rfl fun b1=>nkQ k1 (.sr fun k2=>stM rfl (st (.call (vT (by with_reducible assumption)) (.cons (.t rfl) .nil)) rfl (stM rfl (nkQ k2 (.sr fun k3=>stM rfl (stM rfl (stT rfl rfl (fun hg=>.mv (.t rfl)) rfl (stT rfl rfl (fun hg=>.len zh (Has.g rfl hg)) rfl (stT rfl rfl (fun hg=>.gtI (Has.g rfl hg) (.cI 0 rfl)) rfl (st (.pickAnd (.t rfl) (fun h=>Has.g rfl h)) rfl (stM rfl (st (.build [isB false,SlM isU []] yN zK (fun _ _=>⟨rfl,nilM _ _,trivial⟩) (.cons (.t rfl) rfl rfl rfl (.cons (.t rfl) rfl rfl rfl .nil)) (Z'':=[_,_]) rfl) rfl (.store (.t rfl) (.t rfl) (i:=0) rfl zE rfl rfl (Ss':=[_,_]) rfl (M':=[(some _,zC [_,_])]) rfl (nkQ k3 (.w [4] rfl (.ret (rt1 (.inl rfl) Tryz.results53 rfl (.cell rfl (i:=0) rfl zE rfl ?_ .nil)))))))))))))))))))
 ·exact yv (zAT m xs) (by rw[jK])
theorem xC {x:Int}:Ctr Tryz.prog 20 [isI x] (isZ x):=by
 refine Ctr.i Tryz.func20 rfl Tryz.ntmps20 fun w0 F0=>.w [0] rfl (.fact (Has.rngI (Has.t (t:=0) rfl)) fun lt0=>.sr fun k1=>.alloc [isB false,SlM isU []] zK (fun _ _=>⟨rfl,nilM _ _,trivial⟩) rfl fun b1=>nkQ k1 (.sq fun k2=>.sr fun k3=>stM rfl (st (.ltI (.t rfl) (.cI 0 rfl)) rfl (nkQ k3 (.cd rfl (fun hc1=>?_) (fun hc1=>?_))))))
 ·have hN:x<0:=hc1
  refine .sr fun k4=>stM rfl (st (.convIUw un2 sa (.t rfl)) rfl (st (.eq (.negU (.t rfl) (by omega)) ((show isU _=isU x.natAbs from zV (yX hc1 (by omega))))) rfl (st (.call (oh) (.cons (.t rfl) .nil)) rfl (st (.call (qq (by simp only[zB];exact Nat.le_trans (qL (by omega)) (by decide))) (.cons (.t rfl) (.cons (.cB true) .nil))) rfl ?_))))
  refine .store (.t rfl) (.t rfl) (i:=0) rfl zE rfl rfl (Ss':=[_,_]) rfl (M':=[(some _,zC [_,_])]) rfl (nkQ k4 (.w [0,2] rfl (.ret (.thr (rt1 (.inl rfl) Tryz.results20 rfl (.cell rfl (i:=0) rfl zE rfl ?_ .nil))))))
  ·exact zO (by rw[bm,if_pos rfl];omega)
 ·have hN:0≤x:=(by omega)
  refine .skip (.nk k2 (.sr fun k5=>stM rfl (st (.eq (.convIU un2 sa (.t rfl) (by with_reducible assumption) (by omega)) ((show isU _=isU x.natAbs from zV (by omega)))) rfl (st (.call (oh) (.cons (.t rfl) .nil)) rfl (st (.call (qq (by simp only[zB];exact Nat.le_trans (qL (by omega)) (by decide))) (.cons (.t rfl) (.cons (.cB false) .nil))) rfl ?_)))))
  refine .store (.t rfl) (.t rfl) (i:=0) rfl zE rfl rfl (Ss':=[_,_]) rfl (M':=[(some _,zC [_,_])]) rfl (nkQ k5 (.w [2] rfl (.ret (rt1 (.inl rfl) Tryz.results20 rfl (.cell rfl (i:=0) rfl zE rfl ?_ .nil)))))
  ·exact zO (by rw[bm,if_neg (by decide)];omega)
theorem qC {m:Bool} {xs:List Nat} (hx:(List.length (zA (val xs)))<4294900000):Ctr Tryz.prog 21 [zk [isB m,zD xs]] (isI (sgn (zv m xs))):=by
 refine Ctr.i Tryz.func21 rfl Tryz.ntmps21 fun w0 F0=>.w [0] rfl (.fact (Has.okZ (Has.t (t:=0) rfl)) fun okz0=>.sr fun k1=>.box (.t rfl) rfl fun b1=>st (.as (.cI 0 rfl)) rfl (nkQ k1 (.sq fun k2=>.block (.sr fun k3=>st (.fieldAddr (.t rfl) qM qc) rfl (st (.load1 (.t rfl) (i:=0) rfl qc rfl) rfl (st (.call (yY (by omega)) (.cons (.t rfl) .nil)) rfl (st (.eqI (.t rfl) (.cI 0 rfl)) rfl (stM rfl (nkQ k3 (.w [1,2,3] rfl (.cd rfl (fun hc1=>?_) (fun hc1=>?_))))))))))))
 ·refine .sr fun k4=>st (.as (.cI 0 rfl)) rfl (nkQ k4 (.ret (.blr (.thr (rt1 (.inl rfl) Tryz.results21 rfl (.tmp (Has.t' rfl ?_) .nil))))))
  all_goals (exact zF (uo hc1))
 ·refine .sr fun k5=>st (.fieldAddr (.t rfl) xL ty4) rfl (st (.load1 (.t rfl) (i:=0) rfl ty4 rfl) rfl (stM rfl (nkQ k5 (.cd rfl (fun hc2=>?_) (fun hc2=>?_)))))
  ·have HM:=hc2
   refine .sr fun k6=>st (.as (.cI (-1) rfl)) rfl (nkQ k6 (.w [2] rfl (.ret (.blr (.thr (rt1 (.inl rfl) Tryz.results21 rfl (.tmp (Has.t' rfl ?_) .nil)))))))
   all_goals (exact zF (by rw[←uq hc1,if_pos HM]))
  ·have HM:=hc2
   refine .skip (.bln (.nk k2 (.w [2] rfl (.sr fun k7=>st (.as (.cI 1 rfl)) rfl (nkQ k7 (.ret (rt1 (.inl rfl) Tryz.results21 rfl (.tmp (Has.t' rfl ?_) .nil))))))))
   all_goals (exact zF (by rw[←uq hc1,if_neg (by rw[HM];decide)]))
theorem jm {m n:Bool} {xs ys:List Nat} (hx:(List.length (zA (val xs)))<4294700000) (hy:(List.length (zA (val ys)))<4294700000):Ctr Tryz.prog 32 [zk [isB m,zD xs],zk [isB n,zD ys]] (isI (ql (zv m xs) (zv n ys))):=by
 refine Ctr.i Tryz.func32 rfl Tryz.ntmps32 fun w0 F0=>.w [0,1] rfl (.fact (Has.okZ (Has.t (t:=0) rfl)) fun okz0=>.fact (Has.okZ (Has.t (t:=1) rfl)) fun okz1=>.sr fun k1=>.box (.t rfl) rfl fun b1=>.box (.t rfl) rfl fun b2=>st (.as (.cI 0 rfl)) rfl (nkQ k1 (.sq fun k2=>.dr (.so [] rfl (.load (.t rfl) (i:=1) rfl zE rfl (Ss':=[_,_]) rfl) (.so [7] rfl (.call (qC (by omega)) (.cons (.t rfl) .nil)) (.so [] rfl (.load (.t rfl) (i:=0) rfl zE rfl (Ss':=[_,_]) rfl) (.fn (n:=3) zW (.w [2,3,4,8,9] rfl (st (.call (qC (by omega)) (.cons (.t rfl) .nil)) rfl (stM rfl (stM rfl (nkQ k2 (.sq fun k3=>.block (.sr fun k4=>stM rfl (stM rfl (st (.ltI (.t rfl) (.t rfl)) rfl (stM rfl (nkQ k4 (.w [2,3,4,5,6,11] rfl ?_)))))))))))))))))))
 refine .cd rfl (fun hc1=>?_) (fun hc1=>?_)
 ·refine .sr fun k5=>st (.as (.cI (-1) rfl)) rfl (nkQ k5 (.ret (.blr (.thr (rt1 (.inl rfl) Tryz.results32 rfl (.tmp (Has.t' rfl ?_) .nil))))))
  all_goals (exact zF (zFM hc1))
 ·refine .sr fun k6=>stM rfl (stM rfl (st (.gtI (.t rfl) (.t rfl)) rfl (stM rfl (nkQ k6 (.w [2,3,4,5,15] rfl (.cd rfl (fun hc2=>?_) (fun hc2=>?_)))))))
  ·refine .sr fun k7=>st (.as (.cI 1 rfl)) rfl (nkQ k7 (.ret (.blr (.thr (rt1 (.inl rfl) Tryz.results32 rfl (.tmp (Has.t' rfl ?_) .nil))))))
   all_goals (exact zF (zFN hc2))
  ·refine .sr fun k8=>stM rfl (st (.ltI (.t rfl) (.cI 0 rfl)) rfl (stM rfl (nkQ k8 (.cd rfl (fun hc3=>?_) (fun hc3=>?_)))))
   ·refine .sr fun k9=>st (.fieldAddr (.t rfl) qM qc) rfl (st (.load1 (.t rfl) (i:=0) rfl qc rfl) rfl (st (.fieldAddr (.t rfl) qM qc) rfl (st (.load1 (.t rfl) (i:=1) rfl qc rfl) rfl (st (.call (et) (.cons (.t rfl) (.cons (.t rfl) .nil))) rfl (stM rfl (nkQ k9 (.w [2,3,4] rfl (.ret (.blr (.thr (rt1 (.inl rfl) Tryz.results32 rfl (.tmp (Has.t' rfl ?_) .nil))))))))))))
    all_goals (exact zF (zBN hc3 (by omega) (by omega)))
   ·refine .skip (.bln (.nk k3 (.w [2,3,4] rfl (.sr fun k10=>st (.fieldAddr (.t rfl) qM qc) rfl (st (.load1 (.t rfl) (i:=1) rfl qc rfl) rfl (st (.fieldAddr (.t rfl) qM qc) rfl (st (.load1 (.t rfl) (i:=0) rfl qc rfl) rfl (st (.call (et) (.cons (.t rfl) (.cons (.t rfl) .nil))) rfl (stM rfl (nkQ k10 (.w [4] rfl (.ret (rt1 (.inl rfl) Tryz.results32 rfl (.tmp (Has.t' rfl ?_) .nil))))))))))))))
    all_goals (exact zF (zBM (by omega) (by omega) (by omega)))
theorem bK {m n:Bool} {xs ys:List Nat} (hx:(List.length (zA (val xs)))<4294700000) (hy:(List.length (zA (val ys)))<4294700000):Ctr Tryz.prog 34 [zk [isB m,zD xs],zk [isB n,zD ys]] (isB (decide (zv m xs=zv n ys))):=by
 refine Ctr.i Tryz.func34 rfl Tryz.ntmps34 fun w0 F0=>.w [0,1] rfl (.fact (Has.okZ (Has.t (t:=0) rfl)) fun okz0=>.fact (Has.okZ (Has.t (t:=1) rfl)) fun okz1=>.sr fun k1=>.box (.t rfl) rfl fun b1=>.box (.t rfl) rfl fun b2=>st (.as (.cB false)) rfl (nkQ k1 (.sr fun k2=>st (.load (.t rfl) (i:=1) rfl zE rfl (Ss':=[_,_]) rfl) rfl (st (.load (.t rfl) (i:=0) rfl zE rfl (Ss':=[_,_]) rfl) rfl (st (.call (jm (by with_reducible assumption) (by with_reducible assumption)) (.cons (.t rfl) (.cons (.t rfl) .nil))) rfl (st (.eqI (.t rfl) (.cI 0 rfl)) rfl (stM rfl (nkQ k2 (.w [4] rfl (.ret (rt1 (.inl rfl) Tryz.results34 rfl (.tmp (Has.t' rfl ?_) .nil))))))))))))
 all_goals (exact zl (zBO _ _))
theorem vj {m:Bool} {xs:List Nat} (hx:(List.length (zA (val xs)))<4294900000):Ctr Tryz.prog 72 [zk [isB m,zD xs]] (isZ (-(zv m xs))):=by
 refine Ctr.i Tryz.func72 rfl Tryz.ntmps72 fun w0 F0=>.w [0] rfl (.fact (Has.okZ (Has.t (t:=0) rfl)) fun okz0=>.sr fun k1=>.box (.t rfl) rfl fun b1=>.alloc [isB false,SlM isU []] zK (fun _ _=>⟨rfl,nilM _ _,trivial⟩) rfl fun b2=>nkQ k1 (.sr fun k2=>st (.fieldAddr (.t rfl) qM qc) rfl (st (.load1 (.t rfl) (i:=1) rfl qc rfl) rfl (st (.fieldAddr (.t rfl) xL ty4) rfl (st (.load1 (.t rfl) (i:=1) rfl ty4 rfl) rfl (st (.not (.t rfl)) rfl (st (.call (qq (by omega)) (.cons (.t rfl) (.cons (.t rfl) .nil))) rfl (.store (.t rfl) (.t rfl) (i:=0) rfl zE rfl rfl (Ss':=[_,_]) rfl (M':=[(some _,zC [_,_]),_]) rfl (nkQ k2 (.w [2] rfl (.ret (rt1 (.inl rfl) Tryz.results72 rfl (.cell rfl (i:=0) rfl zE rfl ?_ .nil)))))))))))))
 ·exact zO (zGR m xs)
theorem cb {m:Bool} {xs:List Nat} (hx:(List.length (zA (val xs)))<4294900000):Ctr Tryz.prog 35 [zk [isB m,zD xs]] (isZ (((zv m xs).natAbs:Nat):Int)):=by
 refine Ctr.i Tryz.func35 rfl Tryz.ntmps35 fun w0 F0=>.w [0] rfl (.fact (Has.okZ (Has.t (t:=0) rfl)) fun okz0=>.sr fun k1=>.box (.t rfl) rfl fun b1=>.alloc [isB false,SlM isU []] zK (fun _ _=>⟨rfl,nilM _ _,trivial⟩) rfl fun b2=>nkQ k1 (.sr fun k2=>st (.fieldAddr (.t rfl) qM qc) rfl (st (.load1 (.t rfl) (i:=1) rfl qc rfl) rfl (st (.call (qq (by omega)) (.cons (.t rfl) (.cons (.cB false) .nil))) rfl (.store (.t rfl) (.t rfl) (i:=0) rfl zE rfl rfl (Ss':=[_,_]) rfl (M':=[(some _,zC [_,_]),_]) rfl (nkQ k2 (.w [2] rfl (.ret (rt1 (.inl rfl) Tryz.results35 rfl (.cell rfl (i:=0) rfl zE rfl ?_ .nil))))))))))
 ·exact zO (by rw[jK];exact fP xs)
theorem qz {m n:Bool} {xs ys:List Nat} (hx:(List.length (zA (val xs)))<4294700000) (hy:(List.length (zA (val ys)))<4294700000):Ctr Tryz.prog 37 [zk [isB m,zD xs],zk [isB n,zD ys]] (isZ (zv m xs+zv n ys)):=by
 refine Ctr.i Tryz.func37 rfl Tryz.ntmps37 fun w0 F0=>.w [0,1] rfl (.fact (Has.okZ (Has.t (t:=0) rfl)) fun okz0=>.fact (Has.okZ (Has.t (t:=1) rfl)) fun okz1=>?_)
 have ha:=ji (val xs) (val ys)
 have hb:=qF (Nat.sub_le (val xs) (val ys))
 have hd:=qF (Nat.sub_le (val ys) (val xs))
 refine .sr fun k1=>.box (.t rfl) rfl fun b1=>.box (.t rfl) rfl fun b2=>.alloc [isB false,SlM isU []] zK (fun _ _=>⟨rfl,nilM _ _,trivial⟩) rfl fun b3=>nkQ k1 (.sq fun k2=>.sr fun k3=>st (.fieldAddr (.t rfl) xL ty4) rfl (st (.load1 (.t rfl) (i:=2) rfl ty4 rfl) rfl (st (.fieldAddr (.t rfl) xL ty4) rfl (st (.load1 (.t rfl) (i:=1) rfl ty4 rfl) rfl (st (.eqB (du:=un4) rfl (.t rfl) (.t rfl)) rfl (nkQ k3 (.w [2,3,4,13] rfl (.cd rfl (fun hc1=>?_) (fun hc1=>?_)))))))))
 ·have HM:m=n:=eq_of_beq hc1
  refine .sq fun k4=>.dr (.so [] rfl (.fieldAddr (.t rfl) qM qc) (.so [14] rfl (.load1 (.t rfl) (i:=2) rfl qc rfl) (.so [] rfl (.fieldAddr (.t rfl) qM qc) (.so [16] rfl (.load1 (.t rfl) (i:=1) rfl qc rfl) (.so [15,17] rfl (.call (dD (by omega) (by omega)) (.cons (.t rfl) (.cons (.t rfl) .nil))) (.so [] rfl (.fieldAddr (.t rfl) xL ty4) (.so [19] rfl (.load1 (.t rfl) (i:=2) rfl ty4 rfl) (.fn (n:=7) zW (.w [2,3,4,18,20] rfl (st (.call (qq (by simp only[zB,zH];omega)) (.cons (.t rfl) (.cons (.t rfl) .nil))) rfl ?_))))))))))
  refine .store (.t rfl) (.t rfl) (i:=0) rfl zE rfl rfl (Ss':=[_,_]) rfl (M':=[(some _,zC [_,_]),_,_]) rfl (nkQ k4 (.ret (.thr (rt1 (.inl rfl) Tryz.results37 rfl (.cell rfl (i:=0) rfl zE rfl ?_ .nil)))))
  ·exact zO (lp HM xs ys).symm
 ·have HM:m≠n:=fun e=>by rw[e] at hc1;simp at hc1
  refine .skip (.nk k2 (.sq fun k5=>.sr fun k6=>st (.fieldAddr (.t rfl) qM qc) rfl (st (.load1 (.t rfl) (i:=2) rfl qc rfl) rfl (st (.fieldAddr (.t rfl) qM qc) rfl (st (.load1 (.t rfl) (i:=1) rfl qc rfl) rfl (st (.call (lE (by omega)) (.cons (.t rfl) (.cons (.t rfl) .nil))) rfl (stM rfl (st (.ext (.t rfl) rfl) rfl (st (.ext (.t rfl) rfl) rfl (stM rfl (stM rfl (nkQ k6 (.w [2,3,4,5,6] rfl (.sr fun k7=>stM rfl (nkQ k7 (.cd rfl (fun hc2=>?_) (fun hc2=>?_)))))))))))))))))
  ·have HL:val ys≤val xs:=hc2
   refine .sr fun k8=>stM rfl (st (.fieldAddr (.t rfl) xL ty4) rfl (st (.load1 (.t rfl) (i:=2) rfl ty4 rfl) rfl (st (.call (qq (by simp only[zB,zH];omega)) (.cons (.t rfl) (.cons (.t rfl) .nil))) rfl ?_)))
   refine .store (.t rfl) (.t rfl) (i:=0) rfl zE rfl rfl (Ss':=[_,_]) rfl (M':=[(some _,zC [_,_]),_,_]) rfl (nkQ k8 (.w [2,3,4] rfl (.ret (.thr (rt1 (.inl rfl) Tryz.results37 rfl (.cell rfl (i:=0) rfl zE rfl ?_ .nil))))))
   ·exact zO (fQ HM HL).symm
  ·have HL:¬val ys≤val xs:=(by omega)
   refine .skip (.nk k5 (.sr fun k9=>st (.fieldAddr (.t rfl) qM qc) rfl (st (.load1 (.t rfl) (i:=1) rfl qc rfl) rfl (st (.fieldAddr (.t rfl) qM qc) rfl (st (.load1 (.t rfl) (i:=2) rfl qc rfl) rfl (st (.call (lE (by omega)) (.cons (.t rfl) (.cons (.t rfl) .nil))) rfl (stM rfl (st (.ext (.t rfl) rfl) rfl (st (.ext (.t rfl) rfl) rfl (stM rfl (stM rfl (nkQ k9 (.w [3,4,7] rfl (.sr fun k10=>stM rfl (st (.fieldAddr (.t rfl) xL ty4) rfl (st (.load1 (.t rfl) (i:=1) rfl ty4 rfl) rfl (st (.call (qq (by simp only[zB,zH];omega)) (.cons (.t rfl) (.cons (.t rfl) .nil))) rfl ?_)))))))))))))))))
   refine .store (.t rfl) (.t rfl) (i:=0) rfl zE rfl rfl (Ss':=[_,_]) rfl (M':=[(some _,zC [_,_]),_,_]) rfl (nkQ k10 (.w [4] rfl (.ret (rt1 (.inl rfl) Tryz.results37 rfl (.cell rfl (i:=0) rfl zE rfl ?_ .nil)))))
   ·exact zO (by rw[Int.add_comm];exact (fQ (fun e=>HM e.symm) (by omega)).symm)
theorem vN {m n:Bool} {xs ys:List Nat} (hx:(List.length (zA (val xs)))<4294700000) (hy:(List.length (zA (val ys)))<4294700000):Ctr Tryz.prog 116 [zk [isB m,zD xs],zk [isB n,zD ys]] (isZ (zv m xs-zv n ys)):=by
 refine Ctr.i Tryz.func116 rfl Tryz.ntmps116 fun w0 F0=>.w [0,1] rfl (.fact (Has.okZ (Has.t (t:=0) rfl)) fun okz0=>.fact (Has.okZ (Has.t (t:=1) rfl)) fun okz1=>.sr fun k1=>.box (.t rfl) rfl fun b1=>.box (.t rfl) rfl fun b2=>.alloc [isB false,SlM isU []] zK (fun _ _=>⟨rfl,nilM _ _,trivial⟩) rfl fun b3=>nkQ k1 (.sq fun k2=>.dr (.so [] rfl (.load (.t rfl) (i:=2) rfl zE rfl (Ss':=[_,_]) rfl) (.so [] rfl (.load (.t rfl) (i:=1) rfl zE rfl (Ss':=[_,_]) rfl) (.so [6] rfl (.call (vj (by omega)) (.cons (.t rfl) .nil)) (.fn (n:=3) zW (.w [4,5,7] rfl (st (.call (qz (by omega) (by simp only[zB];rw[Int.natAbs_neg,jK];omega)) (.cons (.t rfl) (.cons (.t rfl) .nil))) rfl ?_))))))))
 refine .store (.t rfl) (.t rfl) (i:=0) rfl zE rfl rfl (Ss':=[_,_]) rfl (M':=[(some _,zC [_,_]),_,_]) rfl (nkQ k2 (.ret (rt1 (.inl rfl) Tryz.results116 rfl (.cell rfl (i:=0) rfl zE rfl ?_ .nil))))
 ·exact zO (by rw[zH];omega)
theorem qE {m n:Bool} {xs ys:List Nat} (hx:(List.length (zA (val xs)))≤1000000000) (hy:(List.length (zA (val ys)))≤1000000000):Ctr Tryz.prog 33 [zk [isB m,zD xs],zk [isB n,zD ys]] (isZ (zv m xs*zv n ys)):=by
 refine Ctr.i Tryz.func33 rfl Tryz.ntmps33 fun w0 F0=>.w [0,1] rfl (.fact (Has.okZ (Has.t (t:=0) rfl)) fun okz0=>.fact (Has.okZ (Has.t (t:=1) rfl)) fun okz1=>?_)
 have hm:=wz (val xs) (val ys)
 refine .sr fun k1=>.box (.t rfl) rfl fun b1=>.box (.t rfl) rfl fun b2=>.alloc [isB false,SlM isU []] zK (fun _ _=>⟨rfl,nilM _ _,trivial⟩) rfl fun b3=>nkQ k1 (.sq fun k2=>.dr (.so [] rfl (.fieldAddr (.t rfl) qM qc) (.so [5] rfl (.load1 (.t rfl) (i:=2) rfl qc rfl) (.so [] rfl (.fieldAddr (.t rfl) qM qc) (.so [7] rfl (.load1 (.t rfl) (i:=1) rfl qc rfl) (.so [6,8] rfl (.call (zDW hx hy) (.cons (.t rfl) (.cons (.t rfl) .nil))) (.so [] rfl (.fieldAddr (.t rfl) xL ty4) (.so [10] rfl (.load1 (.t rfl) (i:=2) rfl ty4 rfl) (.so [] rfl (.fieldAddr (.t rfl) xL ty4) (.so [12] rfl (.load1 (.t rfl) (i:=1) rfl ty4 rfl) (.so [11,13] rfl (.neB (du:=un4) rfl (.t rfl) (.t rfl)) (.fn (n:=10) zW (.w [4,9,14] rfl (st (.call (qq (by simp only[zB,zH];omega)) (.cons (.t rfl) (.cons (.t rfl) .nil))) rfl ?_))))))))))))))
 refine .store (.t rfl) (.t rfl) (i:=0) rfl zE rfl rfl (Ss':=[_,_]) rfl (M':=[(some _,zC [_,_]),_,_]) rfl (nkQ k2 (.ret (rt1 (.inl rfl) Tryz.results33 rfl (.cell rfl (i:=0) rfl zE rfl ?_ .nil))))
 ·exact zO (zGT m n xs ys).symm
theorem ca {m n:Bool} {xs ys:List Nat} (hx:(List.length (zA (val xs)))<4294700000) (hy:(List.length (zA (val ys)))<4294700000):Ctr Tryz.prog 108 [zk [isB m,zD xs],zk [isB n,zD ys]] (zZ [isZ ((zv m xs).tdiv (zv n ys)),isZ (if zv n ys=0 then 0 else (zv m xs).tmod (zv n ys)),isB (decide (zv n ys≠0))]):=by
 refine Ctr.i Tryz.func108 rfl Tryz.ntmps108 fun w0 F0=>.w [0,1] rfl (.fact (Has.okZ (Has.t (t:=0) rfl)) fun okz0=>.fact (Has.okZ (Has.t (t:=1) rfl)) fun okz1=>?_)
 have ha:=qF (Nat.div_le_self (val xs) (val ys))
 have hb:(List.length (zA (if val ys=0 then 0 else val xs%val ys)))≤(List.length (zA (val xs))):=qF (by split;exact Nat.zero_le _;exact Nat.mod_le _ _)
 refine .sr fun k1=>.box (.t rfl) rfl fun b1=>.box (.t rfl) rfl fun b2=>.alloc [isB false,SlM isU []] zK (fun _ _=>⟨rfl,nilM _ _,trivial⟩) rfl fun b3=>.alloc [isB false,SlM isU []] zK (fun _ _=>⟨rfl,nilM _ _,trivial⟩) rfl fun b4=>st (.as (.cB false)) rfl (nkQ k1 (.sr fun k2=>st (.fieldAddr (.t rfl) qM qc) rfl (st (.load1 (.t rfl) (i:=3) rfl qc rfl) rfl (st (.fieldAddr (.t rfl) qM qc) rfl (st (.load1 (.t rfl) (i:=2) rfl qc rfl) rfl (st (.call (gk (by omega) (by omega)) (.cons (.t rfl) (.cons (.t rfl) .nil))) rfl (stM rfl (st (.ext (.t rfl) rfl) rfl (st (.ext (.t rfl) rfl) rfl (st (.ext (.t rfl) rfl) rfl (stM rfl (stM rfl (stM rfl (nkQ k2 (.w [2,3,4,5,6,7,8,9] rfl (.sq fun k3=>.drh [false,false,true,true] (Ms:=[_,_]) rfl (.m [] rfl (.so [] rfl (.fieldAddr (.t rfl) xL ty4) (.so [20] rfl (.load1 (.t rfl) (i:=1) rfl ty4 rfl) (.so [] rfl (.fieldAddr (.t rfl) xL ty4) (.so [22] rfl (.load1 (.t rfl) (i:=0) rfl ty4 rfl) (.so [21,23] rfl (.neB (du:=un4) rfl (.t rfl) (.t rfl)) (.so [19,24] rfl (.call (qq (by simp only[zB,zH];omega)) (.cons (.t rfl) (.cons (.t rfl) .nil))) ?_)))))))))))))))))))))))
 refine .m [] rfl (.so [] rfl (.fieldAddr (.t rfl) xL ty4) (.so [27] rfl (.load1 (.t rfl) (i:=1) rfl ty4 rfl) (.so [26,28] rfl (.call (qq (by simp only[zB,zH];omega)) (.cons (.t rfl) (.cons (.t rfl) .nil))) ?_)))
 refine .m [] rfl (.mid2 (.cons _ (.cons _ (.cons_cons _ (.cons_cons _ .slnil)))) (.st0 [25] rfl rfl (by kernel_rfl) (by kernel_rfl) (StS.store (.t rfl) (.t rfl) (i:=1) rfl zE rfl rfl (Ss':=[_,_]) rfl (M':=[_,(some _,zC [_,_]),_,_]) rfl) (.cons _ (.cons _ (.cons_cons _ (.cons_cons _ .slnil)))) (.st0 [29] rfl rfl (by kernel_rfl) (by kernel_rfl) (StS.store (.t rfl) (.t rfl) (i:=0) rfl zE rfl rfl (Ss':=[_,_]) rfl (M':=[(some _,zC [_,_]),_,_,_]) rfl) (.cons _ (.cons _ (.cons_cons _ (.cons_cons _ .slnil)))) (.fin0 (n:=14) zW rfl (by kernel_rfl) (by kernel_rfl) (by kernel_rfl) (.w [4,5,6,30] rfl (stM rfl (nkQ k3 (.ret (rtN (.inl rfl) Tryz.results108 rfl rfl (.cell rfl (i:=1) rfl zE rfl ?_ (.cell rfl (i:=0) rfl zE rfl ?_ (.tmp (Has.t' rfl ?_) .nil))))))))))))
 ·exact zO (zCG m n xs ys).symm
 ·exact zO (yI m n xs ys)
 ·exact zl (ne_zv n ys)
theorem cZ  : Ctr Tryz.prog 124 [] (isZ 1):=by
 refine Ctr.i Tryz.func124 rfl Tryz.ntmps124 fun w0 F0=>.cv (Cv.wk .nil) (.sr fun k1=>.alloc [isB false,SlM isU []] zK (fun _ _=>⟨rfl,nilM _ _,trivial⟩) rfl fun b1=>nkQ k1 (.sr fun k2=>st (.call (xC) (.cons (.cI 1 rfl) .nil)) rfl (.store (.t rfl) (.t rfl) (i:=0) rfl zE rfl rfl (Ss':=[_,_]) rfl (M':=[(some _,zC [_,_])]) rfl (nkQ k2 (.ret (rt1 (.inl rfl) Tryz.results124 rfl (.cell rfl (i:=0) rfl zE rfl ?_ .nil)))))))
 all_goals (rfl)
theorem lv {m n:Bool} {xs ys:List Nat} (hx:(List.length (zA (val xs)))<4294700000) (hy:(List.length (zA (val ys)))<4294700000):Ctr Tryz.prog 123 [zk [isB m,zD xs],zk [isB n,zD ys]] (zZ [isZ (zv m xs/zv n ys),isZ (if zv n ys=0 then 0 else zv m xs%zv n ys),isB (decide (zv n ys≠0))]):=by
 refine Ctr.i Tryz.func123 rfl Tryz.ntmps123 fun w0 F0=>.w [0,1] rfl (.fact (Has.okZ (Has.t (t:=0) rfl)) fun okz0=>.fact (Has.okZ (Has.t (t:=1) rfl)) fun okz1=>?_)
 have ha:=wL (zv m xs) (zv n ys)
 have hb:=yV (zv m xs) (zv n ys)
 have hxx:=xt m xs
 have hyy:=xt n ys
 have h1:=di
 refine .sr fun k1=>.box (.t rfl) rfl fun b1=>.box (.t rfl) rfl fun b2=>.alloc [isB false,SlM isU []] zK (fun _ _=>⟨rfl,nilM _ _,trivial⟩) rfl fun b3=>.alloc [isB false,SlM isU []] zK (fun _ _=>⟨rfl,nilM _ _,trivial⟩) rfl fun b4=>st (.as (.cB false)) rfl (nkQ k1 (.sr fun k2=>st (.load (.t rfl) (i:=3) rfl zE rfl (Ss':=[_,_]) rfl) rfl (st (.load (.t rfl) (i:=2) rfl zE rfl (Ss':=[_,_]) rfl) rfl (st (.call (ca (by with_reducible assumption) (by with_reducible assumption)) (.cons (.t rfl) (.cons (.t rfl) .nil))) rfl (stM rfl (st (.ext (.t rfl) rfl) rfl (st (.ext (.t rfl) rfl) rfl (st (.ext (.t rfl) rfl) rfl (.alloc [isB false,SlM isU []] zK (fun _ _=>⟨rfl,nilM _ _,trivial⟩) rfl fun b5=>.alloc [isB false,SlM isU []] zK (fun _ _=>⟨rfl,nilM _ _,trivial⟩) rfl fun b6=>.store (.t rfl) (.t rfl) (i:=1) rfl zE rfl rfl (Ss':=[_,_]) rfl (M':=[_,(some _,zC [_,_]),_,_,_,_]) rfl (.store (.t rfl) (.t rfl) (i:=0) rfl zE rfl rfl (Ss':=[_,_]) rfl (M':=[(some _,zC [_,_]),_,_,_,_,_]) rfl (stM rfl (nkQ k2 (.w [3,4,5,6,7,8,9] rfl (.sq fun k3=>.block (.sr fun k4=>stM rfl (st (.not (.t rfl)) rfl (stM rfl (stF rfl rfl (fun hg=>.load (.t rfl) (i:=0) rfl zE rfl (Ss':=[_,_]) rfl) rfl ?_))))))))))))))))))
 refine stF rfl rfl (fun hg=>have hg':=BP.t hg;OK1.eq (.call (qC (by simp only[zB,zH];omega)) (.cons (Has.g rfl hg) .nil)) (by simp only[zB,zH];rfl)) rfl ?_
 refine stF rfl rfl (fun hg=>.geI (Has.g rfl hg) (.cI 0 rfl)) rfl (st (.pickOr (.t rfl) (fun h=>Has.g rfl (ng h))) rfl (stM rfl (nkQ k4 (.w [3,4,5,6,7,8,9,17] rfl (.cd rfl (fun hc1=>?_) (fun hc1=>?_))))))
 ·have HE:=euc0 hc1
  refine .sq fun k5=>.drh [true,true,false,false,true,true] (Ms:=[_,_,_,_]) rfl (.so [] rfl (.load (.t rfl) (i:=1) rfl zE rfl (Ss':=[_,_]) rfl) (.so [] rfl (.load (.t rfl) (i:=0) rfl zE rfl (Ss':=[_,_]) rfl) (.m [] rfl (.mid2 (.cons_cons _ (.cons_cons _ (.cons _ (.cons _ (.cons_cons _ (.cons_cons _ .slnil)))))) (.st0 [25] rfl rfl (by kernel_rfl) (by kernel_rfl) (StS.store (.t rfl) (.t rfl) (i:=3) rfl zE rfl rfl (Ss':=[_,_]) rfl (M':=[_,_,_,(some _,zC [_,_]),_,_]) rfl) (.cons_cons _ (.cons_cons _ (.cons _ (.cons _ (.cons_cons _ (.cons_cons _ .slnil)))))) (.st0 [26] rfl rfl (by kernel_rfl) (by kernel_rfl) (StS.store (.t rfl) (.t rfl) (i:=2) rfl zE rfl rfl (Ss':=[_,_]) rfl (M':=[_,_,(some _,zC [_,_]),_,_,_]) rfl) (.cons_cons _ (.cons_cons _ (.cons _ (.cons _ (.cons_cons _ (.cons_cons _ .slnil)))))) (.fin0 (n:=5) zW rfl (by kernel_rfl) (by kernel_rfl) (by kernel_rfl) (.w [3,4,5,6,7,8,27] rfl (stM rfl (nkQ k5 (.ret (.blr (.thr (rtN (.inl rfl) Tryz.results123 rfl rfl (.cell rfl (i:=3) rfl zE rfl ?_ (.cell rfl (i:=2) rfl zE rfl ?_ (.tmp (Has.t' rfl ?_) .nil)))))))))))))))))
  ·exact zO HE.1
  ·exact zO HE.2
  ·rfl
 ·have HE:=hc1
  refine .sr fun k6=>st (.load (.t rfl) (i:=4) rfl zE rfl (Ss':=[_,_]) rfl) rfl (st (.call (qC (by omega)) (.cons (.t rfl) .nil)) rfl (st (.gtI (.t rfl) (.cI 0 rfl)) rfl (stM rfl (nkQ k6 (.w [3,4,5,6,7,8,28] rfl (.cd rfl (fun hc2=>?_) (fun hc2=>?_)))))))
  ·have HE2:=euc1 HE hc2
   refine .sq fun k7=>.dr (.so [] rfl (.load (.t rfl) (i:=1) rfl zE rfl (Ss':=[_,_]) rfl) (.so [] rfl (.call (cZ) .nil) (.so [32,33] rfl (.eq (.call (vN (by simp only[zB,zH];omega) (by simp only[zB,zH];omega)) (.cons (.t rfl) (.cons (.t rfl) .nil))) (by simp only[zB,zH];rfl)) ?_)))
   refine .so [] rfl (.load (.t rfl) (i:=0) rfl zE rfl (Ss':=[_,_]) rfl) (.so [] rfl (.load (.t rfl) (i:=4) rfl zE rfl (Ss':=[_,_]) rfl) (.fn (n:=5) zW (.w [3,4,5,6,7,8,34,35,36] rfl (st (.eq (.call (qz (by simp only[zB,zH];omega) (by with_reducible assumption)) (.cons (.t rfl) (.cons (.t rfl) .nil))) (by simp only[zB,zH];rfl)) rfl ?_))))
   refine .store (.t rfl) (.t rfl) (i:=3) rfl zE rfl rfl (Ss':=[_,_]) rfl (M':=[_,_,_,(some _,zC [_,_]),_,_]) rfl (.store (.t rfl) (.t rfl) (i:=2) rfl zE rfl rfl (Ss':=[_,_]) rfl (M':=[_,_,(some _,zC [_,_]),_,_,_]) rfl (st (.as (.cB true)) rfl (nkQ k7 (.ret (.blr (.thr (rtN (.inl rfl) Tryz.results123 rfl rfl (.cell rfl (i:=3) rfl zE rfl ?_ (.cell rfl (i:=2) rfl zE rfl ?_ (.tmp (Has.t' rfl ?_) .nil))))))))))
   ·exact zO HE2.1
   ·exact zO HE2.2
   ·exact zl (decide_eq_true HE.1).symm
  ·have HE2:=euc2 HE hc2
   refine .skip (.bln (.nk k3 (.sq fun k8=>.dr (.so [] rfl (.load (.t rfl) (i:=1) rfl zE rfl (Ss':=[_,_]) rfl) (.so [] rfl (.call (cZ) .nil) (.so [38,39] rfl (.eq (.call (qz (by simp only[zB,zH];omega) (by simp only[zB,zH];omega)) (.cons (.t rfl) (.cons (.t rfl) .nil))) (by simp only[zB,zH];rfl)) ?_))))))
   refine .so [] rfl (.load (.t rfl) (i:=0) rfl zE rfl (Ss':=[_,_]) rfl) (.so [] rfl (.load (.t rfl) (i:=4) rfl zE rfl (Ss':=[_,_]) rfl) (.fn (n:=5) zW (.w [4,5,6,40,41,42] rfl (st (.eq (.call (vN (by simp only[zB,zH];omega) (by with_reducible assumption)) (.cons (.t rfl) (.cons (.t rfl) .nil))) (by simp only[zB,zH];rfl)) rfl ?_))))
   refine .store (.t rfl) (.t rfl) (i:=3) rfl zE rfl rfl (Ss':=[_,_]) rfl (M':=[_,_,_,(some _,zC [_,_]),_,_]) rfl (.store (.t rfl) (.t rfl) (i:=2) rfl zE rfl rfl (Ss':=[_,_]) rfl (M':=[_,_,(some _,zC [_,_]),_,_,_]) rfl (st (.as (.cB true)) rfl (nkQ k8 (.ret (rtN (.inl rfl) Tryz.results123 rfl rfl (.cell rfl (i:=3) rfl zE rfl ?_ (.cell rfl (i:=2) rfl zE rfl ?_ (.tmp (Has.t' rfl ?_) .nil))))))))
   ·exact zO HE2.1
   ·exact zO HE2.2
   ·exact zl (decide_eq_true HE.1).symm
theorem xd {m n:Bool} {xs ys:List Nat} (hx:(List.length (zA (val xs)))<4294700000) (hy:(List.length (zA (val ys)))<4294700000):Ctr Tryz.prog 80 [zk [isB m,zD xs],zk [isB n,zD ys]] (zZ [isZ (if zv n ys≠0∧(zv m xs).tmod (zv n ys)=0 then (zv m xs).tdiv (zv n ys) else 0),isB (decide (zv n ys≠0∧(zv m xs).tmod (zv n ys)=0))]):=by
 refine Ctr.i Tryz.func80 rfl Tryz.ntmps80 fun w0 F0=>.w [0,1] rfl (.fact (Has.okZ (Has.t (t:=0) rfl)) fun okz0=>.fact (Has.okZ (Has.t (t:=1) rfl)) fun okz1=>?_)
 have ha:=wL (zv m xs) (zv n ys)
 have hb:=yV (zv m xs) (zv n ys)
 have hxx:=xt m xs
 have hyy:=xt n ys
 have h1:=di
 refine .sr fun k1=>.box (.t rfl) rfl fun b1=>.box (.t rfl) rfl fun b2=>.alloc [isB false,SlM isU []] zK (fun _ _=>⟨rfl,nilM _ _,trivial⟩) rfl fun b3=>st (.as (.cB false)) rfl (nkQ k1 (.sr fun k2=>st (.load (.t rfl) (i:=2) rfl zE rfl (Ss':=[_,_]) rfl) rfl (st (.load (.t rfl) (i:=1) rfl zE rfl (Ss':=[_,_]) rfl) rfl (st (.call (ca (by with_reducible assumption) (by with_reducible assumption)) (.cons (.t rfl) (.cons (.t rfl) .nil))) rfl (stM rfl (st (.ext (.t rfl) rfl) rfl (st (.ext (.t rfl) rfl) rfl (st (.ext (.t rfl) rfl) rfl (.alloc [isB false,SlM isU []] zK (fun _ _=>⟨rfl,nilM _ _,trivial⟩) rfl fun b4=>.alloc [isB false,SlM isU []] zK (fun _ _=>⟨rfl,nilM _ _,trivial⟩) rfl fun b5=>.store (.t rfl) (.t rfl) (i:=1) rfl zE rfl rfl (Ss':=[_,_]) rfl (M':=[_,(some _,zC [_,_]),_,_,_]) rfl (.store (.t rfl) (.t rfl) (i:=0) rfl zE rfl rfl (Ss':=[_,_]) rfl (M':=[(some _,zC [_,_]),_,_,_,_]) rfl (stM rfl (nkQ k2 (.w [4,5,6,7,8] rfl (.sq fun k3=>.sr fun k4=>stM rfl (st (.not (.t rfl)) rfl (stM rfl (stF rfl rfl (fun hg=>.load (.t rfl) (i:=0) rfl zE rfl (Ss':=[_,_]) rfl) rfl ?_)))))))))))))))))
 refine stF rfl rfl (fun hg=>have hg':=BP.t hg;OK1.eq (.call (qC (by simp only[zB,zH];omega)) (.cons (Has.g rfl hg) .nil)) (by simp only[zB,zH];rfl)) rfl ?_
 refine stF rfl rfl (fun hg=>.neI (Has.g rfl hg) (.cI 0 rfl)) rfl (st (.pickOr (.t rfl) (fun h=>Has.g rfl (ng h))) rfl (nkQ k4 (.w [4,5,6,22] rfl (.cd rfl (fun hc1=>?_) (fun hc1=>?_)))))
 ·have HE:=ex_no hc1
  refine .sr fun k5=>st (.eq (.build [isB false,SlM isU []] yN zK (fun _ _=>⟨rfl,nilM _ _,trivial⟩) .nil (Z'':=[_,_]) rfl) (isZ0)) rfl (.store (.t rfl) (.t rfl) (i:=2) rfl zE rfl rfl (Ss':=[_,_]) rfl (M':=[_,_,(some _,zC [_,_]),_,_]) rfl (st (.as (.cB false)) rfl (nkQ k5 (.ret (.thr (rtN (.inl rfl) Tryz.results80 rfl rfl (.cell rfl (i:=2) rfl zE rfl ?_ (.tmp (Has.t' rfl ?_) .nil))))))))
  ·exact zO (if_neg HE).symm
  ·exact zl (decide_eq_false HE).symm
 ·have HE:=ex_yes hc1
  refine .skip (.nk k3 (.sr fun k6=>st (.load (.t rfl) (i:=1) rfl zE rfl (Ss':=[_,_]) rfl) rfl (.store (.t rfl) (.t rfl) (i:=2) rfl zE rfl rfl (Ss':=[_,_]) rfl (M':=[_,_,(some _,zC [_,_]),_,_]) rfl (st (.as (.cB true)) rfl (nkQ k6 (.ret (rtN (.inl rfl) Tryz.results80 rfl rfl (.cell rfl (i:=2) rfl zE rfl ?_ (.tmp (Has.t' rfl ?_) .nil)))))))))
  ·exact zO (if_pos HE).symm
  ·exact zl (decide_eq_true HE).symm
theorem lu {m n:Bool} {xs ys:List Nat} (hx:(List.length (zA (val xs)))<4294700000) (hy:(List.length (zA (val ys)))<4294700000):Ctr Tryz.prog 79 [zk [isB m,zD xs],zk [isB n,zD ys]] (isZ ((Nat.gcd (val xs) (val ys):Nat):Int)):=by
 refine Ctr.i Tryz.func79 rfl Tryz.ntmps79 fun w0 F0=>.w [0,1] rfl (.fact (Has.okZ (Has.t (t:=0) rfl)) fun okz0=>.fact (Has.okZ (Has.t (t:=1) rfl)) fun okz1=>?_)
 have hg:=Nat.le_trans (qF (gb (val xs) (val ys))) (gF _ _)
 refine .sr fun k1=>.box (.t rfl) rfl fun b1=>.box (.t rfl) rfl fun b2=>.alloc [isB false,SlM isU []] zK (fun _ _=>⟨rfl,nilM _ _,trivial⟩) rfl fun b3=>nkQ k1 (.sr fun k2=>st (.fieldAddr (.t rfl) qM qc) rfl (st (.load1 (.t rfl) (i:=2) rfl qc rfl) rfl (st (.fieldAddr (.t rfl) qM qc) rfl (st (.load1 (.t rfl) (i:=1) rfl qc rfl) rfl (st (.call (zFH (by omega) (by omega)) (.cons (.t rfl) (.cons (.t rfl) .nil))) rfl (st (.call (qq (by simp only[zB,zH];omega)) (.cons (.t rfl) (.cons (.cB false) .nil))) rfl ?_))))))
 refine .store (.t rfl) (.t rfl) (i:=0) rfl zE rfl rfl (Ss':=[_,_]) rfl (M':=[(some _,zC [_,_]),_,_]) rfl (nkQ k2 (.w [4] rfl (.ret (rt1 (.inl rfl) Tryz.results79 rfl (.cell rfl (i:=0) rfl zE rfl ?_ .nil)))))
 ·exact zO (by rw[bm,if_neg (by decide)])
theorem iF {m n:Bool} {xs ys:List Nat} (hx:(List.length (zA (val xs)))≤100000000) (hy:(List.length (zA (val ys)))≤100000000):Ctr Tryz.prog 122 [zk [isB m,zD xs],zk [isB n,zD ys]] (zZ [isZ (cof (zv m xs) (zv n ys) 1 0).1,isZ (cof (zv m xs) (zv n ys) 1 0).2]):=by
 refine Ctr.i Tryz.func122 rfl Tryz.ntmps122 fun w0 F0=>.w [0,1] rfl (.fact (Has.okZ (Has.t (t:=0) rfl)) fun okz0=>.fact (Has.okZ (Has.t (t:=1) rfl)) fun okz1=>?_)
 have hxx:=xt m xs
 have hyy:=xt n ys
 refine .sr fun k1=>.box (.t rfl) rfl fun b1=>.box (.t rfl) rfl fun b2=>.alloc [isB false,SlM isU []] zK (fun _ _=>⟨rfl,nilM _ _,trivial⟩) rfl fun b3=>.alloc [isB false,SlM isU []] zK (fun _ _=>⟨rfl,nilM _ _,trivial⟩) rfl fun b4=>nkQ k1 (.sr fun k2=>st (.call (cZ) .nil) rfl (st (.eq (.build [isB false,SlM isU []] yN zK (fun _ _=>⟨rfl,nilM _ _,trivial⟩) .nil (Z'':=[_,_]) rfl) (isZ0)) rfl (.alloc [isB false,SlM isU []] zK (fun _ _=>⟨rfl,nilM _ _,trivial⟩) rfl fun b5=>.alloc [isB false,SlM isU []] zK (fun _ _=>⟨rfl,nilM _ _,trivial⟩) rfl fun b6=>.store (.t rfl) (.t rfl) (i:=1) rfl zE rfl rfl (Ss':=[_,_]) rfl (M':=[_,(some _,zC [_,_]),_,_,_,_]) rfl (.store (.t rfl) (.t rfl) (i:=0) rfl zE rfl rfl (Ss':=[_,_]) rfl (M':=[(some _,zC [_,_]),_,_,_,_,_]) rfl (nkQ k2 (.sq fun k3=>.dr (.so [] rfl (.fieldAddr (.t rfl) qM qc) (.so [13] rfl (.load1 (.t rfl) (i:=5) rfl qc rfl) (.so [] rfl (.fieldAddr (.t rfl) xL ty4) (.so [15] rfl (.load1 (.t rfl) (i:=5) rfl ty4 rfl) (.so [14,16] rfl (.call (qq (by omega)) (.cons (.t rfl) (.cons (.t rfl) .nil))) (.so [] rfl (.fieldAddr (.t rfl) qM qc) (.so [18] rfl (.load1 (.t rfl) (i:=4) rfl qc rfl) (.so [] rfl (.fieldAddr (.t rfl) xL ty4) (.so [20] rfl (.load1 (.t rfl) (i:=4) rfl ty4 rfl) (.fn (n:=9) zW (.w [2,3,4,5,6,7,17,19,21] rfl ?_)))))))))))))))))
 refine st (.call (qq (by omega)) (.cons (.t rfl) (.cons (.t rfl) .nil))) rfl (.store (.t rfl) (.t rfl) (i:=5) rfl zE rfl rfl (Ss':=[_,_]) rfl (M':=[_,_,_,_,_,(some _,zC [_,_])]) rfl (.store (.t rfl) (.t rfl) (i:=4) rfl zE rfl rfl (Ss':=[_,_]) rfl (M':=[_,_,_,_,(some _,zC [_,_]),_]) rfl (nkQ k3 (.sq fun k4=>.block (.loopF [2,3,4,5,6,7] (fun (z:{ z:Int×Int×Int×Int×Nat×Nat//Cf (zv m xs) (zv n ys) z.1 z.2.1 z.2.2.1 z.2.2.2.1 z.2.2.2.2.1 z.2.2.2.2.2∧cof z.1 z.2.1 z.2.2.1 z.2.2.2.1=cof (zv m xs) (zv n ys) 1 0 })=>match z with|⟨(a,b,x,nx,X,Y),hI⟩=>[]) (fun M=>fun (z:{ z:Int×Int×Int×Int×Nat×Nat//Cf (zv m xs) (zv n ys) z.1 z.2.1 z.2.2.1 z.2.2.2.1 z.2.2.2.2.1 z.2.2.2.2.2∧cof z.1 z.2.1 z.2.2.1 z.2.2.2.1=cof (zv m xs) (zv n ys) 1 0 })=>match z with|⟨(a,b,x,nx,X,Y),hI⟩=>[zM b6 nx,zM b5 x,(some b4,zC [isB false,SlM isU []]),(some b3,zC [isB false,SlM isU []]),zM b2 b,zM b1 a]) (fun (z:{ z:Int×Int×Int×Int×Nat×Nat//Cf (zv m xs) (zv n ys) z.1 z.2.1 z.2.2.1 z.2.2.2.1 z.2.2.2.2.1 z.2.2.2.2.2∧cof z.1 z.2.1 z.2.2.1 z.2.2.2.1=cof (zv m xs) (zv n ys) 1 0 })=>match z with|⟨(a,b,x,nx,X,Y),hI⟩=>b.natAbs) (⟨(zv m xs,zv n ys,1,0,1,0),Cf.start _ _,rfl⟩) (Cv.mem (.l [2,3,4,5,6,7] rfl) ?_) ?_)))))
 ·rfl
 rintro⟨⟨a,b,x,nx,X,Y⟩,hI⟩ K5 hK5
 refine .w [2,3,4,5,6,7] rfl (.memEq (M':=[zM b6 nx,zM b5 x,(some b4,zC [isB false,SlM isU []]),(some b3,zC [isB false,SlM isU []]),zM b2 b,zM b1 a]) rfl ?_)
 simp only[] at hI
 obtain⟨hC,hcof⟩:=hI
 have za:=Nat.le_trans (qF hC.a1) (gF _ _)
 have zb:=qF hC.b1
 have zx:=Nat.le_trans (qF (Nat.le_trans hC.x hC.X1)) (gF _ _)
 have zn:=qF (Nat.le_trans hC.y hC.Y1)
 have h1:=gE
 have zq:=wL a b
 have zr:=rR a b
 refine .sq fun k6=>.sr fun k7=>st (.load (.t rfl) (i:=4) rfl zE rfl (Ss':=[_,_]) rfl) rfl (st (.eq (.call (qC (by simp only[zB,zH];omega)) (.cons (.t rfl) .nil)) (by simp only[zB,zH];rfl)) rfl ?_)
 refine st (.neI (.t rfl) (.cI 0 rfl)) rfl (nkQ k7 (.cd rfl (fun hc1=>?_) (fun hc1=>?_)))
 ·have hb:b≠0:=fun e=>hc1 (by rw[xQ];exact e)
  have zm:=qA (a.tdiv b) nx
  refine .skip (.nk k6 (.block (.sr fun k8=>st (.load (.t rfl) (i:=5) rfl zE rfl (Ss':=[_,_]) rfl) rfl (st (.load (.t rfl) (i:=4) rfl zE rfl (Ss':=[_,_]) rfl) rfl (st (.eq (.call (ca (by simp only[zB,zH];omega) (by simp only[zB,zH];omega)) (.cons (.t rfl) (.cons (.t rfl) .nil))) (by simp only[zB,zH];rfl)) rfl ?_)))))
  refine stM rfl (st (.ext (.t rfl) rfl) rfl (st (.ext (.t rfl) rfl) rfl (st (.ext (.t rfl) rfl) rfl (.alloc [isB false,SlM isU []] zK (fun _ _=>⟨rfl,nilM _ _,trivial⟩) rfl fun b7=>.alloc [isB false,SlM isU []] zK (fun _ _=>⟨rfl,nilM _ _,trivial⟩) rfl fun b8=>.store (.t rfl) (.t rfl) (i:=1) rfl zE rfl rfl (Ss':=[_,_]) rfl (M':=[_,(some _,zC [_,_]),_,_,_,_,_,_]) rfl (.store (.t rfl) (.t rfl) (i:=0) rfl zE rfl rfl (Ss':=[_,_]) rfl (M':=[(some _,zC [_,_]),_,_,_,_,_,_,_]) rfl (stM rfl (nkQ k8 (.sq fun k9=>.drh [true,true,true,true,true,true,true,false] (Ms:=[_,_,_,_,_,_,_]) rfl (.so [] rfl (.load (.t rfl) (i:=6) rfl zE rfl (Ss':=[_,_]) rfl) (.so [] rfl (.load (.t rfl) (i:=0) rfl zE rfl (Ss':=[_,_]) rfl) (.mid2 (.cons_cons _ (.cons_cons _ (.cons_cons _ (.cons_cons _ (.cons_cons _ (.cons_cons _ (.cons_cons _ (.cons _ .slnil)))))))) (.st0 [33] rfl rfl (by kernel_rfl) (by kernel_rfl) (StS.store (.t rfl) (.t rfl) (i:=7) rfl zE rfl rfl (Ss':=[_,_]) rfl (M':=[_,_,_,_,_,_,_,(some _,zC [_,_])]) rfl) (.cons_cons _ (.cons_cons _ (.cons_cons _ (.cons_cons _ (.cons_cons _ (.cons_cons _ (.cons_cons _ (.cons _ .slnil)))))))) (.fin0 (n:=3) zW rfl (by kernel_rfl) (by kernel_rfl) (by kernel_rfl) (.w [2,3,4,5,6,7,23,24,25,27,28,29,26,30,31,32,8,9,33,34] rfl (.store (.t rfl) (.t rfl) (i:=6) rfl zE rfl rfl (Ss':=[_,_]) rfl (M':=[_,_,_,_,_,_,(some _,zC [_,_]),_]) rfl (nkQ k9 (.dr (.so [] rfl (.load (.t rfl) (i:=2) rfl zE rfl (Ss':=[_,_]) rfl) (.so [] rfl (.load (.t rfl) (i:=3) rfl zE rfl (Ss':=[_,_]) rfl) (.so [] rfl (.load (.t rfl) (i:=1) rfl zE rfl (Ss':=[_,_]) rfl) (.so [] rfl (.load (.t rfl) (i:=2) rfl zE rfl (Ss':=[_,_]) rfl) (.so [37,38] rfl (.eq (.call (qE (by simp only[zB,zH];omega) (by simp only[zB,zH];omega)) (.cons (.t rfl) (.cons (.t rfl) .nil))) (by simp only[zB,zH];rfl)) ?_))))))))))))))))))))))
  refine .so [36,39] rfl (.eq (.call (vN (by simp only[zB,zH];omega) (by simp only[zB,zH];omega)) (.cons (.t rfl) (.cons (.t rfl) .nil))) (by simp only[zB,zH];rfl)) ?_
  refine .fn (n:=6) zW (.w [2,3,4,5,6,7,23,24,25,27,28,29,26,30,31,32,8,9,33,34,35,36,37,38,39,40] rfl (.store (.t rfl) (.t rfl) (i:=3) rfl zE rfl rfl (Ss':=[_,_]) rfl (M':=[_,_,_,(some _,zC [_,_]),_,_,_,_]) rfl (.store (.t rfl) (.t rfl) (i:=2) rfl zE rfl rfl (Ss':=[_,_]) rfl (M':=[_,_,(some _,zC [_,_]),_,_,_,_,_]) rfl (nl (.bln (.thn (hK5 (⟨(b,a.tmod b,nx,x-a.tdiv b*nx,Y,X+(a.tdiv b).natAbs*Y),hC.step hb,by rw[←hcof,nY hb]⟩) _ _ ?_ (Cv.trans (Cv.drop ((.cons _ (.cons _ (.cons_cons _ (.cons_cons _ (.cons_cons _ (.cons_cons _ (.cons_cons _ (.cons_cons _ .slnil)))))))))) (Cv.mem (.l [2,3,4,5,6,7] rfl) ?_)))))))))
  ·show (a.tmod b).natAbs<b.natAbs;rw[Int.natAbs_tmod];exact Nat.mod_lt _ (by omega)
  ·simp only[if_neg hb]
 ·have hb:b=0:=(xQ _).1 (by omega)
  refine .exit (.the (.the (.blh (.nk k4 (.w [2,4,5,6] rfl (.sq fun k10=>.sr fun k11=>st (.load (.t rfl) (i:=5) rfl zE rfl (Ss':=[_,_]) rfl) rfl (st (.eq (.call (qC (by simp only[zB,zH];omega)) (.cons (.t rfl) .nil)) (by simp only[zB,zH];rfl)) rfl ?_)))))))
  refine st (.ltI (.t rfl) (.cI 0 rfl)) rfl (nkQ k11 (.cd rfl (fun hc2=>?_) (fun hc2=>?_)))
  ·have ha:a<0:=(ar _).1 hc2
   refine .sq fun k12=>.dr (.so [] rfl (.load (.t rfl) (i:=5) rfl zE rfl (Ss':=[_,_]) rfl) (.so [44] rfl (.eq (.call (vj (by simp only[zB,zH];omega)) (.cons (.t rfl) .nil)) (by simp only[zB,zH];rfl)) ?_))
   refine .so [] rfl (.load (.t rfl) (i:=1) rfl zE rfl (Ss':=[_,_]) rfl) (.fn (n:=3) zW (.w [2,4,5,6,45,46] rfl (st (.eq (.call (vj (by simp only[zB,zH];omega)) (.cons (.t rfl) .nil)) (by simp only[zB,zH];rfl)) rfl ?_)))
   refine .store (.t rfl) (.t rfl) (i:=3) rfl zE rfl rfl (Ss':=[_,_]) rfl (M':=[_,_,_,(some _,zC [_,_]),_,_]) rfl (.store (.t rfl) (.t rfl) (i:=2) rfl zE rfl rfl (Ss':=[_,_]) rfl (M':=[_,_,(some _,zC [_,_]),_,_,_]) rfl (nkQ k12 (.ret (.thr (rtN (.inl rfl) Tryz.results122 rfl rfl (.cell rfl (i:=3) rfl zE rfl ?_ (.cell rfl (i:=2) rfl zE rfl ?_ .nil)))))))
   ·subst hb;exact zO (by rw[←hcof,bF,if_pos ha])
   ·subst hb;exact zO (by rw[←hcof,bF,if_pos ha])
  ·have ha:¬a<0:=fun e=>by have:=(ar a).2 e;omega
   refine .skip (.nk k10 (.sq fun k13=>.drh [true,true,true,false,true,true] (Ms:=[_,_,_,_,_]) rfl (.so [] rfl (.load (.t rfl) (i:=4) rfl zE rfl (Ss':=[_,_]) rfl) (.so [] rfl (.load (.t rfl) (i:=1) rfl zE rfl (Ss':=[_,_]) rfl) (.mid2 (.cons_cons _ (.cons_cons _ (.cons_cons _ (.cons _ (.cons_cons _ (.cons_cons _ .slnil)))))) (.st0 [48] rfl rfl (by kernel_rfl) (by kernel_rfl) (StS.store (.t rfl) (.t rfl) (i:=3) rfl zE rfl rfl (Ss':=[_,_]) rfl (M':=[_,_,_,(some _,zC [_,_]),_,_]) rfl) (.cons_cons _ (.cons_cons _ (.cons_cons _ (.cons _ (.cons_cons _ (.cons_cons _ .slnil)))))) (.fin0 (n:=3) zW rfl (by kernel_rfl) (by kernel_rfl) (by kernel_rfl) (.w [4,5,49] rfl (.store (.t rfl) (.t rfl) (i:=2) rfl zE rfl rfl (Ss':=[_,_]) rfl (M':=[_,_,(some _,zC [_,_]),_,_,_]) rfl (nkQ k13 (.ret (rtN (.inl rfl) Tryz.results122 rfl rfl (.cell rfl (i:=3) rfl zE rfl ?_ (.cell rfl (i:=2) rfl zE rfl ?_ .nil))))))))))))))
   ·subst hb;exact zO (by rw[←hcof,bF,if_neg ha])
   ·subst hb;exact zO (by rw[←hcof,bF,if_neg ha])
end Go.Proofs.YtchbfpcaibfkdaaGreat
namespace Go.Proofs.YtchbfpcaibfkdaaGreat
open Go.En Go.RowKit
set_option maxRecDepth 10000
set_option maxHeartbeats 4000000
open Go.Nt
open Go.Pz
open Go.Mz
theorem tR {bw N K:Nat} {gd:Gr (Bool×List Nat)} {gl gu:Gr Row} {ds:List Int} {ls us:List Row} {m n:Bool} {ps qs:List Nat} {sw:Int} (hdl:ds.length=N+1) (hdb:Bd ds K) (hll:ls.length=N) (hul:us.length=N) (hlr:∀r∈ls,r.2.length=N) (hur:∀r∈us,r.2.length=N) (hlb:∀r∈ls,Bd r.2 K) (hub:∀r∈us,Bd r.2 K) (hN:N≤64) (hK:K≤100000000) {i k:Nat} {r:Row} (hi:ls[i]?=some r) (hk:k<N):CtrX Tryz.prog 114 [qX bw 0,isI (i:Int),isI (k:Int)] (lwM bw N gd gl gu ds ls us m n ps qs sw) (fun S M=>S=isB (smZ (cf r.2 k) (cf ds (k+1)))∧M=lwM bw N gd gl gu ds ls us m n ps qs sw):=by
 refine CtrX.i Tryz.func114 rfl Tryz.ntmps114 fun w0 F0=>.w [0,1,2] rfl (.fact (Has.rngI (Has.t (t:=1) rfl)) fun lt1=>.fact (Has.rngI (Has.t (t:=2) rfl)) fun lt2=>?_)
 have hrC:=hlr r (List.mem_of_getElem? hi)
 have hrB:=hlb r (List.mem_of_getElem? hi) k
 have hrL:(r.2.map nz).length=N:=by rw[List.length_map,hrC]
 have hdB:=hdb (k+1)
 have hiL:i<ls.length:=by
  rcases Nat.lt_or_ge i ls.length with g|g
  ·exact g
  ·rw[List.getElem?_eq_none g] at hi;cases hi
 have ha:=xh (cf r.2 k) (cf r.2 k)
 have hdL:(ds.map nz).length=N+1:=by rw[List.length_map,hdl]
 refine .sr fun k1=>st (.as (.cB false)) rfl (nkQ k1 (.sq fun k2=>.dr (.m [] rfl (.so [7] rfl (.nilc (.t rfl)) (.so [8] rfl (.fieldAddr (.t rfl) qa zu) (.so [9] rfl (.load1 (.t rfl) (i:=0) rfl zu rfl) (.m [] rfl (.so [10,11] rfl (.ixGr qn zP (.t rfl) (.t rfl) (by omega)) ?_))))))))
 refine .so [12] rfl (.loadGM (.t rfl) (i:=2) rfl zP hi) (.m [] rfl (.so [13,14] rfl (.ixGr zz zE (.t rfl) (.t rfl) (by omega)) ?_))
 refine .so [15] rfl (.loadGK zN (.t rfl) (i:=4+i) (jU (pre:=[_,_,_,_]) (lwL hi)) zE (xn (i:=k) (by omega))) (.m [] rfl (.so [17] rfl (.nilc (.t rfl)) (.so [18] rfl (.fieldAddr (.t rfl) qa zu) (.so [19] rfl (.load1 (.t rfl) (i:=0) rfl zu rfl) (.m [] rfl (.so [20,21] rfl (.ixGr qn zP (.t rfl) (.t rfl) (by omega)) ?_))))))
 refine .so [22] rfl (.loadGM (.t rfl) (i:=2) rfl zP hi) (.m [] rfl (.so [23,24] rfl (.ixGr zz zE (.t rfl) (.t rfl) (by omega)) ?_))
 refine .so [25] rfl (.loadGK zN (.t rfl) (i:=4+i) (jU (pre:=[_,_,_,_]) (lwL hi)) zE (xn (i:=k) (by omega))) (.so [16,26] rfl (.eq (.call (qz (by rw[zB];omega) (by rw[zB];omega)) (.cons (.t rfl) (.cons (.t rfl) .nil))) ((show isZ _=isZ (cf r.2 k+cf r.2 k) from zO (by (try simp only[qN]);(try simp only[zH]))))) ?_)
 refine .so [27] rfl (.eq (.call (cb (by rw[zB];omega)) (.cons (.t rfl) .nil)) ((show isZ _=isZ ((((cf r.2 k+cf r.2 k).natAbs:Nat):Int)) from zO (by (try simp only[qN]);(try simp only[zH]))))) ?_
 refine .m [] rfl (.so [29] rfl (.nilc (.t rfl)) (.so [30] rfl (.fieldAddr (.t rfl) xG zP) (.so [31] rfl (.load1 (.t rfl) (i:=0) rfl zP rfl) (.m [] rfl (.so [33] rfl (.eq (.addI (.t rfl) (.cI 1 rfl) (by omega) (by omega)) ((show isI _=isI ((k+1:Nat):Int) from zF (by omega)))) (.so [32,34] rfl (.ixGr zz zE (.t rfl) (.t rfl) (by omega)) ?_))))))
 refine .so [35] rfl (.loadGK zN (.t rfl) (i:=1) rfl zE (xn (i:=k+1) (by omega))) (.fn (n:=30) zW (.w [6,28,36] rfl (st (.eq (.call (jm (by rw[zB];rw[Int.natAbs_natCast];omega) (by rw[zB];omega)) (.cons (.t rfl) (.cons (.t rfl) .nil))) ((show isI _=isI (ql (((cf r.2 k+cf r.2 k).natAbs:Nat):Int) (cf ds (k+1))) from zF (by (try simp only[qN]);(try simp only[zH]))))) rfl ?_)))
 refine st (.leI (.t rfl) (.cI 0 rfl)) rfl (stM rfl (nkQ k2 (.ret (zDF (.inl rfl) Tryz.results114 rfl (.tmp (.t rfl) .nil) (⟨rfl,rfl⟩)))))
end Go.Proofs.YtchbfpcaibfkdaaGreat
namespace Go.Proofs.YtchbfpcaibfkdaaGreat
open Go.En Go.RowKit
set_option maxRecDepth 10000
set_option maxHeartbeats 4000000
open Go.Nt
theorem sV {m n:Bool} {xs ys:List Nat} (hx:(List.length (zA (val xs)))≤100000000) (hy:(List.length (zA (val ys)))≤100000000) (hb:zv n ys≠0):Ctr Tryz.prog 110 [zk [isB m,zD xs],zk [isB n,zD ys]] (zZ [isZ ((Nat.gcd (zv m xs).natAbs (zv n ys).natAbs:Nat):Int),isZ (xg (zv m xs) (zv n ys)),isZ (if zv n ys≠0∧(((Nat.gcd (zv m xs).natAbs (zv n ys).natAbs:Nat):Int)-xg (zv m xs) (zv n ys)*zv m xs).tmod (zv n ys)=0 then (((Nat.gcd (zv m xs).natAbs (zv n ys).natAbs:Nat):Int)-xg (zv m xs) (zv n ys)*zv m xs).tdiv (zv n ys) else 0)]):=by
 refine Ctr.i Tryz.func110 rfl Tryz.ntmps110 fun w0 F0=>.w [0,1] rfl (.fact (Has.okZ (Has.t (t:=0) rfl)) fun okz0=>.fact (Has.okZ (Has.t (t:=1) rfl)) fun okz1=>?_)
 have hxx:=xt m xs
 have hyy:=xt n ys
 have h1:=di
 have hcof:=fN (zv m xs) (zv n ys)
 have hg1:=hcof.1
 obtain⟨g,hge⟩:∃g:Int,g=((Nat.gcd (zv m xs).natAbs (zv n ys).natAbs:Nat):Int):=⟨_,rfl⟩
 have hgn:(List.length (zA g.natAbs))≤100000000:=by rw[hge,Int.natAbs_natCast];exact Nat.le_trans (qF (Nat.gcd_le_right _ (by omega))) (by omega)
 obtain⟨c,hce⟩:∃c,c=(cof (zv m xs) (zv n ys) 1 0).2:=⟨_,rfl⟩
 have hcn:(List.length (zA c.natAbs))≤100000000:=by rw[hce];exact Nat.le_trans (qF hcof.2.2) (Nat.le_trans (gF _ _) (by have:=gE;omega))
 obtain⟨sp,hst⟩:∃sp:Int,sp=((zv n ys).natAbs:Int)/g:=⟨_,rfl⟩
 have hsp:0<sp:=by rw[hst,hge];exact mD hb
 have hsn:(List.length (zA sp.natAbs))≤100000000:=by rw[hst,hge];exact Nat.le_trans (qF (pw _ _)) (by omega)
 obtain⟨x,hxe⟩:∃x,x=xg (zv m xs) (zv n ys):=⟨_,rfl⟩
 have hxn:(List.length (zA x.natAbs))≤100000000:=by rw[hxe];exact Nat.le_trans (qF (uD hb)) (by omega)
 have hm:=qA x (zv m xs)
 have hs:=gD g (x*zv m xs)
 have hx2:c%sp=x:=by rw[hxe,hce,hst,hge];rfl
 refine .sr fun k1=>.box (.t rfl) rfl fun b1=>.box (.t rfl) rfl fun b2=>.alloc [isB false,SlM isU []] zK (fun _ _=>⟨rfl,nilM _ _,trivial⟩) rfl fun b3=>.alloc [isB false,SlM isU []] zK (fun _ _=>⟨rfl,nilM _ _,trivial⟩) rfl fun b4=>.alloc [isB false,SlM isU []] zK (fun _ _=>⟨rfl,nilM _ _,trivial⟩) rfl fun b5=>nkQ k1 (.sq fun k2=>.sr fun k3=>st (.load (.t rfl) (i:=3) rfl zE rfl (Ss':=[_,_]) rfl) rfl (st (.call (qC (by omega)) (.cons (.t rfl) .nil)) rfl (st (.eqI (.t rfl) (.cI 0 rfl)) rfl (nkQ k3 (.cd rfl (fun hc1=>?_) (fun hc1=>?_))))))
 ·exact absurd ((xQ _).1 hc1) hb
 ·refine .skip (.nk k2 (.w [2,3,4,5,6] rfl (.sr fun k4=>st (.load (.t rfl) (i:=4) rfl zE rfl (Ss':=[_,_]) rfl) rfl (st (.load (.t rfl) (i:=3) rfl zE rfl (Ss':=[_,_]) rfl) rfl (st (.eq (.call (iF (by with_reducible assumption) (by with_reducible assumption)) (.cons (.t rfl) (.cons (.t rfl) .nil))) ((show zZ [isZ _,isZ _]=zZ [isZ g,isZ c] from by rw[hce,hge,hg1]))) rfl (stM rfl (st (.ext (.t rfl) rfl) rfl (st (.ext (.t rfl) rfl) rfl (.alloc [isB false,SlM isU []] zK (fun _ _=>⟨rfl,nilM _ _,trivial⟩) rfl fun b6=>.alloc [isB false,SlM isU []] zK (fun _ _=>⟨rfl,nilM _ _,trivial⟩) rfl fun b7=>.store (.t rfl) (.t rfl) (i:=1) rfl zE rfl rfl (Ss':=[_,_]) rfl (M':=[_,(some _,zC [_,_]),_,_,_,_,_]) rfl (.store (.t rfl) (.t rfl) (i:=0) rfl zE rfl rfl (Ss':=[_,_]) rfl (M':=[(some _,zC [_,_]),_,_,_,_,_,_]) rfl (nkQ k4 (.w [2,3,4,5,6,7,8] rfl (.sq fun k5=>.drh [true,true,true,true,true,true,true] (Ms:=[_,_,_,_,_,_,_]) rfl (.so [] rfl (.load (.t rfl) (i:=5) rfl zE rfl (Ss':=[_,_]) rfl) (.so [29] rfl (.call (cb (by omega)) (.cons (.t rfl) .nil)) (.so [] rfl (.load (.t rfl) (i:=1) rfl zE rfl (Ss':=[_,_]) rfl) ?_))))))))))))))))
  refine .so [30,31] rfl (.eq (.call (xd (by simp only[zB,zH,Int.natAbs_natCast];omega) (by simp only[zB,zH];omega)) (.cons (.t rfl) (.cons (.t rfl) .nil))) ((by simp only[zH];rw[show (if g≠0∧(((zv n ys).natAbs:Nat):Int).tmod g=0 then (((zv n ys).natAbs:Nat):Int).tdiv g else 0)=sp from by rw[hst,hge,←hg1];exact (zCI hb).trans (by rw[hg1])]))) ?_
  refine .m [32] rfl (.so [28] rfl (.ext (.t rfl) rfl) (.so [28] rfl (.ext (.t rfl) rfl) (.als2 (n1:=8) (ds:=[9]) (zs:=[[isB false,SlM isU []]]) rfl (.cons rfl rfl zK (fun _ _=>⟨rfl,nilM _ _,trivial⟩) .nil) (.cons_cons _ (.cons_cons _ (.cons_cons _ (.cons_cons _ (.cons_cons _ (.cons_cons _ (.cons_cons _ .slnil))))))) (Cs:=[_]) rfl (.new [33] 0 (Ss':=[_,_]) (Cs':=[zC [_,_]]) rfl (by kernel_rfl) (by kernel_rfl) rfl rfl rfl (by kernel_rfl) rfl (.t rfl) zE rfl rfl rfl rfl (.fn (n:=9) zW rfl (fun bs hbs=>?_))))))
  obtain⟨b8,rfl⟩:=dw hbs
  refine .memEq (M':=[_,_,_,_,_,_,_,_]) rfl (.cv (Cv.wk (.k 2 rfl (.k 3 rfl (.k 4 rfl (.k 5 rfl (.k 6 rfl (.k 7 rfl (.k 8 rfl (.k 34 rfl (.cons (t:=9) (Has.op rfl) .nil)))))))))) (stM rfl (nkQ k5 (.sr fun k6=>st (.load (.t rfl) (i:=1) rfl zE rfl (Ss':=[_,_]) rfl) rfl (st (.load (.t rfl) (i:=0) rfl zE rfl (Ss':=[_,_]) rfl) rfl (st (.eq (.call (lv (by simp only[zB,zH];omega) (by simp only[zB,zH];omega)) (.cons (.t rfl) (.cons (.t rfl) .nil))) ((by simp only[zH];rw[if_neg (show ¬sp=0 by omega),hx2]))) rfl ?_))))))
  refine stM rfl (st (.ext (.t rfl) rfl) rfl (st (.ext (.t rfl) rfl) rfl (st (.ext (.t rfl) rfl) rfl (.store (.t rfl) (.t rfl) (i:=1) rfl zE rfl rfl (Ss':=[_,_]) rfl (M':=[_,(some _,zC [_,_]),_,_,_,_,_,_]) rfl (nkQ k6 (.w [2,3,4,5,6,7,8] rfl (.sq fun k7=>.drh [true,true,true,true,true,true,true,true] (Ms:=[_,_,_,_,_,_,_,_]) rfl (.so [] rfl (.load (.t rfl) (i:=2) rfl zE rfl (Ss':=[_,_]) rfl) (.so [] rfl (.load (.t rfl) (i:=1) rfl zE rfl (Ss':=[_,_]) rfl) (.so [] rfl (.load (.t rfl) (i:=7) rfl zE rfl (Ss':=[_,_]) rfl) (.so [44,45] rfl (.eq (.call (qE (by simp only[zB,zH];omega) (by omega)) (.cons (.t rfl) (.cons (.t rfl) .nil))) (by simp only[zB,zH];rfl)) ?_)))))))))))
  refine .so [43,46] rfl (.eq (.call (vN (by simp only[zB,zH];omega) (by simp only[zB,zH];omega)) (.cons (.t rfl) (.cons (.t rfl) .nil))) (by simp only[zB,zH];rfl)) ?_
  refine .so [] rfl (.load (.t rfl) (i:=6) rfl zE rfl (Ss':=[_,_]) rfl) (.so [47,48] rfl (.eq (.call (xd (by simp only[zB,zH];omega) (by omega)) (.cons (.t rfl) (.cons (.t rfl) .nil))) (by simp only[zB,zH];rfl)) ?_)
  refine .m [49] rfl (.so [42] rfl (.ext (.t rfl) rfl) (.so [42] rfl (.ext (.t rfl) rfl) (.als2 (n1:=11) (ds:=[11]) (zs:=[[isB false,SlM isU []]]) rfl (.cons rfl rfl zK (fun _ _=>⟨rfl,nilM _ _,trivial⟩) .nil) (.cons_cons _ (.cons_cons _ (.cons_cons _ (.cons_cons _ (.cons_cons _ (.cons_cons _ (.cons_cons _ (.cons_cons _ .slnil)))))))) (Cs:=[_]) rfl (.new [50] 0 (Ss':=[_,_]) (Cs':=[zC [_,_]]) rfl (by kernel_rfl) (by kernel_rfl) rfl rfl rfl (by kernel_rfl) rfl (.t rfl) zE rfl rfl rfl rfl (.fn (n:=12) zW rfl (fun bs hbs=>?_))))))
  obtain⟨b9,rfl⟩:=dw hbs
  refine .memEq (M':=[_,_,_,_,_,_,_,_,_]) rfl (.cv (Cv.wk (.k 4 rfl (.k 5 rfl (.k 6 rfl (.k 7 rfl (.k 8 rfl (.k 51 rfl (.cons (t:=11) (Has.op rfl) .nil)))))))) (stM rfl (nkQ k7 (.sq fun k8=>.drh [true,true,true,true,true,false,false,true,true] (Ms:=[_,_,_,_,_,_,_]) rfl (.so [] rfl (.load (.t rfl) (i:=3) rfl zE rfl (Ss':=[_,_]) rfl) (.so [] rfl (.load (.t rfl) (i:=2) rfl zE rfl (Ss':=[_,_]) rfl) (.so [] rfl (.load (.t rfl) (i:=0) rfl zE rfl (Ss':=[_,_]) rfl) (.mid2 (.cons_cons _ (.cons_cons _ (.cons_cons _ (.cons_cons _ (.cons_cons _ (.cons _ (.cons _ (.cons_cons _ (.cons_cons _ .slnil))))))))) (.st0 [52] rfl rfl (by kernel_rfl) (by kernel_rfl) (StS.store (.t rfl) (.t rfl) (i:=6) rfl zE rfl rfl (Ss':=[_,_]) rfl (M':=[_,_,_,_,_,_,(some _,zC [_,_]),_,_]) rfl) (.cons_cons _ (.cons_cons _ (.cons_cons _ (.cons_cons _ (.cons_cons _ (.cons _ (.cons _ (.cons_cons _ (.cons_cons _ .slnil))))))))) (.st0 [53] rfl rfl (by kernel_rfl) (by kernel_rfl) (StS.store (.t rfl) (.t rfl) (i:=5) rfl zE rfl rfl (Ss':=[_,_]) rfl (M':=[_,_,_,_,_,(some _,zC [_,_]),_,_,_]) rfl) (.cons_cons _ (.cons_cons _ (.cons_cons _ (.cons_cons _ (.cons_cons _ (.cons _ (.cons _ (.cons_cons _ (.cons_cons _ .slnil))))))))) (.fin0 (n:=5) zW rfl (by kernel_rfl) (by kernel_rfl) (by kernel_rfl) (.w [4,5,6,54] rfl (.store (.t rfl) (.t rfl) (i:=4) rfl zE rfl rfl (Ss':=[_,_]) rfl (M':=[_,_,_,_,(some _,zC [_,_]),_,_,_,_]) rfl (nkQ k8 (.ret (rtN (.inl rfl) Tryz.results110 rfl rfl (.cell rfl (i:=6) rfl zE rfl ?_ (.cell rfl (i:=5) rfl zE rfl ?_ (.cell rfl (i:=4) rfl zE rfl ?_ .nil)))))))))))))))))))
  ·exact zO hge
  ·exact zO hxe
  ·exact zO (by rw[hge,hxe])
end Go.Proofs.YtchbfpcaibfkdaaGreat
namespace Go.Proofs.YtchbfpcaibfkdaaGreat
open Go.En Go.RowKit
set_option maxRecDepth 10000
set_option maxHeartbeats 4000000
open Go.Nt
open Go.Pz
open Go.Mz
theorem wh {n:Int}:Ctr Tryz.prog 50 [isI n] (isB (decide (0≤n)&&decide (n≤64))):=by
 refine Ctr.i Tryz.func50 rfl Tryz.ntmps50 fun w0 F0=>.w [0] rfl (.fact (Has.rngI (Has.t (t:=0) rfl)) fun lt0=>.sr fun k1=>st (.as (.cB false)) rfl (nkQ k1 (.sr fun k2=>stM rfl (st (.geI (.t rfl) (.cI 0 rfl)) rfl (stM rfl (stT rfl rfl (fun hg=>.mv (.t rfl)) rfl (stT rfl rfl (fun hg=>.leI (Has.g rfl hg) (.cI 64 rfl)) rfl (st (.pickAnd (.t rfl) (fun h=>Has.g rfl h)) rfl (stM rfl (nkQ k2 (.w [2] rfl (.ret (rt1 (.inl rfl) Tryz.results50 rfl (.tmp (Has.t' rfl ?_) .nil))))))))))))))
 all_goals (rfl)
theorem qO {r c:Int} {xs:List (Bool×List Nat)}:Ctr Tryz.prog 56 [isM r c xs] (isB (xc r c xs.length)):=by
 refine Ctr.i Tryz.func56 rfl Tryz.ntmps56 fun w0 F0=>.w [0] rfl (.sr fun k1=>.box (.t rfl) rfl fun b1=>st (.as (.cB false)) rfl (nkQ k1 (.sr fun k2=>st (.fieldAddr (.t rfl) zY ty3) rfl (st (.load1 (.t rfl) (i:=0) rfl ty3 rfl) rfl (st (.call (wh) (.cons (.t rfl) .nil)) rfl (stM rfl (stT rfl rfl (fun hg=>.fieldAddr (.t rfl) zo ty3) rfl (stT rfl rfl (fun hg=>.load1 (Has.g rfl hg) (i:=0) rfl ty3 rfl) rfl (stT rfl rfl (fun hg=>.call (wh) (.cons (Has.g rfl hg) .nil)) rfl (st (.pickAnd (.t rfl) (fun h=>Has.g rfl h)) rfl (stM rfl (stT rfl rfl (fun hg=>.fieldAddr (.t rfl) qU zP) rfl (stT rfl rfl (fun hg=>.load1 (Has.g rfl hg) (i:=0) rfl zP rfl) rfl (stT rfl rfl (fun hg=>.len zz (Has.g rfl hg)) rfl (stT rfl rfl (fun hg=>.fieldAddr (.t rfl) zY ty3) rfl (stT rfl rfl (fun hg=>.load1 (Has.g rfl hg) (i:=0) rfl ty3 rfl) rfl (stT rfl rfl (fun hg=>.fieldAddr (.t rfl) zo ty3) rfl (stT rfl rfl (fun hg=>.load1 (Has.g rfl hg) (i:=0) rfl ty3 rfl) rfl ?_))))))))))))))))))
 refine stT rfl rfl (fun hg=>have hg':=BP.t hg;OK1.mulI (Has.g rfl hg) (Has.g rfl hg) (by have:=ez ⟨hg'.1,hg'.2⟩;omega) (by have:=ez ⟨hg'.1,hg'.2⟩;omega)) rfl ?_
 refine stT rfl rfl (fun hg=>.eqI (Has.g rfl hg) (Has.g rfl hg)) rfl (st (.pickAnd (.t rfl) (fun h=>Has.g rfl h)) rfl (stM rfl (nkQ k2 (.w [2] rfl (.ret (rt1 (.inl rfl) Tryz.results56 rfl (.tmp (Has.t' rfl ?_) .nil)))))))
 all_goals (rfl)
theorem jl {r:Int} {C i k:Nat} {xs:List (Bool×List Nat)} (hx:xs.length≤4096) (hl:i*C+k<xs.length):Ctr Tryz.prog 58 [isM r (C:Int) xs,isI (i:Int),isI (k:Int)] (zk (zc (xs.getD (i*C+k) (false,[])))):=by
 refine Ctr.i Tryz.func58 rfl Tryz.ntmps58 fun w0 F0=>.w [0,1,2] rfl (.fact (Has.rngI (Has.t (t:=1) rfl)) fun lt1=>.fact (Has.rngI (Has.t (t:=2) rfl)) fun lt2=>?_)
 have hcp:((i:Int)*(C:Int))=((i*C:Nat):Int):=(Int.natCast_mul i C).symm
 refine .sr fun k1=>.box (.t rfl) rfl fun b1=>.alloc [isB false,SlM isU []] zK (fun _ _=>⟨rfl,nilM _ _,trivial⟩) rfl fun b2=>nkQ k1 (.sr fun k2=>st (.fieldAddr (.t rfl) qU zP) rfl (st (.load1 (.t rfl) (i:=1) rfl zP rfl) rfl (stM rfl (st (.fieldAddr (.t rfl) zo ty3) rfl (st (.load1 (.t rfl) (i:=1) rfl ty3 rfl) rfl (st (.eq (.mulI (.t rfl) (.t rfl) (by omega) (by omega)) ((show isI _=isI ((i*C:Nat):Int) from zF hcp))) rfl (stM rfl (st (.eq (.addI (.t rfl) (.t rfl) (by omega) (by omega)) ((show isI _=isI ((i*C+k:Nat):Int) from zF (by omega)))) rfl (st (.ixK zz zE (.t rfl) (.t rfl) zN (by omega) (getD_some (d:=(false,[])) (by omega))) rfl (st (.loadP (.t rfl) zE rfl (Ss':=[_,_]) rfl) rfl (.store (.t rfl) (.t rfl) (i:=0) rfl zE rfl rfl (Ss':=[_,_]) rfl (M':=[(some _,zC [_,_]),_]) rfl (nkQ k2 (.w [6] rfl (.ret (rt1 (.inl rfl) Tryz.results58 rfl (.cell rfl (i:=0) rfl zE rfl ?_ .nil))))))))))))))))
 all_goals (rfl)
theorem tu {r c i:Int} {xs:List (Bool×List Nat)}:Ctr Tryz.prog 57 [isM r c xs,isI i] (isB (decide (0≤i)&&decide (i<r))):=by
 refine Ctr.i Tryz.func57 rfl Tryz.ntmps57 fun w0 F0=>.w [0,1] rfl (.fact (Has.rngI (Has.t (t:=1) rfl)) fun lt1=>.sr fun k1=>.box (.t rfl) rfl fun b1=>st (.as (.cB false)) rfl (nkQ k1 (.sr fun k2=>stM rfl (st (.geI (.t rfl) (.cI 0 rfl)) rfl (stM rfl (stT rfl rfl (fun hg=>.mv (.t rfl)) rfl (stT rfl rfl (fun hg=>.fieldAddr (.t rfl) zY ty3) rfl (stT rfl rfl (fun hg=>.load1 (Has.g rfl hg) (i:=0) rfl ty3 rfl) rfl (stT rfl rfl (fun hg=>.ltI (Has.g rfl hg) (Has.g rfl hg)) rfl (st (.pickAnd (.t rfl) (fun h=>Has.g rfl h)) rfl (stM rfl (nkQ k2 (.w [4] rfl (.ret (rt1 (.inl rfl) Tryz.results57 rfl (.tmp (Has.t' rfl ?_) .nil))))))))))))))))
 all_goals (rfl)
theorem wi {R C:Nat} {f:Nat→Nat→Bool×List Nat} (hR:R≤64) (hC:C≤64) (hf:∀i k,i<R→k<C→(List.length (zA (val (f i k).2)))≤4294967296):Ctr Tryz.prog 51 [isI (R:Int),isI (C:Int),isAt Tryz.prog R C f] (xW R C (tab (R*C) C fun i k=>zv (f i k).1 (f i k).2)):=by
 refine Ctr.i Tryz.func51 rfl Tryz.ntmps51 fun w0 F0=>.w [0,1,2] rfl (.fact (Has.rngI (Has.t (t:=0) rfl)) fun lt0=>.fact (Has.rngI (Has.t (t:=1) rfl)) fun lt1=>?_)
 have hRC:=qT hR hC
 obtain⟨G,hG⟩:∃G:Nat→Nat→Int,G=fun i k=>zv (f i k).1 (f i k).2:=⟨_,rfl⟩
 rw[←hG]
 refine .sr fun k1=>.alloc [isI 0,isI 0,zi] zX (fun _ _=>⟨⟨rfl,by decide,by decide⟩,⟨rfl,by decide,by decide⟩,rfl,trivial⟩) rfl fun b1=>nkQ k1 (.sr fun k2=>stM rfl (stM rfl (st (.build [isI 0,isI 0,zi] bx zX (fun _ _=>⟨⟨rfl,by decide,by decide⟩,⟨rfl,by decide,by decide⟩,rfl,trivial⟩) (.cons (.t rfl) rfl rfl rfl (.cons (.t rfl) rfl rfl rfl .nil)) (Z'':=[_,_,_]) rfl) rfl (.alloc [isI 0,isI 0,zi] zX (fun _ _=>⟨⟨rfl,by decide,by decide⟩,⟨rfl,by decide,by decide⟩,rfl,trivial⟩) rfl fun b2=>.store (.t rfl) (.t rfl) (i:=0) rfl zL rfl rfl (Ss':=[_,_,_]) rfl (M':=[(some _,zC [_,_,_]),_]) rfl (nkQ k2 (.sq fun k3=>.sq fun k4=>.cv (Cv.growF (Bool×List Nat) (i:=0) (o:=2) rfl rfl rfl) (.memEq (M':=[zj zc Gr.nil [],_,_]) rfl (.region (stM rfl (st (.mv (.cI 0 rfl)) rfl (nkQ k4 (.block (.loopF [1,2,6,7,14] (fun (z:{ z:Nat×Gr (Bool×List Nat)//z.1≤R })=>match z with|⟨(i,g),hI⟩=>[(15,isI (i:Int))]) (fun M=>fun (z:{ z:Nat×Gr (Bool×List Nat)//z.1≤R })=>match z with|⟨(i,g),hI⟩=>[zj zc g ((tab (i*C+0) C G).map nz),(some b2,zC [isI (R:Int),isI (C:Int),ze g ((tab (i*C+0) C G).map nz).length]),(some b1,zC [isI 0,isI 0,zi])]) (fun (z:{ z:Nat×Gr (Bool×List Nat)//z.1≤R })=>match z with|⟨(i,g),hI⟩=>R-i) (⟨(0,Gr.nil),Nat.zero_le _⟩) (Cv.mem (.c 15 rfl ?_ (.l [1,2,6,7,14] rfl)) ?_) ?_)))))))))))))
 ·rfl
 ·exact lS (n:=0) (ys:=[]) (by rw[List.length_map,qi,Nat.zero_mul]) (show []=(tab (0*C+0) C G).map nz by rw[Nat.zero_mul];rfl)
 rintro⟨⟨i,g⟩,hI⟩ K5 hK5
 refine .w [15,1,2,6,7,14] rfl (.memEq (M':=[zj zc g ((tab (i*C+0) C G).map nz),(some b2,zC [isI (R:Int),isI (C:Int),ze g ((tab (i*C+0) C G).map nz).length]),(some b1,zC [isI 0,isI 0,zi])]) rfl ?_)
 simp only[] at hI
 refine .sr fun k6=>st (.ltI (.t rfl) (.t rfl)) rfl (nkQ k6 (.sq fun k7=>.cd rfl (fun hc1=>?_) (fun hc1=>?_)))
 ·refine .skip (.nk k7 (.sq fun k8=>.block (.sr fun k9=>stM rfl (stM rfl (nkQ k9 (.sr fun k10=>stM rfl (st (.mv (.cI 0 rfl)) rfl (nkQ k10 (.block (.loopF [1,2,6,7,14,15,16,17,8,18] (fun (z:{ z:Nat×Gr (Bool×List Nat)//z.1≤C })=>match z with|⟨(k,g2),hK⟩=>[(19,isI (k:Int))]) (fun M=>fun (z:{ z:Nat×Gr (Bool×List Nat)//z.1≤C })=>match z with|⟨(k,g2),hK⟩=>[zj zc g2 ((tab (i*C+k) C G).map nz),(some b2,zC [isI (R:Int),isI (C:Int),ze g2 ((tab (i*C+k) C G).map nz).length]),(some b1,zC [isI 0,isI 0,zi])]) (fun (z:{ z:Nat×Gr (Bool×List Nat)//z.1≤C })=>match z with|⟨(k,g2),hK⟩=>C-k) (⟨(0,g),Nat.zero_le _⟩) (Cv.mem (.c 19 rfl ?_ (.l [1,2,6,7,14,15,16,17,8,18] rfl)) ?_) ?_))))))))))
  ·rfl
  ·rfl
  rintro⟨⟨k,g2⟩,hK⟩ K11 hK11
  refine .w [19,1,2,6,7,14,15,16,17,8,18] rfl (.memEq (M':=[zj zc g2 ((tab (i*C+k) C G).map nz),(some b2,zC [isI (R:Int),isI (C:Int),ze g2 ((tab (i*C+k) C G).map nz).length]),(some b1,zC [isI 0,isI 0,zi])]) rfl ?_)
  simp only[] at hK
  refine .sr fun k12=>st (.ltI (.t rfl) (.t rfl)) rfl (nkQ k12 (.sq fun k13=>.cd rfl (fun hc2=>?_) (fun hc2=>?_)))
  ·refine .skip (.nk k13 (.sq fun k14=>.block (.sr fun k15=>stM rfl (stM rfl (nkQ k15 (.sr fun k16=>stM rfl (stM rfl (stM rfl (st (.callV ⟨(i,k),by omega,by omega⟩ (.t rfl) (.cons (.t rfl) (.cons (.t rfl) .nil))) rfl (.alloc [isB false,SlM isU []] zK (fun _ _=>⟨rfl,nilM _ _,trivial⟩) rfl fun b3=>.store (.t rfl) (.t rfl) (i:=0) rfl zE rfl rfl (Ss':=[_,_]) rfl (M':=[(some _,zC [_,_]),_,_,_]) rfl (nkQ k16 (.dr (.so [] rfl (.fieldAddr (.t rfl) qU zP) (.so [26] rfl (.load1 (.t rfl) (i:=2) rfl zP rfl) (.so [] rfl (.fieldAddr (.t rfl) qM qc) (.so [28] rfl (.load1 (.t rfl) (i:=0) rfl qc rfl) (.so [] rfl (.fieldAddr (.t rfl) xL ty4) (.so [30] rfl (.load1 (.t rfl) (i:=0) rfl ty4 rfl) (.so [29,31] rfl (.eq (.call (qq (hf i k (by omega) (by omega))) (.cons (.t rfl) (.cons (.t rfl) .nil))) ((show isZ _=zk (zc (nz (G i k))) from zO (by rw[hG])))) (.so [32] rfl (.buildS [isB false,SlM isU []] zz zE zK (fun _ _=>⟨rfl,nilM _ _,trivial⟩) rfl rfl (.cons (.t rfl) rfl rfl rfl .nil) rfl (S:=SlK 2 zc [nz (G i k)]) rfl) (.fn (n:=8) zW (.w [1,2,6,7,14,15,16,17,8,18,19,20,21,9,22,23,24,25,10,26,27,28,29,30,31,32,33] rfl (.appendGK (fk:=zc) (u:=(false,[])) zN (by decide) (fun _=>inferInstance) zz zE zK (fun _ _=>⟨rfl,nilM _ _,trivial⟩) cT (.t rfl) (i:=1) rfl (.t rfl) (by have hpl:=zt (show i<R by omega) (show k<C by omega);rw[List.length_map,qi];show i*C+k+1≤_;omega) (by simp) rfl fun gr1=>?_)))))))))))))))))))))))
   refine .memEq (M':=[_,zj _ _ _,_,_]) rfl (st (.fieldAddr (.t rfl) qU zP) rfl (.store (.t rfl) (.t rfl) (i:=2) rfl zP rfl rfl (Ss':=[_,_,_]) rfl (M':=[_,_,(some _,zC [_,_,_]),_]) rfl (nl (.bln (.nk k14 (.region (st (.addI (.t rfl) (.cI 1 rfl) (by omega) (by omega)) rfl (stM rfl (nl (.thn ?_))))))))))
   have hpl:=zt (show i<R by omega) (show k<C by omega)
   refine hK11 (⟨(k+1,gr1),by show k+1≤C;omega⟩) _ _ ?_ (Cv.trans (Cv.drop ((.cons _ (.cons_cons _ (.cons_cons _ (.cons_cons _ .slnil)))))) (Cv.mem (.c 19 rfl ?_ (.l [1,2,6,7,14,15,16,17,8,18] rfl)) ?_))
   ·show C-(k+1)<C-k;omega
   ·exact zF (by omega)
   ·exact lS (by rw[←ao G (show k<C by omega),List.map_append,List.length_append];rfl) (by rw[←ao G (show k<C by omega),List.map_append];rfl)
  ·refine .exit (.the (.the (.blh (.bln (.nk k8 (.region (st (.addI (.t rfl) (.cI 1 rfl) (by omega) (by omega)) rfl (stM rfl (nl (.thn ?_))))))))))
   have hkC:k=C:=by omega
   subst hkC
   refine hK5 (⟨(i+1,g2),by show i+1≤R;omega⟩) _ _ ?_ (Cv.mem (.c 15 rfl ?_ (.l [1,2,6,7,14] rfl)) ?_)
   ·show R-(i+1)<R-i;omega
   ·exact zF (by omega)
   ·exact lS (by rw[ap]) (by rw[ap])
 ·refine .exit (.the (.the (.blh (.nk k3 (.w [6,7] rfl (.sq fun k17=>.cv (Cv.freezeF (k:=2) (i:=0) (j:=0) (o:=2) rfl rfl rfl rfl (aT zN) (wB zN) (Ss':=[_,_,SlK 2 zc ((tab (i*C+0) C G).map nz)]) rfl) (.memEq (M':=[(some _,zC [_,_,SlK 2 zc ((tab (i*C+0) C G).map nz)]),_]) rfl (.w [6,7] rfl (.region (st (.load (.t rfl) (i:=0) rfl zL rfl (Ss':=[_,_,_]) rfl) rfl (.store (.t rfl) (.t rfl) (i:=1) rfl zL rfl rfl (Ss':=[_,_,_]) rfl (M':=[_,(some _,zC [_,_,_])]) rfl (nkQ k17 (.ret (rt1 (.inl rfl) Tryz.results51 rfl (.cell rfl (i:=1) rfl zL rfl ?_ .nil)))))))))))))))
  all_goals (rw[Nat.add_zero,show i=R by omega])
theorem sU {C i k:Nat} {l:List Int} (hx:l.length≤4096) (hl:i*C+k<l.length):Ctr Tryz.prog 52 [isI (i:Int),isI (k:Int),aZ [SlM isI l],aZ [isI (C:Int)]] (isZ (cf l (i*C+k))):=by
 refine Ctr.i Tryz.func52 rfl Tryz.ntmps52 fun w0 F0=>.w [0,1,2,3] rfl (.fact (Has.rngI (Has.t (t:=0) rfl)) fun lt0=>.fact (Has.rngI (Has.t (t:=1) rfl)) fun lt1=>?_)
 have hcp:((i:Int)*(C:Int))=((i*C:Nat):Int):=(Int.natCast_mul i C).symm
 refine .sr fun k1=>.alloc [isB false,SlM isU []] zK (fun _ _=>⟨rfl,nilM _ _,trivial⟩) rfl fun b1=>nkQ k1 (.sr fun k2=>st (.loadP1 (.t rfl) ty77) rfl (stM rfl (st (.loadP1 (.t rfl) ty3) rfl (st (.eq (.mulI (.t rfl) (.t rfl) (by omega) (by omega)) ((show isI _=isI ((i*C:Nat):Int) from zF hcp))) rfl (stM rfl (st (.eq (.addI (.t rfl) (.t rfl) (by omega) (by omega)) ((show isI _=isI ((i*C+k:Nat):Int) from zF (by omega)))) rfl (st (.ixP zHL ty2 (.t rfl) (.t rfl) (by omega) (getD_some (d:=0) (by omega))) rfl (st (.loadP1 (.t rfl) ty2) rfl (st (.call (xC) (.cons (.t rfl) .nil)) rfl (.store (.t rfl) (.t rfl) (i:=0) rfl zE rfl rfl (Ss':=[_,_]) rfl (M':=[(some _,zC [_,_])]) rfl (nkQ k2 (.w [6] rfl (.ret (rt1 (.inl rfl) Tryz.results52 rfl (.cell rfl (i:=0) rfl zE rfl ?_ .nil)))))))))))))))
 all_goals (rfl)
theorem zCH {R C:Nat} {l:List Int} (hR:R≤64) (hC:C≤64) (hl:l.length=R*C) (hb:∀y∈l,-9223372036854775808≤y∧y<9223372036854775808):Ctr Tryz.prog 19 [isI (R:Int),isI (C:Int),SlM isI l] (zZ [xW R C (tab (R*C) C fun i k=>cf l (i*C+k)),isI 0]):=by
 refine Ctr.i Tryz.func19 rfl Tryz.ntmps19 fun w0 F0=>.w [0,1,2] rfl (.fact (Has.rngI (Has.t (t:=0) rfl)) fun lt0=>.fact (Has.rngI (Has.t (t:=1) rfl)) fun lt1=>.fact (Has.lenLt (Has.t (t:=2) rfl)) fun lt2=>?_)
 have hRC:=qT hR hC
 have hcp:((R:Int)*(C:Int))=((R*C:Nat):Int):=(Int.natCast_mul R C).symm
 refine .sr fun k1=>.box (.t rfl) rfl fun b1=>.box (.t rfl) rfl fun b2=>.alloc [isI 0,isI 0,zi] zX (fun _ _=>⟨⟨rfl,by decide,by decide⟩,⟨rfl,by decide,by decide⟩,rfl,trivial⟩) rfl fun b3=>st (.as (.cI 0 rfl)) rfl (nkQ k1 (.sq fun k2=>.block (.sr fun k3=>stM rfl (st (.call (wh) (.cons (.t rfl) .nil)) rfl (st (.not (.t rfl)) rfl (stM rfl (stF rfl rfl (fun hg=>.load1 (.t rfl) (i:=2) rfl ty3 rfl) rfl (stF rfl rfl (fun hg=>.call (wh) (.cons (Has.g rfl hg) .nil)) rfl (stF rfl rfl (fun hg=>.not (Has.g rfl hg)) rfl (st (.pickOr (.t rfl) (fun h=>Has.g rfl (ng h))) rfl (stM rfl (nkQ k3 (.w [0,4,5,6,7,8] rfl (.cd rfl (fun hc1=>?_) (fun hc1=>?_)))))))))))))))
 ·omega
 ·refine .sr fun k4=>st (.load1 (.t rfl) (i:=1) rfl ty77 rfl) rfl (st (.len zHL (.t rfl)) rfl (stM rfl (st (.load1 (.t rfl) (i:=2) rfl ty3 rfl) rfl (st (.mulI (.t rfl) (.t rfl) (by rw[hcp];omega) (by rw[hcp];omega)) rfl ?_))))
  refine st (.neI (.t rfl) (.t rfl)) rfl (stM rfl (nkQ k4 (.w [0,4,5,6,7,18] rfl (.cd rfl (fun hc2=>?_) (fun hc2=>?_)))))
  ·rw[hcp] at hc2;omega
  ·refine .skip (.bln (.nk k2 (.sr fun k5=>stM rfl (st (.load1 (.t rfl) (i:=2) rfl ty3 rfl) rfl (.cv (Cv.freezeBox (t:=5) (i:=1) rfl rfl rfl) (.memEq (M':=[_,_]) rfl (.w [0,4,5,6,7,18,26,27] rfl (.cv (Cv.freezeBox (t:=4) (i:=1) rfl rfl rfl) (.memEq (M':=[_]) rfl (.w [0,4,5,6,7,18,26,27] rfl (st (.makeFn (ι:=PI R C) (As:=fun p=>[isI (p.1.1:Int),isI (p.1.2:Int)]) (R:=fun p=>zk (zc (nz (cf l (p.1.1*C+p.1.2))))) (fun p=>sU (by omega) (by rw[hl];exact zt p.2.1 p.2.2)) .nil (.cons (.t rfl) (.cons (.t rfl) .nil))) rfl ?_)))))))))))
   refine st (.call (wi (f:=fun i k=>nz (cf l (i*C+k))) hR hC (fun i k _ _=>by rw[zB];exact Nat.le_trans (bd64 hb _) (by decide))) (.cons (.t rfl) (.cons (.t rfl) (.cons (.t rfl) .nil)))) rfl ?_
   refine .store (.t rfl) (.t rfl) (i:=0) rfl zL rfl rfl (Ss':=[_,_,_]) rfl (M':=[(some _,zC [_,_,_])]) rfl (st (.as (.cI 0 rfl)) rfl (nkQ k5 (.w [6,7] rfl (.ret (rtN (.inl rfl) Tryz.results19 rfl rfl (.cell rfl (i:=0) rfl zL rfl ?_ (.tmp (Has.t' rfl ?_) .nil)))))))
   ·exact bi (by rw[zvz fun i k=>cf l (i*C+k)])
   ·rfl
theorem cY {R C i k:Nat} {xs:List (Bool×List Nat)} {K:Nat} (hx:Bd (zG xs) K) (hK:K≤4000000000) (hR:R≤64) (hC:C≤64) (hl:xs.length=R*C) (hi:i<R) (hk:k<C):Ctr Tryz.prog 22 [isM (R:Int) (C:Int) xs,isI (i:Int),isI (k:Int)] (isZ (cf (zG xs) (i*C+k))):=by
 refine Ctr.i Tryz.func22 rfl Tryz.ntmps22 fun w0 F0=>.w [0,1,2] rfl (.fact (Has.rngI (Has.t (t:=1) rfl)) fun lt1=>.fact (Has.rngI (Has.t (t:=2) rfl)) fun lt2=>?_)
 have hRC:=qT hR hC
 have hpl:=zt hi hk
 have hfo:=qK hR hC hl
 have hxr:=hx.raw (i*C+k)
 refine .sr fun k1=>.box (.t rfl) rfl fun b1=>.alloc [isB false,SlM isU []] zK (fun _ _=>⟨rfl,nilM _ _,trivial⟩) rfl fun b2=>nkQ k1 (.sq fun k2=>.sr fun k3=>st (.load (.t rfl) (i:=1) rfl zL rfl (Ss':=[_,_,_]) rfl) rfl (st (.eq (.call (qO) (.cons (.t rfl) .nil)) ((show isB _=isB true from zl hfo))) rfl (st (.not (.t rfl)) rfl (stM rfl (stF rfl rfl (fun hg=>.load (.t rfl) (i:=1) rfl zL rfl (Ss':=[_,_,_]) rfl) rfl (stF rfl rfl (fun hg=>.mv (.t rfl)) rfl (stF rfl rfl (fun hg=>.call (tu) (.cons (Has.g rfl hg) (.cons (Has.g rfl hg) .nil))) rfl (stF rfl rfl (fun hg=>.not (Has.g rfl hg)) rfl (st (.pickOr (.t rfl) (fun h=>Has.g rfl (ng h))) rfl (stM rfl (stF rfl rfl (fun hg=>.mv (.t rfl)) rfl (stF rfl rfl (fun hg=>.ltI (Has.g rfl hg) (.cI 0 rfl)) rfl (st (.pickOr (.t rfl) (fun h=>Has.g rfl (ng h))) rfl (stM rfl (stF rfl rfl (fun hg=>.mv (.t rfl)) rfl (stF rfl rfl (fun hg=>.fieldAddr (.t rfl) zo ty3) rfl (stF rfl rfl (fun hg=>.load1 (Has.g rfl hg) (i:=1) rfl ty3 rfl) rfl (stF rfl rfl (fun hg=>.geI (Has.g rfl hg) (Has.g rfl hg)) rfl (st (.pickOr (.t rfl) (fun h=>Has.g rfl (ng h))) rfl (nkQ k3 (.w [1,2,3,6,26] rfl ?_)))))))))))))))))))))
 refine .cd rfl (fun hc1=>?_) (fun hc1=>?_)
 ·simp at hc1;omega
 ·refine .skip (.nk k2 (.sr fun k4=>st (.load (.t rfl) (i:=1) rfl zL rfl (Ss':=[_,_,_]) rfl) rfl (stM rfl (stM rfl (st (.call (jl (i:=i) (k:=k) (by omega) (by omega)) (.cons (.t rfl) (.cons (.t rfl) (.cons (.t rfl) .nil)))) rfl (.alloc [isB false,SlM isU []] zK (fun _ _=>⟨rfl,nilM _ _,trivial⟩) rfl fun b3=>.store (.t rfl) (.t rfl) (i:=0) rfl zE rfl rfl (Ss':=[_,_]) rfl (M':=[(some _,zC [_,_]),_,_]) rfl (nkQ k4 (.w [6,7] rfl (.sr fun k5=>st (.fieldAddr (.t rfl) qM qc) rfl (st (.load1 (.t rfl) (i:=0) rfl qc rfl) rfl (st (.fieldAddr (.t rfl) xL ty4) rfl (st (.load1 (.t rfl) (i:=0) rfl ty4 rfl) rfl (st (.call (qq (by omega)) (.cons (.t rfl) (.cons (.t rfl) .nil))) rfl (.store (.t rfl) (.t rfl) (i:=1) rfl zE rfl rfl (Ss':=[_,_]) rfl (M':=[_,(some _,zC [_,_]),_]) rfl (nkQ k5 (.w [6] rfl (.ret (rt1 (.inl rfl) Tryz.results22 rfl (.cell rfl (i:=1) rfl zE rfl ?_ .nil)))))))))))))))))))
  all_goals (exact zO (by rw[qb]))
theorem nv {R C D i k K L:Nat} {xs ys:List (Bool×List Nat)} (hx:Bd (zG xs) K) (hy:Bd (zG ys) L) (hK:K+L≤400000000) (hC:C≤64) (hxl:xs.length=R*C) (hyl:ys.length=C*D) (hxm:xs.length≤4096) (hym:ys.length≤4096) (hi:i<R) (hk:k<D):Ctr Tryz.prog 67 [isI (i:Int),isI (k:Int),ptM (R:Int) (C:Int) xs,ptM (C:Int) (D:Int) ys] (isZ (vI (fun j=>cf (zG xs) (i*C+j)) (fun j=>cf (zG ys) (j*D+k)) C)):=by
 refine Ctr.i Tryz.func67 rfl Tryz.ntmps67 fun w0 F0=>.w [0,1,2,3] rfl (.fact (Has.rngI (Has.t (t:=0) rfl)) fun lt0=>.fact (Has.rngI (Has.t (t:=1) rfl)) fun lt1=>?_)
 obtain⟨f,hf⟩:∃f:Nat→Int,f=fun j=>cf (zG xs) (i*C+j):=⟨_,rfl⟩
 obtain⟨g,hg⟩:∃g:Nat→Int,g=fun j=>cf (zG ys) (j*D+k):=⟨_,rfl⟩
 rw[←hf,←hg]
 refine .sr fun k1=>.alloc [isB false,SlM isU []] zK (fun _ _=>⟨rfl,nilM _ _,trivial⟩) rfl fun b1=>nkQ k1 (.sr fun k2=>.alloc [isB false,SlM isU []] zK (fun _ _=>⟨rfl,nilM _ _,trivial⟩) rfl fun b2=>nkQ k2 (.sq fun k3=>.sr fun k4=>st (.fieldAddrP (.t rfl) zo ty3 (Ss':=[_,_]) rfl) rfl (st (.loadP1 (.t rfl) ty3) rfl (st (.mv (.cI 0 rfl)) rfl (nkQ k4 (.block (.loopF [0,1,2,3,6,7,10] (fun (z:{ j:Nat//j≤C })=>match z with|⟨j,hj⟩=>[(11,isI (j:Int))]) (fun M=>fun (z:{ j:Nat//j≤C })=>match z with|⟨j,hj⟩=>[zM b2 (vI f g j),(some b1,zC [isB false,SlM isU []])]) (fun (z:{ j:Nat//j≤C })=>match z with|⟨j,hj⟩=>C-j) (⟨0,Nat.zero_le _⟩) (Cv.mem (.c 11 rfl ?_ (.l [0,1,2,3,6,7,10] rfl)) ?_) ?_)))))))
 ·rfl
 ·exact zM0
 rintro⟨j,hj⟩ K5 hK5
 refine .w [11,0,1,2,3,6,7,10] rfl (.memEq (M':=[zM b2 (vI f g j),(some b1,zC [isB false,SlM isU []])]) rfl ?_)
 have hds:=jC (f:=f) (g:=g) (K:=K) (L:=L) (fun j=>by rw[hf];exact hx _) (fun j=>by rw[hg];exact hy _) j
 refine .sr fun k6=>st (.ltI (.t rfl) (.t rfl)) rfl (nkQ k6 (.sq fun k7=>.cd rfl (fun hc1=>?_) (fun hc1=>?_)))
 ·have hj2:j<C:=(by omega)
  have hp1:=zt hi hj2
  have hp2:=zt hj2 hk
  have hxr:=hx.raw (i*C+j)
  have hyr:=hy.raw (j*D+k)
  have hfj:f j=cf (zG xs) (i*C+j):=by rw[hf]
  have hgj:g j=cf (zG ys) (j*D+k):=by rw[hg]
  have hfk:=hx (i*C+j)
  have hgk:=hy (j*D+k)
  have hmm:=qA (f j) (g j)
  rw[←hfj] at hfk
  rw[←hgj] at hgk
  refine .skip (.nk k7 (.sq fun k8=>.block (.sr fun k9=>stM rfl (stM rfl (nkQ k9 (.dr (.so [] rfl (.load (.t rfl) (i:=0) rfl zE rfl (Ss':=[_,_]) rfl) (.so [] rfl (.loadP (.t rfl) zL rfl (Ss':=[_,_,_]) rfl) (.m [] rfl (.m [] rfl (.so [15,16,17] rfl (.call (jl (i:=i) (k:=j) hxm (by omega)) (.cons (.t rfl) (.cons (.t rfl) (.cons (.t rfl) .nil)))) (.so [] rfl (.loadP (.t rfl) zL rfl (Ss':=[_,_,_]) rfl) (.m [] rfl (.m [] rfl (.so [19,20,21] rfl (.call (jl (i:=j) (k:=k) hym (by omega)) (.cons (.t rfl) (.cons (.t rfl) (.cons (.t rfl) .nil)))) (.so [18,22] rfl (.eq (.call (qE (by omega) (by omega)) (.cons (.t rfl) (.cons (.t rfl) .nil))) ((show isZ _=isZ (f j*g j) from zO (by rw[hfj,hgj,qb,qb])))) (.fn (n:=10) zW (.w [0,1,2,3,6,7,10,11,12,13,8,14,15,16,17,18,19,20,21,22,23] rfl (st (.eq (.call (qz (by rw[zB];omega) (by rw[zB];omega)) (.cons (.t rfl) (.cons (.t rfl) .nil))) ((show isZ _=isZ (vI f g j+f j*g j) from zO (by simp only[zH])))) rfl ?_)))))))))))))))))))
  refine .store (.t rfl) (.t rfl) (i:=0) rfl zE rfl rfl (Ss':=[_,_]) rfl (M':=[(some _,zC [_,_]),_]) rfl (nl (.bln (.nk k8 (.region (st (.addI (.t rfl) (.cI 1 rfl) (by omega) (by omega)) rfl (stM rfl (nl (.thn (hK5 (⟨j+1,by omega⟩) _ _ ?_ (Cv.mem (.c 11 rfl ?_ (.l [0,1,2,3,6,7,10] rfl)) ?_))))))))))
  ·show C-(j+1)<C-j;omega
  ·exact zF (by omega)
  ·rfl
 ·refine .exit (.the (.the (.blh (.nk k3 (.w [6,7] rfl (.sr fun k10=>st (.load (.t rfl) (i:=0) rfl zE rfl (Ss':=[_,_]) rfl) rfl (.store (.t rfl) (.t rfl) (i:=1) rfl zE rfl rfl (Ss':=[_,_]) rfl (M':=[_,(some _,zC [_,_])]) rfl (nkQ k10 (.ret (rt1 (.inl rfl) Tryz.results67 rfl (.cell rfl (i:=1) rfl zE rfl ?_ .nil)))))))))))
  all_goals (exact zO (by rw[show j=C by omega]))
theorem fS {R C D K L:Nat} {xs ys:List (Bool×List Nat)} (hx:Bd (zG xs) K) (hy:Bd (zG ys) L) (hK:K+L≤400000000) (hR:R≤64) (hC:C≤64) (hD:D≤64) (hxl:xs.length=R*C) (hyl:ys.length=C*D):Ctr Tryz.prog 30 [isM (R:Int) (C:Int) xs,isM (C:Int) (D:Int) ys] (zZ [xW R D (tab (R*D) D fun i k=>vI (fun j=>cf (zG xs) (i*C+j)) (fun j=>cf (zG ys) (j*D+k)) C),isI 0]):=by
 refine Ctr.i Tryz.func30 rfl Tryz.ntmps30 fun w0 F0=>.w [0,1] rfl ?_
 have h1:=qT hR hC
 have h2:=qT hC hD
 have hf1:=qK hR hC hxl
 have hf2:=qK hC hD hyl
 refine .sr fun k1=>.box (.t rfl) rfl fun b1=>.box (.t rfl) rfl fun b2=>.alloc [isI 0,isI 0,zi] zX (fun _ _=>⟨⟨rfl,by decide,by decide⟩,⟨rfl,by decide,by decide⟩,rfl,trivial⟩) rfl fun b3=>st (.as (.cI 0 rfl)) rfl (nkQ k1 (.sq fun k2=>.sr fun k3=>st (.load (.t rfl) (i:=2) rfl zL rfl (Ss':=[_,_,_]) rfl) rfl (st (.eq (.call (qO) (.cons (.t rfl) .nil)) ((show isB _=isB true from zl hf1))) rfl (st (.not (.t rfl)) rfl (stM rfl (stF rfl rfl (fun hg=>.load (.t rfl) (i:=1) rfl zL rfl (Ss':=[_,_,_]) rfl) rfl (stF rfl rfl (fun hg=>.eq (.call (qO) (.cons (Has.g rfl hg) .nil)) ((show isB _=isB true from zl hf2))) rfl (stF rfl rfl (fun hg=>.not (Has.g rfl hg)) rfl (st (.pickOr (.t rfl) (fun h=>Has.g rfl (ng h))) rfl (stM rfl (stF rfl rfl (fun hg=>.fieldAddr (.t rfl) zo ty3) rfl (stF rfl rfl (fun hg=>.load1 (Has.g rfl hg) (i:=2) rfl ty3 rfl) rfl (stF rfl rfl (fun hg=>.fieldAddr (.t rfl) zY ty3) rfl (stF rfl rfl (fun hg=>.load1 (Has.g rfl hg) (i:=1) rfl ty3 rfl) rfl (stF rfl rfl (fun hg=>.neI (Has.g rfl hg) (Has.g rfl hg)) rfl (st (.pickOr (.t rfl) (fun h=>Has.g rfl (ng h))) rfl (nkQ k3 (.w [2,3,4,5,20] rfl (.cd rfl (fun hc1=>?_) (fun hc1=>?_))))))))))))))))))))
 ·simp at hc1
 ·refine .skip (.nk k2 (.sr fun k4=>st (.fieldAddr (.t rfl) zY ty3) rfl (st (.load1 (.t rfl) (i:=2) rfl ty3 rfl) rfl (st (.fieldAddr (.t rfl) zo ty3) rfl (st (.load1 (.t rfl) (i:=1) rfl ty3 rfl) rfl (.cv (Cv.freezeBox (t:=2) (i:=2) rfl rfl rfl) (.memEq (M':=[_,_]) rfl (.w [2,3,4,5,20,23,24,25] rfl (.cv (Cv.freezeBox (t:=3) (i:=1) rfl rfl rfl) (.memEq (M':=[_]) rfl (.w [2,3,4,5,20,23,25] rfl (st (.makeFn (ι:=PI R D) (As:=fun p=>[isI (p.1.1:Int),isI (p.1.2:Int)]) (R:=fun p=>zk (zc (nz (vI (fun j=>cf (zG xs) (p.1.1*C+j)) (fun j=>cf (zG ys) (j*D+p.1.2)) C)))) (fun p=>nv hx hy hK hC hxl hyl (by omega) (by omega) p.2.1 p.2.2) .nil (.cons (.t rfl) (.cons (.t rfl) .nil))) rfl ?_))))))))))))
  refine st (.call (wi (f:=fun i k=>nz (vI (fun j=>cf (zG xs) (i*C+j)) (fun j=>cf (zG ys) (j*D+k)) C)) hR hD (fun i k _ _=>by rw[zB];have:=jC (f:=fun j=>cf (zG xs) (i*C+j)) (g:=fun j=>cf (zG ys) (j*D+k)) (fun j=>hx _) (fun j=>hy _) C;omega)) (.cons (.t rfl) (.cons (.t rfl) (.cons (.t rfl) .nil)))) rfl ?_
  refine .store (.t rfl) (.t rfl) (i:=0) rfl zL rfl rfl (Ss':=[_,_,_]) rfl (M':=[(some _,zC [_,_,_])]) rfl (st (.as (.cI 0 rfl)) rfl (nkQ k4 (.w [4,5] rfl (.ret (rtN (.inl rfl) Tryz.results30 rfl rfl (.cell rfl (i:=0) rfl zL rfl ?_ (.tmp (Has.t' rfl ?_) .nil)))))))
  ·exact bi (by rw[zvz fun i k=>vI (fun j=>cf (zG xs) (i*C+j)) (fun j=>cf (zG ys) (j*D+k)) C])
  ·rfl
theorem dW {R C i k:Nat} {xs:List (Bool×List Nat)} (hxl:xs.length=R*C) (hxm:xs.length≤4096) (hi:i<C) (hk:k<R):Ctr Tryz.prog 91 [isI (i:Int),isI (k:Int),ptM (R:Int) (C:Int) xs] (zk (zc (xs.getD (k*C+i) (false,[])))):=by
 refine Ctr.i Tryz.func91 rfl Tryz.ntmps91 fun w0 F0=>.w [0,1,2] rfl (.fact (Has.rngI (Has.t (t:=0) rfl)) fun lt0=>.fact (Has.rngI (Has.t (t:=1) rfl)) fun lt1=>?_)
 have hp:=zt hk hi
 refine .sr fun k1=>.alloc [isB false,SlM isU []] zK (fun _ _=>⟨rfl,nilM _ _,trivial⟩) rfl fun b1=>nkQ k1 (.sr fun k2=>st (.loadP (.t rfl) zL rfl (Ss':=[_,_,_]) rfl) rfl (stM rfl (stM rfl (st (.call (jl (i:=k) (k:=i) hxm (by omega)) (.cons (.t rfl) (.cons (.t rfl) (.cons (.t rfl) .nil)))) rfl (.store (.t rfl) (.t rfl) (i:=0) rfl zE rfl rfl (Ss':=[_,_]) rfl (M':=[(some _,zC [_,_])]) rfl (nkQ k2 (.w [5] rfl (.ret (rt1 (.inl rfl) Tryz.results91 rfl (.cell rfl (i:=0) rfl zE rfl ?_ .nil))))))))))
 all_goals (rfl)
theorem ai {R C K:Nat} {xs:List (Bool×List Nat)} (hx:Bd (zG xs) K) (hK:K≤400000000) (hR:R≤64) (hC:C≤64) (hxl:xs.length=R*C):Ctr Tryz.prog 64 [isM (R:Int) (C:Int) xs] (zZ [xW C R (tab (C*R) R fun i k=>cf (zG xs) (k*C+i)),isI 0]):=by
 refine Ctr.i Tryz.func64 rfl Tryz.ntmps64 fun w0 F0=>.w [0] rfl ?_
 have h1:=qT hR hC
 have hf1:=qK hR hC hxl
 refine .sr fun k1=>.box (.t rfl) rfl fun b1=>.alloc [isI 0,isI 0,zi] zX (fun _ _=>⟨⟨rfl,by decide,by decide⟩,⟨rfl,by decide,by decide⟩,rfl,trivial⟩) rfl fun b2=>st (.as (.cI 0 rfl)) rfl (nkQ k1 (.sq fun k2=>.sr fun k3=>st (.load (.t rfl) (i:=1) rfl zL rfl (Ss':=[_,_,_]) rfl) rfl (st (.eq (.call (qO) (.cons (.t rfl) .nil)) ((show isB _=isB true from zl hf1))) rfl (st (.not (.t rfl)) rfl (nkQ k3 (.cd rfl (fun hc1=>?_) (fun hc1=>?_)))))))
 ·simp at hc1
 ·refine .skip (.nk k2 (.sr fun k4=>st (.fieldAddr (.t rfl) zo ty3) rfl (st (.load1 (.t rfl) (i:=1) rfl ty3 rfl) rfl (st (.fieldAddr (.t rfl) zY ty3) rfl (st (.load1 (.t rfl) (i:=1) rfl ty3 rfl) rfl (.cv (Cv.freezeBox (t:=1) (i:=1) rfl rfl rfl) (.memEq (M':=[_]) rfl (.w [0,1,2,3,4,5,6,9,11] rfl (st (.makeFn (ι:=PI C R) (As:=fun p=>[isI (p.1.1:Int),isI (p.1.2:Int)]) (R:=fun p=>zk (zc (xs.getD (p.1.2*C+p.1.1) (false,[])))) (fun p=>dW hxl (by omega) p.2.1 p.2.2) .nil (.cons (.t rfl) .nil)) rfl (st (.call (wi (f:=fun i k=>xs.getD (k*C+i) (false,[])) hC hR (fun i k _ _=>Nat.le_trans (hx.raw _) (by omega))) (.cons (.t rfl) (.cons (.t rfl) (.cons (.t rfl) .nil)))) rfl (.store (.t rfl) (.t rfl) (i:=0) rfl zL rfl rfl (Ss':=[_,_,_]) rfl (M':=[(some _,zC [_,_,_])]) rfl (st (.as (.cI 0 rfl)) rfl (nkQ k4 (.w [2,3] rfl (.ret (rtN (.inl rfl) Tryz.results64 rfl rfl (.cell rfl (i:=0) rfl zL rfl ?_ (.tmp (Has.t' rfl ?_) .nil))))))))))))))))))
  ·exact bi (by congr 1;funext i k;rw[qb])
  ·rfl
end Go.Proofs.YtchbfpcaibfkdaaGreat
namespace Go.Proofs.YtchbfpcaibfkdaaGreat
open Go.En Go.RowKit
set_option maxRecDepth 10000
set_option maxHeartbeats 4000000
open Go.Nt
open Go.Pz
open Go.Mz
open Go.Hn
theorem fT {m n:Bool} {xs ys:List Nat} (hx:(List.length (zA (val xs)))<4294700000) (hy:(List.length (zA (val ys)))<4294700000) (hp:0<zv n ys):Ctr Tryz.prog 111 [zk [isB m,zD xs],zk [isB n,zD ys]] (zZ [isZ (zv m xs/zv n ys),isZ (zv m xs%zv n ys),isB true]):=by
 refine Ctr.i Tryz.func111 rfl Tryz.ntmps111 fun w0 F0=>.w [0,1] rfl (.fact (Has.okZ (Has.t (t:=0) rfl)) fun okz0=>.fact (Has.okZ (Has.t (t:=1) rfl)) fun okz1=>?_)
 have ha:=wL (zv m xs) (zv n ys)
 have hb:=yV (zv m xs) (zv n ys)
 have hxx:=xt m xs
 have hyy:=xt n ys
 have h1:=di
 have hs1:sgn (zv n ys)=1:=by rcases qR (zv n ys) with h|h|h <;> omega
 have hr:=da (if zv n ys=0 then 0 else (zv m xs).tmod (zv n ys))
 refine .sr fun k1=>.box (.t rfl) rfl fun b1=>.box (.t rfl) rfl fun b2=>.alloc [isB false,SlM isU []] zK (fun _ _=>⟨rfl,nilM _ _,trivial⟩) rfl fun b3=>.alloc [isB false,SlM isU []] zK (fun _ _=>⟨rfl,nilM _ _,trivial⟩) rfl fun b4=>st (.as (.cB false)) rfl (nkQ k1 (.sr fun k2=>st (.load (.t rfl) (i:=3) rfl zE rfl (Ss':=[_,_]) rfl) rfl (st (.load (.t rfl) (i:=2) rfl zE rfl (Ss':=[_,_]) rfl) rfl (st (.call (ca (by with_reducible assumption) (by with_reducible assumption)) (.cons (.t rfl) (.cons (.t rfl) .nil))) rfl (stM rfl (st (.ext (.t rfl) rfl) rfl (st (.ext (.t rfl) rfl) rfl (st (.ext (.t rfl) rfl) rfl (.alloc [isB false,SlM isU []] zK (fun _ _=>⟨rfl,nilM _ _,trivial⟩) rfl fun b5=>.alloc [isB false,SlM isU []] zK (fun _ _=>⟨rfl,nilM _ _,trivial⟩) rfl fun b6=>.store (.t rfl) (.t rfl) (i:=1) rfl zE rfl rfl (Ss':=[_,_]) rfl (M':=[_,(some _,zC [_,_]),_,_,_,_]) rfl (.store (.t rfl) (.t rfl) (i:=0) rfl zE rfl rfl (Ss':=[_,_]) rfl (M':=[(some _,zC [_,_]),_,_,_,_,_]) rfl (stM rfl (nkQ k2 (.w [3,4,5,6,7,8,9] rfl (.sq fun k3=>.sq fun k4=>.dr (.m [] rfl (.m [17] rfl (.s [18] rfl rfl rfl (.T rfl rfl rfl (fun hg=>.load (.t rfl) (i:=0) rfl zE rfl (Ss':=[_,_]) rfl)) ?_)))))))))))))))))
 refine .s [18,19] rfl rfl rfl (.T rfl rfl rfl (fun hg=>have hg':=BP.t hg;OK1.eq (.call (qC (by simp only[zB,zH];omega)) (.cons (Has.g rfl hg) .nil)) (by simp only[zB,zH];rfl))) ?_
 refine .s [18] rfl rfl rfl (.T rfl rfl rfl (fun hg=>.load (.t rfl) (i:=4) rfl zE rfl (Ss':=[_,_]) rfl)) (.fn (n:=5) zW (.w [3,4,5,6,7,8,9,18,20,21] rfl ?_))
 refine stT rfl rfl (fun hg=>have hg':=BP.t hg;OK1.eq (.call (qC (by omega)) (.cons (Has.g rfl hg) .nil)) ((show isI _=isI 1 from zF hs1))) rfl ?_
 refine stT rfl rfl (fun hg=>have hg':=BP.t hg;OK1.mulI (Has.g rfl hg) (Has.g rfl hg) (by omega) (by omega)) rfl ?_
 refine stT rfl rfl (fun hg=>.ltI (Has.g rfl hg) (.cI 0 rfl)) rfl (st (.pickAnd (.t rfl) (fun h=>Has.g rfl h)) rfl (nkQ k4 (.w [3,4,5,6,7,8,9,25] rfl (.cd rfl (fun hc1=>?_) (fun hc1=>?_)))))
 ·have HE:=euc1 (x:=zv m xs) (y:=zv n ys) ⟨hc1.1,by have:=hc1.2;omega⟩ ((aL _).2 hp)
  refine .dr (.so [] rfl (.load (.t rfl) (i:=1) rfl zE rfl (Ss':=[_,_]) rfl) (.so [] rfl (.call (cZ) .nil) (.so [26,27] rfl (.eq (.call (vN (by simp only[zB,zH];omega) (by simp only[zB,zH];omega)) (.cons (.t rfl) (.cons (.t rfl) .nil))) (by simp only[zB,zH];rfl)) ?_)))
  refine .so [] rfl (.load (.t rfl) (i:=0) rfl zE rfl (Ss':=[_,_]) rfl) (.so [] rfl (.load (.t rfl) (i:=4) rfl zE rfl (Ss':=[_,_]) rfl) (.fn (n:=5) zW (.w [4,5,6,7,8,9,28,29,30] rfl (st (.eq (.call (qz (by simp only[zB,zH];omega) (by with_reducible assumption)) (.cons (.t rfl) (.cons (.t rfl) .nil))) (by simp only[zB,zH];rfl)) rfl ?_))))
  refine .store (.t rfl) (.t rfl) (i:=1) rfl zE rfl rfl (Ss':=[_,_]) rfl (M':=[_,(some _,zC [_,_]),_,_,_,_]) rfl (.store (.t rfl) (.t rfl) (i:=0) rfl zE rfl rfl (Ss':=[_,_]) rfl (M':=[(some _,zC [_,_]),_,_,_,_,_]) rfl (nkQ k3 (.sq fun k5=>.drh [true,true,false,false,true,true] (Ms:=[_,_,_,_]) rfl (.so [] rfl (.load (.t rfl) (i:=1) rfl zE rfl (Ss':=[_,_]) rfl) (.so [] rfl (.load (.t rfl) (i:=0) rfl zE rfl (Ss':=[_,_]) rfl) (.m [] rfl (.mid2 (.cons_cons _ (.cons_cons _ (.cons _ (.cons _ (.cons_cons _ (.cons_cons _ .slnil)))))) (.st0 [32] rfl rfl (by kernel_rfl) (by kernel_rfl) (StS.store (.t rfl) (.t rfl) (i:=3) rfl zE rfl rfl (Ss':=[_,_]) rfl (M':=[_,_,_,(some _,zC [_,_]),_,_]) rfl) (.cons_cons _ (.cons_cons _ (.cons _ (.cons _ (.cons_cons _ (.cons_cons _ .slnil)))))) (.st0 [33] rfl rfl (by kernel_rfl) (by kernel_rfl) (StS.store (.t rfl) (.t rfl) (i:=2) rfl zE rfl rfl (Ss':=[_,_]) rfl (M':=[_,_,(some _,zC [_,_]),_,_,_]) rfl) (.cons_cons _ (.cons_cons _ (.cons _ (.cons _ (.cons_cons _ (.cons_cons _ .slnil)))))) (.fin0 (n:=5) zW rfl (by kernel_rfl) (by kernel_rfl) (by kernel_rfl) (.w [4,5,6,34] rfl (stM rfl (nkQ k5 (.ret (rtN (.inl rfl) Tryz.results111 rfl rfl (.cell rfl (i:=3) rfl zE rfl ?_ (.cell rfl (i:=2) rfl zE rfl ?_ (.tmp (Has.t' rfl ?_) .nil))))))))))))))))))
  ·exact zO HE.1
  ·exact zO (HE.2.trans (if_neg (by omega)))
  ·exact zl (decide_eq_true (by omega))
 ·have HE:=euc0 (x:=zv m xs) (y:=zv n ys) (hc1.imp id fun h=>by omega)
  refine .skip (.nk k3 (.sq fun k6=>.drh [true,true,false,false,true,true] (Ms:=[_,_,_,_]) rfl (.so [] rfl (.load (.t rfl) (i:=1) rfl zE rfl (Ss':=[_,_]) rfl) (.so [] rfl (.load (.t rfl) (i:=0) rfl zE rfl (Ss':=[_,_]) rfl) (.m [] rfl (.mid2 (.cons_cons _ (.cons_cons _ (.cons _ (.cons _ (.cons_cons _ (.cons_cons _ .slnil)))))) (.st0 [32] rfl rfl (by kernel_rfl) (by kernel_rfl) (StS.store (.t rfl) (.t rfl) (i:=3) rfl zE rfl rfl (Ss':=[_,_]) rfl (M':=[_,_,_,(some _,zC [_,_]),_,_]) rfl) (.cons_cons _ (.cons_cons _ (.cons _ (.cons _ (.cons_cons _ (.cons_cons _ .slnil)))))) (.st0 [33] rfl rfl (by kernel_rfl) (by kernel_rfl) (StS.store (.t rfl) (.t rfl) (i:=2) rfl zE rfl rfl (Ss':=[_,_]) rfl (M':=[_,_,(some _,zC [_,_]),_,_,_]) rfl) (.cons_cons _ (.cons_cons _ (.cons _ (.cons _ (.cons_cons _ (.cons_cons _ .slnil)))))) (.fin0 (n:=5) zW rfl (by kernel_rfl) (by kernel_rfl) (by kernel_rfl) (.w [4,5,6,34] rfl (stM rfl (nkQ k6 (.ret (rtN (.inl rfl) Tryz.results111 rfl rfl (.cell rfl (i:=3) rfl zE rfl ?_ (.cell rfl (i:=2) rfl zE rfl ?_ (.tmp (Has.t' rfl ?_) .nil)))))))))))))))))
  ·exact zO HE.1
  ·exact zO (HE.2.trans (if_neg (by omega)))
  ·exact zl (decide_eq_true (by omega))
theorem ny {m n:Bool} {xs ys:List Nat} (hx:(List.length (zA (val xs)))≤100000000) (hy:(List.length (zA (val ys)))≤100000000) (hb:zv n ys=0):Ctr Tryz.prog 110 [zk [isB m,zD xs],zk [isB n,zD ys]] (zZ [isZ (xgg (zv m xs) (zv n ys)),isZ (sgn (zv m xs)),isZ 0]):=by
 refine Ctr.i Tryz.func110 rfl Tryz.ntmps110 fun w0 F0=>.w [0,1] rfl (.fact (Has.okZ (Has.t (t:=0) rfl)) fun okz0=>.fact (Has.okZ (Has.t (t:=1) rfl)) fun okz1=>.sr fun k1=>.box (.t rfl) rfl fun b1=>.box (.t rfl) rfl fun b2=>.alloc [isB false,SlM isU []] zK (fun _ _=>⟨rfl,nilM _ _,trivial⟩) rfl fun b3=>.alloc [isB false,SlM isU []] zK (fun _ _=>⟨rfl,nilM _ _,trivial⟩) rfl fun b4=>.alloc [isB false,SlM isU []] zK (fun _ _=>⟨rfl,nilM _ _,trivial⟩) rfl fun b5=>nkQ k1 (.sq fun k2=>.sr fun k3=>st (.load (.t rfl) (i:=3) rfl zE rfl (Ss':=[_,_]) rfl) rfl (st (.call (qC (by omega)) (.cons (.t rfl) .nil)) rfl (st (.eqI (.t rfl) (.cI 0 rfl)) rfl (nkQ k3 (.cd rfl (fun hc1=>?_) (fun hc1=>?_)))))))
 ·refine .sq fun k4=>.drh [true,false,false,true,true] (Ms:=[_,_,_]) rfl (.so [] rfl (.load (.t rfl) (i:=2) rfl zE rfl (Ss':=[_,_]) rfl) (.so [16] rfl (.call (cb (by omega)) (.cons (.t rfl) .nil)) (.so [] rfl (.load (.t rfl) (i:=2) rfl zE rfl (Ss':=[_,_]) rfl) (.so [18] rfl (.call (qC (by omega)) (.cons (.t rfl) .nil)) (.so [19] rfl (.call (xC) (.cons (.t rfl) .nil)) (.so [] rfl (.eq (.build [isB false,SlM isU []] yN zK (fun _ _=>⟨rfl,nilM _ _,trivial⟩) .nil (Z'':=[_,_]) rfl) (isZ0)) (.mid2 (.cons_cons _ (.cons _ (.cons _ (.cons_cons _ (.cons_cons _ .slnil))))) (.st0 [17] rfl rfl (by kernel_rfl) (by kernel_rfl) (StS.store (.t rfl) (.t rfl) (i:=2) rfl zE rfl rfl (Ss':=[_,_]) rfl (M':=[_,_,(some _,zC [_,_]),_,_]) rfl) (.cons_cons _ (.cons _ (.cons _ (.cons_cons _ (.cons_cons _ .slnil))))) (.st0 [20] rfl rfl (by kernel_rfl) (by kernel_rfl) (StS.store (.t rfl) (.t rfl) (i:=1) rfl zE rfl rfl (Ss':=[_,_]) rfl (M':=[_,(some _,zC [_,_]),_,_,_]) rfl) (.cons_cons _ (.cons _ (.cons _ (.cons_cons _ (.cons_cons _ .slnil))))) (.fin0 (n:=8) zW rfl (by kernel_rfl) (by kernel_rfl) (by kernel_rfl) (.w [2,3,4,5,6,21] rfl (.store (.t rfl) (.t rfl) (i:=0) rfl zE rfl rfl (Ss':=[_,_]) rfl (M':=[(some _,zC [_,_]),_,_,_,_]) rfl (nkQ k4 (.ret (.thr (rtN (.inl rfl) Tryz.results110 rfl rfl (.cell rfl (i:=2) rfl zE rfl ?_ (.cell rfl (i:=1) rfl zE rfl ?_ (.cell rfl (i:=0) rfl zE rfl ?_ .nil)))))))))))))))))))
  ·exact zO (by rw[hb];unfold xgg;rw[show (0:Int).natAbs=0 from rfl,Nat.gcd_zero_right])
  ·rfl
  ·rfl
 ·exact absurd ((xQ _).2 hb) hc1
theorem nw {m n:Bool} {xs ys:List Nat} (hx:(List.length (zA (val xs)))≤100000000) (hy:(List.length (zA (val ys)))≤100000000):Ctr Tryz.prog 110 [zk [isB m,zD xs],zk [isB n,zD ys]] (zZ [isZ (xgg (zv m xs) (zv n ys)),isZ (xgx (zv m xs) (zv n ys)),isZ (xgy (zv m xs) (zv n ys))]):=by
 by_cases hb:zv n ys=0
 ·have h:=ny (m:=m) hx hy hb
  unfold xgx xgy
  rw[if_pos hb,if_pos hb]
  exact h
 ·have h:=sV (m:=m) hx hy hb
  have e:=zGV (a:=zv m xs) hb
  unfold xgx
  rw[if_neg hb,←e]
  exact h
theorem bl {m n:Bool} {us ws:List Nat} {xs ys:List (Bool×List Nat)} {A B K L:Nat} (ha:(List.length (zA (val us)))≤A) (hx:Bd (zG xs) K) (hb:(List.length (zA (val ws)))≤B) (hy:Bd (zG ys) L) (h1:A+K≤400000000) (h2:B+L≤400000000) (hl:ys.length=xs.length) (hn:xs.length≤1000000):Ctr Tryz.prog 87 [zk [isB m,zD us],SlK 2 zc xs,zk [isB n,zD ws],SlK 2 zc ys] (isP (mx2 (zv m us) (zG xs) (zv n ws) (zG ys))):=by
 refine Ctr.i Tryz.func87 rfl Tryz.ntmps87 fun w0 F0=>.w [0,1,2,3] rfl (.fact (Has.okZ (Has.t (t:=0) rfl)) fun okz0=>.fact (Has.lenLt (Has.t (t:=1) rfl)) fun lt1=>.fact (Has.okZ (Has.t (t:=2) rfl)) fun okz2=>.fact (Has.lenLt (Has.t (t:=3) rfl)) fun lt3=>?_)
 obtain⟨F,hF⟩:∃F,F=mx2 (zv m us) (zG xs) (zv n ws) (zG ys):=⟨_,rfl⟩
 have hFl:F.length=xs.length:=by rw[hF,dE,xy]
 have hea:=xt m us
 have heb:=xt n ws
 refine .sr fun k1=>.box (.t rfl) rfl fun b1=>.box (.t rfl) rfl fun b2=>st (.as (.cWK (k:=2) (fk:=zc))) rfl (nkQ k1 (.sr fun k2=>stM rfl (st (.len zz (.t rfl)) rfl (.makeK (fk:=zc) (u:=(false,[])) (n:=xs.length) (c:=xs.length) zz zE zK (fun _ _=>⟨rfl,nilM _ _,trivial⟩) zN cT (Has.t' rfl rfl) (Has.t' rfl rfl) (by omega) rfl fun b3=>stM rfl (nkQ k2 (.w [1,3,4,6,8,9] rfl (.sq fun k3=>.sr fun k4=>stM rfl (st (.len zz (.t rfl)) rfl (st (.mv (.cI 0 rfl)) rfl (nkQ k4 (.block (.loopF [1,3,4,6,8,9,15] (fun (z:{ k:Nat//k≤xs.length })=>match z with|⟨k,hk⟩=>[(16,isI (k:Int))]) (fun M=>fun (z:{ k:Nat//k≤xs.length })=>match z with|⟨k,hk⟩=>[(some b3,zC ((fill (F.map nz) k (false,[])).flatMap zc)),(some b2,zC [isB n,SlM isU ws]),(some b1,zC [isB m,SlM isU us])]) (fun (z:{ k:Nat//k≤xs.length })=>match z with|⟨k,hk⟩=>xs.length-k) (⟨0,Nat.zero_le _⟩) (Cv.mem (.c 16 rfl ?_ (.l [1,3,4,6,8,9,15] rfl)) ?_) ?_))))))))))))
 ·rfl
 ·exact rX (by rw[kO,List.length_map,hFl])
 rintro⟨k,hk⟩ K5 hK5
 refine .w [16,1,3,4,6,8,9,15] rfl (.memEq (M':=[(some b3,zC ((fill (F.map nz) k (false,[])).flatMap zc)),(some b2,zC [isB n,SlM isU ws]),(some b1,zC [isB m,SlM isU us])]) rfl (.sr fun k6=>st (.ltI (.t rfl) (.t rfl)) rfl (nkQ k6 (.sq fun k7=>.cd rfl (fun hc1=>?_) (fun hc1=>?_)))))
 ·have hxr:=hx.raw k
  have hyr:=hy.raw k
  have hxk:=hx k
  have hyk:=hy k
  have hm1:=qA (zv m us) (cf (zG xs) k)
  have hm2:=qA (zv n ws) (cf (zG ys) k)
  refine .skip (.nk k7 (.sq fun k8=>.block (.sr fun k9=>stM rfl (stM rfl (nkQ k9 (.dr (.m [] rfl (.m [] rfl (.so [] rfl (.load (.t rfl) (i:=2) rfl zE rfl (Ss':=[_,_]) rfl) (.m [] rfl (.m [] rfl (.so [22,23] rfl (.ixK zz zE (.t rfl) (.t rfl) zN (by omega) (getD_some (d:=(false,[])) (by omega))) (.so [24] rfl (.loadP (.t rfl) zE rfl (Ss':=[_,_]) rfl) ?_)))))))))))))
  refine .so [21,25] rfl (.eq (.call (qE (by omega) (by show (List.length (zA (val (xs.getD k (false,[])).2)))≤_;omega)) (.cons (.t rfl) (.cons (.t rfl) .nil))) ((show isZ _=isZ (zv m us*cf (zG xs) k) from zO (by rw[qb];rfl)))) ?_
  refine .so [] rfl (.load (.t rfl) (i:=1) rfl zE rfl (Ss':=[_,_]) rfl) (.m [] rfl (.m [] rfl (.so [28,29] rfl (.ixK zz zE (.t rfl) (.t rfl) zN (by omega) (getD_some (d:=(false,[])) (by omega))) (.so [30] rfl (.loadP (.t rfl) zE rfl (Ss':=[_,_]) rfl) ?_))))
  refine .so [27,31] rfl (.eq (.call (qE (by omega) (by show (List.length (zA (val (ys.getD k (false,[])).2)))≤_;omega)) (.cons (.t rfl) (.cons (.t rfl) .nil))) ((show isZ _=isZ (zv n ws*cf (zG ys) k) from zO (by rw[qb];rfl)))) ?_
  refine .so [26,32] rfl (.eq (.call (qz (by rw[zB];omega) (by rw[zB];omega)) (.cons (.t rfl) (.cons (.t rfl) .nil))) ((show isZ _=zk (zc (nz (zv m us*cf (zG xs) k+zv n ws*cf (zG ys) k))) from zO (by rw[zH,zH])))) ?_
  refine .fn (n:=15) zW (.w [1,3,4,6,8,9,15,16,17,18,10,19,20,21,22,23,24,25,26,27,28,29,30,31,32,33] rfl (st (.eq (.ixWin zz zE (.t rfl) (.t rfl) (by omega)) (qG (by exact ixo2))) rfl (.storeK (z:=nz (zv m us*cf (zG xs) k+zv n ws*cf (zG ys) k)) zN (.t rfl) (.t rfl) (i:=0) rfl zE (by rw[dO _ _ _ (by rw[List.length_map];omega),List.length_map];omega) (M':=[(_,_),_,_]) rfl ?_)))
  refine nl (.bln (.nk k8 (.region (st (.addI (.t rfl) (.cI 1 rfl) (by omega) (by omega)) rfl (stM rfl (nl (.thn (hK5 (⟨k+1,by omega⟩) _ _ ?_ (Cv.mem (.c 16 rfl ?_ (.l [1,3,4,6,8,9,15] rfl)) ?_)))))))))
  ·show xs.length-(k+1)<xs.length-k;omega
  ·exact zF (by omega)
  ·exact rY (by rw[List.getElem?_map,hF];unfold mx2;rw[List.getElem?_map,List.getElem?_range (by rw[xy];omega)];rfl)
 ·refine .exit (.the (.the (.blh (.nk k3 (.w [8,9] rfl (.sq fun k10=>.cv (Cv.freezeK (t:=9) (i:=0) (ys:=F.map nz) zN rfl rfl rfl (by rw[dO _ _ _ (by rw[List.length_map];omega),List.length_map];omega) (tc (by rw[List.length_map];omega) (by rw[List.length_map,hFl]))) ?_))))))
  refine .memEq (M':=[_,_]) rfl (.w [8,9] rfl (.region (stM rfl (stM rfl (nkQ k10 (.ret (rt1 (.inl rfl) Tryz.results87 rfl (.tmp (Has.t' rfl ?_) .nil))))))))
  all_goals (exact wM hF)
end Go.Proofs.YtchbfpcaibfkdaaGreat
namespace Go.En
open Go.RowKit Go.Nt Go.Pz
abbrev isQ (q:Rat):VP:=zk [isB (decide (q.num<0)),SlM isU (zA q.num.natAbs),isB (decide ((q.den:Int)<0)),SlM isU (zA ((q.den:Int)).natAbs)]
theorem cO {p q:Rat} (h:p=q):isQ p=isQ q:=h▸rfl
def qs (q:Rat):Nat:=max ((List.length (zA q.num.natAbs))) ((List.length (zA q.den)))
theorem vl {q:Rat} {K:Nat} (h:qs q≤K):(List.length (zA q.num.natAbs))≤K:=Nat.le_trans (Nat.le_max_left _ _) h
theorem yK {q:Rat} {K:Nat} (h:qs q≤K):(List.length (zA q.den))≤K:=Nat.le_trans (Nat.le_max_right _ _) h
theorem wy {q:Rat} {K:Nat} (h:qs q≤K):(List.length (zA ((q.den:Int)).natAbs))≤K:=by rw[Int.natAbs_natCast];exact yK h
theorem yJ {q:Rat} {K:Nat} (h1:(List.length (zA q.num.natAbs))≤K) (h2:(List.length (zA q.den))≤K):qs q≤K:=Nat.max_le.2 ⟨h1,h2⟩
theorem yg {N D:Int} (hD:0<D) {q:Rat} (hq:q=Rat.divInt N D):(((Nat.gcd N.natAbs D.natAbs:Nat):Int)≠0∧N.tmod ((Nat.gcd N.natAbs D.natAbs:Nat):Int)=0)∧N.tdiv ((Nat.gcd N.natAbs D.natAbs:Nat):Int)=q.num∧
  (((Nat.gcd N.natAbs D.natAbs:Nat):Int)≠0∧D.tmod ((Nat.gcd N.natAbs D.natAbs:Nat):Int)=0)∧D.tdiv ((Nat.gcd N.natAbs D.natAbs:Nat):Int)=(q.den:Int):=by
 have hg:0<Nat.gcd N.natAbs D.natAbs:=Nat.gcd_pos_of_pos_right _ (by omega)
 have h1:((Nat.gcd N.natAbs D.natAbs:Nat):Int)∣N:=Int.ofNat_dvd_left.2 (Nat.gcd_dvd_left _ _)
 have h2:((Nat.gcd N.natAbs D.natAbs:Nat):Int)∣D:=Int.ofNat_dvd_left.2 (Nat.gcd_dvd_right _ _)
 have e:(Int.gcd D N)=Nat.gcd N.natAbs D.natAbs:=by rw[Int.gcd_comm];rfl
 refine⟨⟨by omega,Int.tmod_eq_zero_of_dvd h1⟩,?_,⟨by omega,Int.tmod_eq_zero_of_dvd h2⟩,?_⟩
 ·rw[hq,Rat.num_divInt,Int.sign_eq_one_of_pos hD,Int.one_mul,e,Int.tdiv_eq_ediv_of_dvd h1]
 ·rw[hq,Rat.den_divInt,if_neg (by omega),e,Int.tdiv_eq_ediv_of_dvd h2,Int.natCast_ediv,Int.natAbs_of_nonneg (by omega)]
theorem bY {N D:Int} {K:Nat} (hD:D≠0) (h1:(List.length (zA N.natAbs))≤K) (h2:(List.length (zA D.natAbs))≤K):qs (Rat.divInt N D)≤K:=by
 refine yJ ?_ ?_
 ·rw[Rat.num_divInt]
  refine Nat.le_trans (qF ?_) h1
  have hg:0<Int.gcd D N:=Int.gcd_pos_of_ne_zero_left _ hD
  rw[Int.natAbs_ediv_of_dvd (Int.dvd_trans (Int.gcd_dvd_right _ _) ⟨D.sign,Int.mul_comm _ _⟩),Int.natAbs_natCast,Int.natAbs_mul,Int.natAbs_sign_of_ne_zero hD,Nat.one_mul]
  exact Nat.div_le_self _ _
 ·rw[Rat.den_divInt,if_neg hD]
  exact Nat.le_trans (qF (Nat.div_le_self _ _)) h2
theorem jO (q:Rat):((q.den:Nat):Int)≠0:=by have:=q.den_nz;omega
theorem zFL (q:Rat):0<((q.den:Nat):Int):=by have:=q.den_nz;omega
theorem iC (p q:Rat):Rat.divInt (p.num*q.den+q.num*p.den) (p.den*q.den)=p+q:=by
 rw[←Rat.divInt_add_divInt _ _ (jO p) (jO q),Rat.num_divInt_den,Rat.num_divInt_den]
theorem gG (p q:Rat):Rat.divInt (p.num*q.num) (p.den*q.den)=p*q:=by
 rw[←Rat.divInt_mul_divInt,Rat.num_divInt_den,Rat.num_divInt_den]
theorem oY (p q:Rat):Rat.divInt (p.num*q.den) (p.den*q.num)=p/q:=by
 rw[←Rat.divInt_mul_divInt,Rat.num_divInt_den,Rat.div_def,←Rat.inv_divInt,Rat.num_divInt_den]
theorem oc {p q:Rat} {A B:Nat} (hp:qs p≤A) (hq:qs q≤B):qs (p+q)≤A+B+1:=by
 have h1:=xh (p.num*q.den) (q.num*p.den)
 have h2:=qA p.num q.den
 have h3:=qA q.num p.den
 have h4:=qA p.den q.den
 have g1:=vl hp
 have g2:=wy hp
 have g3:=vl hq
 have g4:=wy hq
 rw[←iC]
 exact bY (Int.mul_ne_zero (jO p) (jO q)) (by omega) (by omega)
theorem wW {p q:Rat} {A B:Nat} (hp:qs p≤A) (hq:qs q≤B):qs (p*q)≤A+B:=by
 have h2:=qA p.num q.num
 have h4:=qA p.den q.den
 have g1:=vl hp
 have g2:=wy hp
 have g3:=vl hq
 have g4:=wy hq
 rw[←gG]
 exact bY (Int.mul_ne_zero (jO p) (jO q)) (by omega) (by omega)
theorem oa {p:Rat} {A:Nat} (hp:qs p≤A):qs (-p)≤A:=yJ (by rw[Rat.neg_num,Int.natAbs_neg];exact vl hp) (by rw[Rat.neg_den];exact yK hp)
theorem oZ {p q:Rat} {A B:Nat} (hp:qs p≤A) (hq:qs q≤B):qs (p-q)≤A+B+1:=by rw[Rat.sub_eq_add_neg];exact oc hp (oa hq)
theorem zID {q:Rat} (h:q≠0):q.num≠0:=fun e=>h (Rat.num_eq_zero.1 e)
/-! ### signs, order -/
theorem mR {q:Rat}:0<q.num↔0<q:=by
 rw[Rat.lt_iff];show _↔(0:Int)*_<q.num*1;rw[Int.zero_mul,Int.mul_one]
end Go.En
