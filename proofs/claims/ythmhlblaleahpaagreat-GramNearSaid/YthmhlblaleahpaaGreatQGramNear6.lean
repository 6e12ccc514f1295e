/- The law GramNear, as it is stated, of the given program, for every input; no condition. -/
import Derived.Test.YthmhlblaleahpaaGreatQGramNear5
import Derived.Deep.SlicePairs
import Derived.Test.YthmhlblaleahpaaGreatRows
namespace Go.Proofs.YthmhlblaleahpaaGreat
open Go.En Go.RowKit
set_option maxRecDepth 10000
set_option maxHeartbeats 4000000
open Go.Nt
open Go.Pz
open Go.Mz
open Go.Dt
theorem nz0 : nz 0 = (false, []) := Prod.ext rfl zF
abbrev lw1 (bw : Nat) (gd r s : Gr (Bool × List Nat)) (gl gu : Gr Row) (x : Int) (m n : Bool) (ps qs : List Nat) : Mem := [grMK zc gd [nz 1, nz x], grMK zc s ([1].map nz), grM rowV gu [(s, [1])], grMK zc r ([0].map nz), grM rowV gl [(r, [0])], (some bw, zB [isI 1, isGr gd 2, isGr gl 1, isGr gu 1, isB m, zD ps, isB n, zD qs, isI 0])]
theorem lll_own1 {K : Nat} {xs : List (Bool × List Nat)} {x : Int} (hx : Bd (vals xs) K) (hK : K ≤ 100000000) (hl : xs.length = 1) (hx0 : cf (vals xs) 0 = x) : Ctr Tryz.prog 117 [isM 1 1 xs] (isB true) := by
 refine Ctr.intro Tryz.func117 rfl (by kernel_rfl) Tryz.ntmps117 rfl fun w0 F0 => .cv (Cv.wk (.l [0] rfl)) ?_
 have hTl : (tab (1 * 1) 1 fun i k => cf (vals xs) (k * 1 + i)).length = 1 := xG _ _ _
 obtain ⟨T, hT⟩ : ∃ T, T = tab (1 * 1) 1 fun i k => cf (vals xs) (k * 1 + i) := ⟨_, rfl⟩
 rw [← hT] at hTl
 have hTb : Bd T K := by rw [hT]; exact ju fun i k => hx _
 have hTv : T = vals xs := by
  obtain ⟨p, rfl⟩ := List.length_eq_one_iff.1 hl
  rw [hT]; rfl
 refine .seq fun _ k1 => .region (.box (.t rfl) rfl fun b1 => st (.as (.cB false)) rfl (nl (.thn (k1 _ _ (.seq fun _ k2 => .region (st (.load (.t rfl) (i := 0) rfl ty24 rfl (Ss' := [_, _, _]) rfl) rfl (st (.eq (.call (jx (R := 1) (C := 1) (K := K) hx (by omega) (by decide) (by decide) hl) (.cons (.t rfl) .nil)) ((show _ = zQ [isMz 1 1 T, isI 0] from by rw [hT]))) rfl (st (.mv (.t rfl)) rfl (st (.ext (.t rfl) rfl) rfl (st (.ext (.t rfl) rfl) rfl (.alloc [isI 0, isI 0, nilS] zg (fun _ _ => ⟨⟨rfl, by decide, by decide⟩, ⟨rfl, by decide, by decide⟩, rfl, trivial⟩) rfl fun b2 => .store (.t rfl) (.t rfl) (i := 0) rfl ty24 rfl rfl (Ss' := [_, _, _]) rfl (M' := [(some _, zB [_, _, _]), _]) rfl (st (.as (.t rfl)) rfl (nl (.thn (k2 _ _ (.cv (Cv.wk (.l [1, 2, 3, 4] rfl)) (.seq fun _ k3 => .region (st (.mv (.t rfl)) rfl (st (.eqI (.t rfl) (.cI 0 rfl)) rfl (st (.mv (.t rfl)) rfl (stT rfl rfl (fun hg => .load (.t rfl) (i := 0) rfl ty24 rfl (Ss' := [_, _, _]) rfl) rfl (stT rfl rfl (fun hg => .load (.t rfl) (i := 1) rfl ty24 rfl (Ss' := [_, _, _]) rfl) rfl ?_))))))))))))))))))))))
 refine stT rfl rfl (fun hg => have hg' := BP.t hg; OK1.eq (.call (zmat_Same (K := K) (by rw [zP]; exact hTb) hx (by omega)) (.cons (Has.g rfl hg) (.cons (Has.g rfl hg) .nil))) ((show isB _ = isB true from zU (by show (xe (1 : Int) (1 : Int) (T.map nz).length && xe (1 : Int) (1 : Int) xs.length && _ && _ && _) = true; rw [show xe (1 : Int) (1 : Int) (T.map nz).length = true from zj (R := 1) (C := 1) (by decide) (by decide) (by rw [List.length_map, hTl]), show xe (1 : Int) (1 : Int) xs.length = true from zj (R := 1) (C := 1) (by decide) (by decide) hl, zP, hTv]; simp)))) rfl ?_
 refine st (.pickAnd (.t rfl) (fun h => Has.g rfl h)) rfl (st (.as (.t rfl)) rfl (nl (.thn (k3 _ _ (.cv (Cv.wk (.l [2] rfl)) (.ret (rt1 (.inl rfl) Tryz.results117 rfl (.tmp (Has.t' rfl ?_) .nil))))))))
 all_goals (rfl)
theorem lll_entry0 {K : Nat} {xs : List (Bool × List Nat)} {x : Int} (hx : Bd (vals xs) K) (hK : K ≤ 100000000) (hl : xs.length = 1) (hx0 : cf (vals xs) 0 = x) {bw : Nat} : Ctr Tryz.prog 118 [qM bw 0, isM 1 1 xs, isI 0, isI 0] (isZ x) := by
 refine Ctr.intro Tryz.func118 rfl (by kernel_rfl) Tryz.ntmps118 rfl fun w0 F0 => .cv (Cv.wk (.l [0, 1, 2, 3] rfl)) (.fact (Has.rngI (Has.t (t := 2) rfl)) fun lt2 => .fact (Has.rngI (Has.t (t := 3) rfl)) fun lt3 => .seq fun _ k1 => .region (.box (.t rfl) rfl fun b1 => .alloc [isB false, SlM isU []] zG (fun _ _ => ⟨rfl, nilM _ _, trivial⟩) rfl fun b2 => nl (.thn (k1 _ _ (.seq fun _ k2 => .region (st (.load (.t rfl) (i := 1) rfl ty24 rfl (Ss' := [_, _, _]) rfl) rfl (st (.mv (.t rfl)) rfl (st (.mv (.t rfl)) rfl (st (.eq (.call (bM (R := 1) (C := 1) (i := 0) (k := 0) hx (by omega) (by decide) (by decide) hl (by decide) (by decide)) (.cons (.t rfl) (.cons (.t rfl) (.cons (.t rfl) .nil)))) ((show isZ _ = isZ x from zN hx0))) rfl (.alloc [isB false, SlM isU []] zG (fun _ _ => ⟨rfl, nilM _ _, trivial⟩) rfl fun b3 => .store (.t rfl) (.t rfl) (i := 0) rfl ty41 rfl rfl (Ss' := [_, _]) rfl (M' := [(some _, zB [_, _]), _, _]) rfl (nl (.thn (k2 _ _ (.cv (Cv.wk (.l [0, 2, 3, 8, 9] rfl)) (.seq fun _ k3 => .seq fun _ k4 => .region (st (.mv (.t rfl)) rfl (st (.mv (.cI 0 rfl)) rfl (nl (.thn (k4 _ _ (.block (.loopF [0, 2, 3, 8, 9, 15] (fun (_ : Unit) => [(16, isI 0)]) (fun M => fun (_ : Unit) => M) (fun (_ : Unit) => 0) (()) (Cv.mem (.c 16 rfl ?_ (.l [0, 2, 3, 8, 9, 15] rfl)) ?_) ?_))))))))))))))))))))))
 ·rfl
 ·rfl
 rintro _ K5 hK5
 refine .cv (Cv.wk (.l [16, 0, 2, 3, 8, 9, 15] rfl)) (.seq fun _ k6 => .region (st (.ltI (.t rfl) (.t rfl)) rfl (nl (.thn (k6 _ _ (.seq fun _ k7 => .cond (.t rfl) (fun hc1 => ?_) (fun hc1 => ?_)))))))
 ·have hc1 := BP.t hc1
  exfalso; omega
 ·have hc1 := BP.f hc1
  skip
  refine .exit (.the (.the (.blh (.thn (k3 _ _ (.cv (Cv.wk (.l [8, 9] rfl)) (.seq fun _ k8 => .region (st (.load (.t rfl) (i := 0) rfl ty41 rfl (Ss' := [_, _]) rfl) rfl (.store (.t rfl) (.t rfl) (i := 1) rfl ty41 rfl rfl (Ss' := [_, _]) rfl (M' := [_, (some _, zB [_, _]), _]) rfl (nl (.thn (k8 _ _ (.ret (rt1 (.inl rfl) Tryz.results118 rfl (.cell rfl (i := 1) rfl ty41 rfl ?_ .nil)))))))))))))))
  all_goals (rfl)
theorem lll_begun1 {K : Nat} {xs : List (Bool × List Nat)} {x : Int} (hx : Bd (vals xs) K) (hK : K ≤ 100000000) (hl : xs.length = 1) (hx0 : cf (vals xs) 0 = x) (hp : 0 < x) : CtrX Tryz.prog 106 [isM 1 1 xs] ([]) (fun S M => ∃ bw gd r s gl gu, S = zQ [qM bw 0, isI 0] ∧ M = lw1 bw gd r s gl gu x false false [] []) := by
 refine CtrX.intro Tryz.func106 rfl (by kernel_rfl) Tryz.ntmps106 rfl fun w0 F0 => .cv (Cv.wk (.l [0] rfl)) ?_
 have hfo : xe 1 1 xs.length = true := zj (R := 1) (C := 1) (by decide) (by decide) hl
 have hxw : (List.length (zA x.natAbs)) ≤ K := by rw [← hx0]; exact hx 0
 refine .seq fun _ k1 => .region (.box (.t rfl) rfl fun b1 => st (.as Has.cP) rfl (st (.as (.cI 0 rfl)) rfl (nl (.thn (k1 _ _ (.seq fun _ k2 => .block (.seq fun _ k3 => .region (st (.load (.t rfl) (i := 0) rfl ty24 rfl (Ss' := [_, _, _]) rfl) rfl (st (.eq (.call (zh) (.cons (.t rfl) .nil)) ((show isB _ = isB true from zU (hfo)))) rfl (st (.not (.t rfl)) rfl (st (.mv (.t rfl)) rfl (stF rfl rfl (fun hg => .fieldAddr (.t rfl) zT ty3) rfl (stF rfl rfl (fun hg => .load1 (Has.g rfl hg) (i := 0) rfl ty3 rfl) rfl (stF rfl rfl (fun hg => .fieldAddr (.t rfl) zS ty3) rfl (stF rfl rfl (fun hg => .load1 (Has.g rfl hg) (i := 0) rfl ty3 rfl) rfl (stF rfl rfl (fun hg => .neI (Has.g rfl hg) (Has.g rfl hg)) rfl (st (.pickOr (.t rfl) (fun h => Has.g rfl (ng h))) rfl (st (.as (.t rfl)) rfl (nl (.thn (k3 _ _ (.cv (Cv.wk (.l [1, 2, 3, 8] rfl)) (.cond (.t rfl) (fun hc1 => ?_) (fun hc1 => ?_))))))))))))))))))))))))
 ·have hc1 := BP.t hc1
  exfalso; simp at hc1
 ·have hc1 := BP.f hc1
  skip
  refine .seq fun _ k4 => .region (st (.load (.t rfl) (i := 0) rfl ty24 rfl (Ss' := [_, _, _]) rfl) rfl (st (.call (lll_own1 hx hK hl hx0) (.cons (.t rfl) .nil)) rfl (st (.not (.t rfl)) rfl (st (.as (.t rfl)) rfl (nl (.thn (k4 _ _ (.cond (.t rfl) (fun hc2 => ?_) (fun hc2 => ?_)))))))))
  ·have hc2 := BP.t hc2
   exfalso; simp at hc2
  ·have hc2 := BP.f hc2
   skip
   refine .skip (.bln (.thn (k2 _ _ (.cv (Cv.wk (.l [1, 2, 3] rfl)) (.seq fun _ k5 => .dr (.s [] rfl rfl rfl (.o rfl (.fieldAddr (.t rfl) zT ty3)) (.s [23] rfl rfl rfl (.o rfl (.load1 (.t rfl) (i := 0) rfl ty3 rfl)) (.s [] rfl rfl rfl (.o rfl (.call (qi) (.cons (.cI 1 rfl) .nil))) (.s [25] rfl rfl rfl (.o rfl (.buildSE (fk := zc) [isB false, SlM isU []] ([nz 1]) sl22 ty41 zG (fun _ _ => ⟨rfl, nilM _ _, trivial⟩) rfl rfl (.cons (.t rfl) rfl rfl rfl .nil) rfl rfl)) (.fin (n := 4) zR (by kernel_rfl) (by kernel_rfl) (by kernel_rfl) (.cv (Cv.wk (.l [1, 2, 3, 24, 26] rfl)) (st (.build [isI 0, nilS, nilS, nilS, isB false, SlM isU [], isB false, SlM isU [], isI 0] pl110 zero110 (fun _ _ => ⟨⟨rfl, by decide, by decide⟩, rfl, rfl, rfl, rfl, nilM _ _, rfl, nilM _ _, ⟨rfl, by decide, by decide⟩, trivial⟩) (.cons (.t rfl) rfl rfl rfl (.cons (.t rfl) rfl rfl rfl .nil)) (Z'' := [_, _, _, _, _, _, _, _, _]) rfl) rfl (.box (.t rfl) rfl fun b2 => st (.as (.t rfl)) rfl (nl (.thn (k5 _ _ (.seq fun _ k6 => .seq fun _ k7 => .region (st (.fieldAddr (.t rfl) zT ty3) rfl (st (.load1 (.t rfl) (i := 1) rfl ty3 rfl) rfl (st (.mv (.cI 0 rfl)) rfl (nl (.thn (k7 _ _ (.cv (Cv.wk (.l [1, 2, 3, 4, 30, 31] rfl)) (.block (.loopF [1, 4, 30] (fun (z : Option (Gr Row × Gr Row × Gr (Bool × List Nat) × Gr (Bool × List Nat) × Gr (Bool × List Nat))) => match z with | none => [(31, isI 0)] | some _ => [(31, isI 1)]) (fun M => fun (z : Option (Gr Row × Gr Row × Gr (Bool × List Nat) × Gr (Bool × List Nat) × Gr (Bool × List Nat))) => match z with | none => [(some b2, zB [isI 1, SlE 2 zc [nz 1], nilS, nilS, isB false, SlM isU [], isB false, SlM isU [], isI 0]), (some b1, zB [isI 1, isI 1, SlK 2 zc xs])] | some (gl, gu, r, s, gd) => [grMK zc gd [nz 1, nz x], grMK zc s ([1].map nz), grM rowV gu [(s, [1])], grMK zc r ([0].map nz), grM rowV gl [(r, [0])], (some b2, zB [isI 1, isGr gd 2, isGr gl 1, isGr gu 1, isB false, zD [], isB false, zD [], isI 0]), (some b1, zB [isI 1, isI 1, SlK 2 zc xs])]) (fun (z : Option (Gr Row × Gr Row × Gr (Bool × List Nat) × Gr (Bool × List Nat) × Gr (Bool × List Nat))) => match z with | none => 1 | some _ => 0) (none) (Cv.mem (.c 31 rfl ?_ (.l [1, 4, 30] rfl)) ?_) ?_))))))))))))))))))))))))))
   ·rfl
   ·rfl
   intro z K8 hK8
   rcases z with _ | ⟨gl, gu, r, s, gd⟩
   ·refine .cv (Cv.wk (.l [31, 1, 4, 30] rfl)) (.memEq (M' := [(some b2, zB [isI 1, SlE 2 zc [nz 1], nilS, nilS, isB false, SlM isU [], isB false, SlM isU [], isI 0]), (some b1, zB [isI 1, isI 1, SlK 2 zc xs])]) rfl (.seq fun _ k9 => .region (st (.ltI (.t rfl) (.t rfl)) rfl (nl (.thn (k9 _ _ (.seq fun _ k10 => .cond (.t rfl) (fun hc3 => ?_) (fun hc3 => ?_))))))))
    ·have hc3 := BP.t hc3
     skip
     refine .skip (.thn (k10 _ _ (.seq fun _ k11 => .block (.seq fun _ k12 => .region (st (.mv (.t rfl)) rfl (st (.as (.t rfl)) rfl (nl (.thn (k12 _ _ (.seq fun _ k13 => .cv (Cv.growF (Row) (i := 0) (o := 2) rfl rfl rfl) (.memEq (M' := [grM rowV Gr.nil [], _, _]) rfl (.dry zR (.tk 0 rfl rfl rfl rfl (OKY.mv (.t rfl)) (.tk 1 rfl rfl rfl rfl (OKY.mv (.t rfl)) (.tk 2 rfl rfl rfl rfl (OKY.nilc (.t rfl)) (.tk 3 rfl rfl rfl rfl (OKY.fieldAddr (.t rfl) fld110_2 zw) (.tk 5 rfl rfl rfl rfl (OKY.fieldAddr (.t rfl) zT ty3) (.tl 4 rfl rfl rfl rfl (OKL.load1 (.t rfl) (i := 1) rfl zw rfl) (.go [] (.fin [6, 7, 8, 9, 10, 11, 12] (by kernel_rfl) (by kernel_rfl) (fun _ _ _ _ _ h => h) (by kernel_rfl) (by kernel_rfl) (by kernel_rfl) (by kernel_rfl) (by kernel_rfl) (by kernel_rfl) (by kernel_rfl) (by kernel_rfl) (by kernel_rfl) (.cv (Cv.wk (.l [1, 4, 30, 31, 32, 33, 5, 34, 35, 36, 37, 39, 38] rfl)) (st (.load1 (.t rfl) (i := 2) rfl ty3 rfl) rfl (.makeK (fk := zc) (u := (false, [])) (n := 1) (c := 1) sl22 ty41 zG (fun _ _ => ⟨rfl, nilM _ _, trivial⟩) zO by41 (Has.t' rfl rfl) (Has.t' rfl rfl) ⟨by omega, by omega⟩ rfl fun b3 => .cv (Cv.trans (Cv.winRow (t := 41) (i := 0) (ys := [0].map nz) rfl rfl (by rw [show [0].map nz = [nz 0] from rfl, nz0]; rfl) rfl) (Cv.memEq (M' := [(grMK zc ⟨some b3, 1, []⟩ ([0].map nz)), _, _, _]) rfl)) ?_)))))))))))))))))))))))
     refine st (.buildS [nilS] qv ty22 aX (fun _ _ => ⟨rfl, trivial⟩) rfl rfl (.cons (.t rfl) rfl rfl rfl .nil) rfl (S := SlM rowV [((⟨some b3, 1, []⟩ : Gr (Bool × List Nat)), [0])]) rfl) rfl (.appendG (f := rowV) (u := (Gr.nil, [])) qv ty22 aX (fun _ _ => ⟨gr0, trivial⟩) (fun _ => inferInstance) by22 (.t rfl) (i := 1) rfl (.t rfl) (by simp only [List.length_cons, List.length_nil]; omega) (by simp) rfl fun gr2 => ?_)
     refine .memEq (M' := [_, grM _ _ _, _, _]) rfl (st (.nilc (.t rfl)) rfl (st (.fieldAddr (.t rfl) fld110_2 zw) rfl (.store (.t rfl) (.t rfl) (i := 2) rfl zw rfl rfl (Ss' := [_, _, _, _, _, _, _, _, _]) rfl (M' := [_, _, (some _, zB [_, _, _, _, _, _, _, _, _]), _]) rfl (nl (.thn (k13 _ _ (.seq fun _ k14 => .cv (Cv.growF (Row) (i := 2) (o := 3) rfl rfl rfl) (.memEq (M' := [grM rowV Gr.nil [], _, _, _, _]) rfl (.dry zR (.tk 0 rfl rfl rfl rfl (OKY.mv (.t rfl)) (.tk 1 rfl rfl rfl rfl (OKY.mv (.t rfl)) (.tk 2 rfl rfl rfl rfl (OKY.nilc (.t rfl)) (.tk 3 rfl rfl rfl rfl (OKY.fieldAddr (.t rfl) aP zw) (.tk 5 rfl rfl rfl rfl (OKY.fieldAddr (.t rfl) zT ty3) (.tl 4 rfl rfl rfl rfl (OKL.load1 (.t rfl) (i := 3) rfl zw rfl) (.go [] (.fin [6, 7, 8, 9, 10, 11, 12] (by kernel_rfl) (by kernel_rfl) (fun _ _ _ _ _ h => h) (by kernel_rfl) (by kernel_rfl) (by kernel_rfl) (by kernel_rfl) (by kernel_rfl) (by kernel_rfl) (by kernel_rfl) (by kernel_rfl) (by kernel_rfl) (.cv (Cv.wk (.l [1, 4, 30, 31, 32, 33, 5, 34, 35, 36, 37, 39, 38, 40, 41, 42, 43, 44, 45, 46, 47, 48, 49, 51, 50] rfl)) (st (.load1 (.t rfl) (i := 4) rfl ty3 rfl) rfl (.makeK (fk := zc) (u := (false, [])) (n := 1) (c := 1) sl22 ty41 zG (fun _ _ => ⟨rfl, nilM _ _, trivial⟩) zO by41 (Has.t' rfl rfl) (Has.t' rfl rfl) ⟨by omega, by omega⟩ rfl fun b4 => .cv (Cv.trans (Cv.winRow (t := 53) (i := 0) (ys := [0].map nz) rfl rfl (by rw [show [0].map nz = [nz 0] from rfl, nz0]; rfl) rfl) (Cv.memEq (M' := [(grMK zc ⟨some b4, 1, []⟩ ([0].map nz)), _, _, _, _, _]) rfl)) ?_))))))))))))))))))))
     refine st (.buildS [nilS] qv ty22 aX (fun _ _ => ⟨rfl, trivial⟩) rfl rfl (.cons (.t rfl) rfl rfl rfl .nil) rfl (S := SlM rowV [((⟨some b4, 1, []⟩ : Gr (Bool × List Nat)), [0])]) rfl) rfl (.appendG (f := rowV) (u := (Gr.nil, [])) qv ty22 aX (fun _ _ => ⟨gr0, trivial⟩) (fun _ => inferInstance) by22 (.t rfl) (i := 1) rfl (.t rfl) (by simp only [List.length_cons, List.length_nil]; omega) (by simp) rfl fun gr3 => ?_)
     refine .memEq (M' := [_, grM _ _ _, _, _, _, _]) rfl (st (.nilc (.t rfl)) rfl (st (.fieldAddr (.t rfl) aP zw) rfl (.store (.t rfl) (.t rfl) (i := 4) rfl zw rfl rfl (Ss' := [_, _, _, _, _, _, _, _, _]) rfl (M' := [_, _, _, _, (some _, zB [_, _, _, _, _, _, _, _, _]), _]) rfl (nl (.thn (k14 _ _ (.seq fun _ k15 => .dr (.s [] rfl rfl rfl (.o rfl (.mv (.t rfl))) (.s [58] rfl rfl rfl (.o rfl (.nilc (.t rfl))) (.s [59] rfl rfl rfl (.o rfl (.fieldAddr (.t rfl) aP zw)) (.s [60] rfl rfl rfl (.o rfl (.load1 (.t rfl) (i := 4) rfl zw rfl)) (.s [] rfl rfl rfl (.o rfl (.mv (.t rfl))) (.s [61, 62] rfl rfl rfl (.o rfl (.ixGr qv ty22 (.t rfl) (.t rfl) ⟨by omega, by omega⟩)) ?_)))))))))))))
     refine .s [63] rfl rfl rfl (.o rfl (.loadGM (.t rfl) (i := 1) rfl ty22 rfl)) (.s [] rfl rfl rfl (.o rfl (.mv (.t rfl))) (.s [] rfl rfl rfl (.o rfl (.call (qi) (.cons (.cI 1 rfl) .nil))) (.fin (n := 9) zR (by kernel_rfl) (by kernel_rfl) (by kernel_rfl) (.cv (Cv.wk (.l [1, 4, 30, 31, 32, 33, 5, 34, 35, 36, 37, 39, 38, 40, 41, 42, 43, 44, 45, 46, 47, 48, 49, 51, 50, 52, 53, 54, 55, 56, 57, 58, 59, 60, 61, 62, 63, 64, 65, 66] rfl)) ?_))))
     refine st (.ixGr sl22 ty41 (.t rfl) (.t rfl) ⟨by decide, by show (0 : Int) < 1; decide⟩) rfl ?_
     refine .storeGK (z := nz 1) zO (.t rfl) (.t rfl) (i := 0) rfl ty41 (by decide) (M' := [grMK _ _ _, _, _, _, _, _]) rfl (nl (.thn (k15 _ _ (.seq fun _ k16 => .seq fun _ k17 => .region (st (.mv (.t rfl)) rfl (st (.mv (.cI 0 rfl)) rfl (nl (.thn (k17 _ _ (.block (.loopF [1, 4, 30, 31, 32, 33, 5, 34, 35, 36, 37, 39, 38, 40, 41, 42, 43, 44, 45, 46, 47, 48, 49, 51, 50, 52, 53, 54, 55, 56, 57, 58, 59, 60, 61, 62, 63, 64, 65, 66, 67, 68] (fun (_ : Unit) => [(69, isI 0)]) (fun M => fun (_ : Unit) => M) (fun (_ : Unit) => 0) (()) (Cv.mem (.c 69 rfl ?_ (.l [1, 4, 30, 31, 32, 33, 5, 34, 35, 36, 37, 39, 38, 40, 41, 42, 43, 44, 45, 46, 47, 48, 49, 51, 50, 52, 53, 54, 55, 56, 57, 58, 59, 60, 61, 62, 63, 64, 65, 66, 67, 68] rfl)) ?_) ?_)))))))))))
     ·rfl
     ·rfl
     rintro _ K18 hK18
     refine .cv (Cv.wk (.l [69, 1, 4, 30, 31, 32, 33, 5, 34, 35, 36, 37, 39, 38, 40, 41, 42, 43, 44, 45, 46, 47, 48, 49, 51, 50, 52, 53, 54, 55, 56, 57, 58, 59, 60, 61, 62, 63, 64, 65, 66, 67, 68] rfl)) (.seq fun _ k19 => .region (st (.ltI (.t rfl) (.t rfl)) rfl (nl (.thn (k19 _ _ (.seq fun _ k20 => .cond (.t rfl) (fun hc4 => ?_) (fun hc4 => ?_)))))))
     ·have hc4 := BP.t hc4
      exfalso; omega
     ·have hc4 := BP.f hc4
      skip
      refine .exit (.the (.the (.blh (.thn (k16 _ _ (.seq fun _ k21 => .region (st (.mv (.t rfl)) rfl (st (.load (.t rfl) (i := 5) rfl ty24 rfl (Ss' := [_, _, _]) rfl) rfl (st (.mv (.t rfl)) rfl (st (.mv (.t rfl)) rfl (st (.call (lll_entry0 hx hK hl hx0) (.cons (.t rfl) (.cons (.t rfl) (.cons (.t rfl) (.cons (.t rfl) .nil))))) rfl (.alloc [isB false, SlM isU []] zG (fun _ _ => ⟨rfl, nilM _ _, trivial⟩) rfl fun b5 => .store (.t rfl) (.t rfl) (i := 0) rfl ty41 rfl rfl (Ss' := [_, _]) rfl (M' := [(some _, zB [_, _]), _, _, _, _, _, _]) rfl (nl (.thn (k21 _ _ (.seq fun _ k22 => .seq fun _ k23 => .region (st (.load (.t rfl) (i := 0) rfl ty41 rfl (Ss' := [_, _]) rfl) rfl (st (.call (zd (by rw [zC]; omega)) (.cons (.t rfl) .nil)) rfl ?_))))))))))))))))))
      refine st (.leI (.t rfl) (.cI 0 rfl)) rfl (nl (.thn (k23 _ _ (.cond (.t rfl) (fun hc5 => ?_) (fun hc5 => ?_)))))
      ·have hc5 := BP.t hc5
       exfalso; rw [zH] at hc5; rcases zp x with h | h | h <;> omega
      ·have hc5 := BP.f hc5
       skip
       refine .skip (.thn (k22 _ _ (.dry zR (.tk 0 rfl rfl rfl rfl (OKY.mv (.t rfl)) (.tk 1 rfl rfl rfl rfl (OKY.mv (.t rfl)) (.tk 2 rfl rfl rfl rfl (OKY.nilc (.t rfl)) (.tk 3 rfl rfl rfl rfl (OKY.fieldAddr (.t rfl) fld110_1 ty22) (.tl 4 rfl rfl rfl rfl (OKL.load1 (.t rfl) (i := 5) rfl ty22 rfl) (.go [] (.fin [5, 6, 7, 8, 9, 10] (by kernel_rfl) (by kernel_rfl) (fun _ _ _ _ _ h => h) (by kernel_rfl) (by kernel_rfl) (by kernel_rfl) (by kernel_rfl) (by kernel_rfl) (by kernel_rfl) (by kernel_rfl) (by kernel_rfl) (by kernel_rfl) (.cv (Cv.wk (.l [1, 4, 30, 31, 32, 33, 5, 34, 35, 36, 37, 39, 38, 40, 41, 42, 43, 44, 45, 46, 47, 48, 49, 51, 50, 52, 53, 54, 55, 56, 57, 58, 59, 60, 61, 62, 63, 64, 65, 66, 67, 68, 69, 70, 87, 88, 89, 90, 91, 7, 92, 93, 94, 95, 96, 97, 98, 99] rfl)) (st (.load (.t rfl) (i := 0) rfl ty41 rfl (Ss' := [_, _]) rfl) rfl (st (.buildS [isB false, SlM isU []] sl22 ty41 zG (fun _ _ => ⟨rfl, nilM _ _, trivial⟩) rfl rfl (.cons (.t rfl) rfl rfl rfl .nil) rfl (S := SlK 2 zc [nz x]) rfl) rfl (.appendE (fk := zc) (u := (false, [])) zO (by decide) sl22 ty41 zG (fun _ _ => ⟨rfl, nilM _ _, trivial⟩) by41 (.t rfl) (.t rfl) (by simp only [List.length_cons, List.length_nil]; omega) (by simp) rfl fun gr4 => ?_))))))))))))))
       refine st (.nilc (.t rfl)) rfl (st (.fieldAddr (.t rfl) fld110_1 ty22) rfl (.store (.t rfl) (.t rfl) (i := 6) rfl ty22 rfl rfl (Ss' := [_, _, _, _, _, _, _, _, _]) rfl (M' := [_, _, _, _, _, _, (some _, zB [_, _, _, _, _, _, _, _, _]), _]) rfl (nl (.bln (.thn (k11 _ _ (.region (st (.addI (.t rfl) (.cI 1 rfl) (by omega) (by omega)) rfl (st (.mv (.t rfl)) rfl (nl (.thn (hK8 (some (gr2, gr3, ⟨some b3, 1, []⟩, ⟨some b4, 1, []⟩, gr4)) _ _ ?_ (Cv.trans (Cv.drop ((.cons_cons _ (.cons _ (.cons_cons _ (.cons_cons _ (.cons_cons _ (.cons_cons _ (.cons_cons _ (.cons_cons _ .slnil)))))))))) (Cv.mem (.c 31 rfl ?_ (.l [1, 4, 30] rfl)) ?_))))))))))))))
       ·show 0 < 1; omega
       ·rfl
       ·rfl
    ·have hc3 := BP.f hc3
     exfalso; omega
   ·refine .cv (Cv.wk (.l [31, 1, 4, 30] rfl)) (.memEq (M' := [grMK zc gd [nz 1, nz x], grMK zc s ([1].map nz), grM rowV gu [(s, [1])], grMK zc r ([0].map nz), grM rowV gl [(r, [0])], (some b2, zB [isI 1, isGr gd 2, isGr gl 1, isGr gu 1, isB false, zD [], isB false, zD [], isI 0]), (some b1, zB [isI 1, isI 1, SlK 2 zc xs])]) rfl (.seq fun _ k24 => .region (st (.ltI (.t rfl) (.t rfl)) rfl (nl (.thn (k24 _ _ (.seq fun _ k25 => .cond (.t rfl) (fun hc6 => ?_) (fun hc6 => ?_))))))))
    ·have hc6 := BP.t hc6
     exfalso; omega
    ·have hc6 := BP.f hc6
     skip
     refine .exit (.the (.the (.blh (.thn (k6 _ _ (.seq fun _ k26 => .region (st (.mv (.t rfl)) rfl (st (.as (.t rfl)) rfl (st (.as (.cI 0 rfl)) rfl (nl (.thn (k26 _ _ (.cv (Cv.wk (.l [2, 3] rfl)) (.ret (rtXND (.cons_cons _ (.cons_cons _ (.cons_cons _ (.cons_cons _ (.cons_cons _ (.cons_cons _ (.cons _ .slnil))))))) (.inl rfl) Tryz.results106 rfl rfl (.tmp (.t rfl) (.tmp (.t rfl) .nil)) (⟨b2, gd, r, s, gl, gu, rfl, rfl⟩))))))))))))))))
theorem lll_may {m n : Bool} {ps qs : List Nat} (hpw : (List.length (zA (val ps))) ≤ 100000000) (hqw : (List.length (zA (val qs))) ≤ 100000000) : Ctr Tryz.prog 105 [Flat [isB m, zD ps], Flat [isB n, zD qs]] (isB (decide (0 < sgn (zv n qs)) && decide (0 < cmpZ (zv m ps * 4) (zv n qs)) && decide (cmpZ (zv m ps) (zv n qs) < 0))) := by
 refine Ctr.intro Tryz.func105 rfl (by kernel_rfl) Tryz.ntmps105 rfl fun w0 F0 => .cv (Cv.wk (.l [0, 1] rfl)) (.fact (Has.okZ (Has.t (t := 0) rfl)) fun okz0 => .fact (Has.okZ (Has.t (t := 1) rfl)) fun okz1 => ?_)
 have hp4 := qD (zv m ps) 4
 rw [xZ] at hp4
 have h4 : (List.length (zA (4 : Int).natAbs)) ≤ 1 := zz (by decide)
 refine .seq fun _ k1 => .region (.box (.t rfl) rfl fun b1 => .box (.t rfl) rfl fun b2 => st (.as (.cB false)) rfl (nl (.thn (k1 _ _ (.seq fun _ k2 => .dr (.s [] rfl rfl rfl (.o rfl (.load (.t rfl) (i := 0) rfl ty41 rfl (Ss' := [_, _]) rfl)) (.s [5] rfl rfl rfl (.o rfl (.call (zd (by omega)) (.cons (.t rfl) .nil))) (.s [6] rfl rfl rfl (.o rfl (.gtI (.t rfl) (.cI 0 rfl))) (.s [7] rfl rfl rfl (.o rfl (.mv (.t rfl))) (.s [8] rfl rfl rfl (.T rfl rfl rfl (fun hg => .load (.t rfl) (i := 1) rfl ty41 rfl (Ss' := [_, _]) rfl)) (.s [8] rfl rfl rfl (.T rfl rfl rfl (fun hg => .call (qi) (.cons (.cI 4 rfl) .nil))) ?_)))))))))))
 refine .s [8, 9, 10] rfl rfl rfl (.T rfl rfl rfl (fun hg => have hg' := BP.t hg; OK1.eq (.call (qT (by omega) (by rw [zC]; omega)) (.cons (Has.g rfl hg) (.cons (Has.g rfl hg) .nil))) ((show isZ _ = isZ (zv m ps * 4) from zN (by simp only [zH]))))) ?_
 refine .s [8] rfl rfl rfl (.T rfl rfl rfl (fun hg => .load (.t rfl) (i := 0) rfl ty41 rfl (Ss' := [_, _]) rfl)) ?_
 refine .s [8, 11, 12] rfl rfl rfl (.T rfl rfl rfl (fun hg => have hg' := BP.t hg; OK1.eq (.call (cA (by rw [zC]; omega) (by omega)) (.cons (Has.g rfl hg) (.cons (Has.g rfl hg) .nil))) ((show isI _ = isI (cmpZ (zv m ps * 4) (zv n qs)) from zE (by rw [zH]))))) ?_
 refine .s [8, 13] rfl rfl rfl (.T rfl rfl rfl (fun hg => .gtI (Has.g rfl hg) (.cI 0 rfl))) (.s [8, 14] rfl rfl rfl (.o rfl (.pickAnd (.t rfl) (fun h => Has.g rfl h))) (.s [15] rfl rfl rfl (.o rfl (.mv (.t rfl))) (.s [16] rfl rfl rfl (.T rfl rfl rfl (fun hg => .load (.t rfl) (i := 1) rfl ty41 rfl (Ss' := [_, _]) rfl)) (.s [16] rfl rfl rfl (.T rfl rfl rfl (fun hg => .load (.t rfl) (i := 0) rfl ty41 rfl (Ss' := [_, _]) rfl)) (.fin (n := 14) zR (by kernel_rfl) (by kernel_rfl) (by kernel_rfl) (.cv (Cv.wk (.l [4, 16, 17, 18] rfl)) ?_))))))
 refine stT rfl rfl (fun hg => have hg' := BP.t hg; OK1.call (cA (by omega) (by omega)) (.cons (Has.g rfl hg) (.cons (Has.g rfl hg) .nil))) rfl ?_
 refine stT rfl rfl (fun hg => .ltI (Has.g rfl hg) (.cI 0 rfl)) rfl (st (.pickAnd (.t rfl) (fun h => Has.g rfl h)) rfl (st (.as (.t rfl)) rfl (nl (.thn (k2 _ _ (.cv (Cv.wk (.l [4] rfl)) (.ret (rt1 (.inl rfl) Tryz.results105 rfl (.tmp (Has.t' rfl ?_) .nil)))))))))
 all_goals (rfl)
theorem lll_with1 {K : Nat} {xs : List (Bool × List Nat)} {x : Int} (hx : Bd (vals xs) K) (hK : K ≤ 100000000) (hl : xs.length = 1) (hx0 : cf (vals xs) 0 = x) {m n : Bool} {ps qs : List Nat} (hpw : (List.length (zA (val ps))) ≤ 100000000) (hqw : (List.length (zA (val qs))) ≤ 100000000) (hp : 0 < x) (hmy : (decide (0 < sgn (zv n qs)) && decide (0 < cmpZ (zv m ps * 4) (zv n qs)) && decide (cmpZ (zv m ps) (zv n qs) < 0)) = true) : CtrX Tryz.prog 75 [isM 1 1 xs, Flat [isB m, zD ps], Flat [isB n, zD qs]] ([]) (fun S M => ∃ bw gd r s gl gu, S = zQ [qM bw 0, isI 0] ∧ M = lw1 bw gd r s gl gu x m n ps qs) := by
 refine CtrX.intro Tryz.func75 rfl (by kernel_rfl) Tryz.ntmps75 rfl fun w0 F0 => .cv (Cv.wk (.l [0, 1, 2] rfl)) (.fact (Has.okZ (Has.t (t := 1) rfl)) fun okz1 => .fact (Has.okZ (Has.t (t := 2) rfl)) fun okz2 => ?_)
 have hfo : xe 1 1 xs.length = true := zj (R := 1) (C := 1) (by decide) (by decide) hl
 refine .seq fun _ k1 => .region (.box (.t rfl) rfl fun b1 => .box (.t rfl) rfl fun b2 => .box (.t rfl) rfl fun b3 => st (.as Has.cP) rfl (st (.as (.cI 0 rfl)) rfl (nl (.thn (k1 _ _ (.seq fun _ k2 => .block (.seq fun _ k3 => .region (st (.load (.t rfl) (i := 2) rfl ty24 rfl (Ss' := [_, _, _]) rfl) rfl (st (.eq (.call (zh) (.cons (.t rfl) .nil)) ((show isB _ = isB true from zU (hfo)))) rfl (st (.not (.t rfl)) rfl (st (.mv (.t rfl)) rfl (stF rfl rfl (fun hg => .fieldAddr (.t rfl) zT ty3) rfl (stF rfl rfl (fun hg => .load1 (Has.g rfl hg) (i := 2) rfl ty3 rfl) rfl (stF rfl rfl (fun hg => .fieldAddr (.t rfl) zS ty3) rfl (stF rfl rfl (fun hg => .load1 (Has.g rfl hg) (i := 2) rfl ty3 rfl) rfl (stF rfl rfl (fun hg => .neI (Has.g rfl hg) (Has.g rfl hg)) rfl (st (.pickOr (.t rfl) (fun h => Has.g rfl (ng h))) rfl (st (.as (.t rfl)) rfl (nl (.thn (k3 _ _ (.cv (Cv.wk (.l [3, 4, 5, 6, 7, 10] rfl)) (.cond (.t rfl) (fun hc1 => ?_) (fun hc1 => ?_))))))))))))))))))))))))
 ·have hc1 := BP.t hc1
  exfalso; simp at hc1
 ·have hc1 := BP.f hc1
  skip
  refine .seq fun _ k4 => .region (st (.load (.t rfl) (i := 1) rfl ty41 rfl (Ss' := [_, _]) rfl) rfl (st (.load (.t rfl) (i := 0) rfl ty41 rfl (Ss' := [_, _]) rfl) rfl (st (.eq (.call (lll_may hpw hqw) (.cons (.t rfl) (.cons (.t rfl) .nil))) ((show isB _ = isB true from zU (hmy)))) rfl (st (.not (.t rfl)) rfl (st (.as (.t rfl)) rfl (nl (.thn (k4 _ _ (.cv (Cv.wk (.l [3, 4, 5, 6, 7, 21] rfl)) (.cond (.t rfl) (fun hc2 => ?_) (fun hc2 => ?_)))))))))))
  ·have hc2 := BP.t hc2
   exfalso; simp at hc2
  ·have hc2 := BP.f hc2
   skip
   refine .skip (.bln (.thn (k2 _ _ (.seq fun _ k5 => .region (st (.load (.t rfl) (i := 2) rfl ty24 rfl (Ss' := [_, _, _]) rfl) rfl (.callX (lll_begun1 hx hK hl hx0 hp) (List.Perm.refl _) (.cons (.t rfl) .nil) rfl ?_))))))
   rintro _ _ ⟨bw, gd, r, s, gl, gu, rfl, rfl⟩
   refine .memEq (M' := [grMK zc gd [nz 1, nz x], grMK zc s ([1].map nz), grM rowV gu [(s, [1])], grMK zc r ([0].map nz), grM rowV gl [(r, [0])], (some bw, zB [isI 1, isGr gd 2, isGr gl 1, isGr gu 1, isB false, zD [], isB false, zD [], isI 0]), (some b3, zB [isB n, zD qs]), (some b2, zB [isB m, zD ps]), (some b1, zB [isI 1, isI 1, SlK 2 zc xs])]) rfl (st (.mv (.t rfl)) rfl (st (.ext (.t rfl) rfl) rfl (st (.ext (.t rfl) rfl) rfl (st (.as (.t rfl)) rfl (st (.as (.t rfl)) rfl (nl (.thn (k5 _ _ (.cv (Cv.wk (.l [4, 5, 6, 7, 8, 9] rfl)) (.seq fun _ k6 => .seq fun _ k7 => .region (st (.mv (.t rfl)) rfl (st (.eqI (.t rfl) (.cI 0 rfl)) rfl (nl (.thn (k7 _ _ (.cond (.t rfl) (fun hc3 => ?_) (fun hc3 => ?_)))))))))))))))))
   ·have hc3 := BP.t hc3
    skip
    refine .drh [true, true, true, true, true, false, true, true, true] (Ms := [_, _, _, _, _, _, _, _]) rfl (.s [] rfl rfl rfl (.o rfl (.mv (.t rfl))) (.s [] rfl rfl rfl (.o rfl (.mv (.t rfl))) (.s [] rfl rfl rfl (.o rfl (.load (.t rfl) (i := 6) rfl ty41 rfl (Ss' := [_, _]) rfl)) (.s [] rfl rfl rfl (.o rfl (.load (.t rfl) (i := 5) rfl ty41 rfl (Ss' := [_, _]) rfl)) (.s [33] rfl rfl rfl (.o rfl (.nilc (.t rfl))) (.s [37] rfl rfl rfl (.o rfl (.fieldAddr (.t rfl) fld110_4 ty41)) (.mid2 (.cons_cons _ (.cons_cons _ (.cons_cons _ (.cons_cons _ (.cons_cons _ (.cons _ (.cons_cons _ (.cons_cons _ (.cons_cons _ .slnil))))))))) (.st0 [35, 38] rfl rfl (by kernel_rfl) (by kernel_rfl) (StS.store (.t rfl) (.t rfl) (i := 5) rfl ty41 rfl rfl (Ss' := [_, _, _, _, _, _, _, _, _]) rfl (M' := [_, _, _, _, _, (some _, zB [_, _, _, _, _, _, _, _, _]), _, _, _]) rfl) (.cons_cons _ (.cons_cons _ (.cons_cons _ (.cons_cons _ (.cons_cons _ (.cons _ (.cons_cons _ (.cons_cons _ (.cons_cons _ .slnil))))))))) (.fin0 (n := 7) zR rfl (by kernel_rfl) (by kernel_rfl) (by kernel_rfl) (.cv (Cv.wk (.l [6, 7, 8, 9, 34, 36] rfl)) (st (.nilc (.t rfl)) rfl (st (.fieldAddr (.t rfl) fld110_5 ty41) rfl (.store (.t rfl) (.t rfl) (i := 5) rfl ty41 rfl rfl (Ss' := [_, _, _, _, _, _, _, _, _]) rfl (M' := [_, _, _, _, _, (some _, zB [_, _, _, _, _, _, _, _, _]), _, _, _]) rfl (nl (.thn (k6 _ _ (.seq fun _ k8 => .region (st (.mv (.t rfl)) rfl (st (.mv (.t rfl)) rfl (st (.as (.t rfl)) rfl (st (.as (.t rfl)) rfl (nl (.thn (k8 _ _ (.cv (Cv.wk (.l [6, 7] rfl)) (.ret (rtXND (.cons_cons _ (.cons_cons _ (.cons_cons _ (.cons_cons _ (.cons_cons _ (.cons_cons _ (.cons _ (.cons _ (.cons _ .slnil))))))))) (.inl rfl) Tryz.results75 rfl rfl (.tmp (.t rfl) (.tmp (.t rfl) .nil)) (⟨bw, gd, r, s, gl, gu, rfl, rfl⟩))))))))))))))))))))))))))))
   ·have hc3 := BP.f hc3
    exact absurd rfl hc3
theorem lll_run1 {bw : Nat} {gd r s : Gr (Bool × List Nat)} {gl gu : Gr Row} {x : Int} {m n : Bool} {ps qs : List Nat} : CtrX Tryz.prog 76 [qM bw 0] (lw1 bw gd r s gl gu x m n ps qs) (fun S M => S = zQ [] ∧ M = lw1 bw gd r s gl gu x m n ps qs) := by
 refine CtrX.intro Tryz.func76 rfl (by kernel_rfl) Tryz.ntmps76 rfl fun w0 F0 => .cv (Cv.wk (.l [0] rfl)) (.seq fun _ k1 => .region (st (.as (.cI 1 rfl)) rfl (nl (.thn (k1 _ _ (.block (.loopF [0] (fun (_ : Unit) => [(2, isI 1)]) (fun M => fun (_ : Unit) => M) (fun (_ : Unit) => 0) (()) (Cv.mem (.c 2 rfl ?_ (.l [0] rfl)) ?_) ?_)))))))
 ·rfl
 ·rfl
 rintro _ K2 hK2
 refine .cv (Cv.wk (.l [2, 0] rfl)) (.seq fun _ k3 => .seq fun _ k4 => .region (st (.mv (.t rfl)) rfl (st (.mv (.t rfl)) rfl (st (.nilc (.t rfl)) rfl (st (.fieldAddr (.t rfl) cy ty3) rfl (st (.load1 (.t rfl) (i := 5) rfl ty3 rfl) rfl (st (.ltI (.t rfl) (.t rfl)) rfl (nl (.thn (k4 _ _ (.cond (.t rfl) (fun hc1 => ?_) (fun hc1 => ?_))))))))))))
 ·have hc1 := BP.t hc1
  exfalso; omega
 ·have hc1 := BP.f hc1
  skip
  refine .exit (.the (.the (.blh (rtX0 (.inr rfl) Tryz.results76 rfl (⟨rfl, rfl⟩)))))
theorem lll_Reduce1X {K : Nat} {xs : List (Bool × List Nat)} {x : Int} (hx : Bd (vals xs) K) (hK : K ≤ 100000000) (hl : xs.length = 1) (hx0 : cf (vals xs) 0 = x) {m n : Bool} {ps qs : List Nat} (hpw : (List.length (zA (val ps))) ≤ 100000000) (hqw : (List.length (zA (val qs))) ≤ 100000000) (hp : 0 < x) (hmy : (decide (0 < sgn (zv n qs)) && decide (0 < cmpZ (zv m ps * 4) (zv n qs)) && decide (cmpZ (zv m ps) (zv n qs) < 0)) = true) : CtrX Tryz.prog 53 [isM 1 1 xs, Flat [isB m, zD ps], Flat [isB n, zD qs]] ([]) (fun S M => S = zQ [isMz 1 1 [1], isI 0, isI 0]) := by
 refine CtrX.intro Tryz.func53 rfl (by kernel_rfl) Tryz.ntmps53 rfl fun w0 F0 => .cv (Cv.wk (.l [0, 1, 2] rfl)) (.fact (Has.okZ (Has.t (t := 1) rfl)) fun okz1 => .fact (Has.okZ (Has.t (t := 2) rfl)) fun okz2 => .seq fun _ k1 => .region (.box (.t rfl) rfl fun b1 => .box (.t rfl) rfl fun b2 => .box (.t rfl) rfl fun b3 => .alloc [isI 0, isI 0, nilS] zg (fun _ _ => ⟨⟨rfl, by decide, by decide⟩, ⟨rfl, by decide, by decide⟩, rfl, trivial⟩) rfl fun b4 => st (.as (.cI 0 rfl)) rfl (st (.as (.cI 0 rfl)) rfl (nl (.thn (k1 _ _ (.seq fun _ k2 => .region (st (.load (.t rfl) (i := 3) rfl ty24 rfl (Ss' := [_, _, _]) rfl) rfl (st (.load (.t rfl) (i := 2) rfl ty41 rfl (Ss' := [_, _]) rfl) rfl (st (.load (.t rfl) (i := 1) rfl ty41 rfl (Ss' := [_, _]) rfl) rfl (.callX (lll_with1 hx hK hl hx0 hpw hqw hp hmy) (List.Perm.refl _) (.cons (.t rfl) (.cons (.t rfl) (.cons (.t rfl) .nil))) rfl ?_)))))))))))
 rintro _ _ ⟨bw, gd, r, s, gl, gu, rfl, rfl⟩
 refine .memEq (M' := [grMK zc gd [nz 1, nz x], grMK zc s ([1].map nz), grM rowV gu [(s, [1])], grMK zc r ([0].map nz), grM rowV gl [(r, [0])], (some bw, zB [isI 1, isGr gd 2, isGr gl 1, isGr gu 1, isB m, zD ps, isB n, zD qs, isI 0]), (some b4, zB [isI 0, isI 0, nilS]), (some b3, zB [isB n, zD qs]), (some b2, zB [isB m, zD ps]), (some b1, zB [isI 1, isI 1, SlK 2 zc xs])]) rfl (st (.mv (.t rfl)) rfl (st (.ext (.t rfl) rfl) rfl (st (.ext (.t rfl) rfl) rfl (st (.as (.t rfl)) rfl (st (.as (.t rfl)) rfl (nl (.thn (k2 _ _ (.cv (Cv.wk (.l [6, 7, 8, 9, 10] rfl)) (.seq fun _ k3 => .seq fun _ k4 => .region (st (.mv (.t rfl)) rfl (st (.neI (.t rfl) (.cI 0 rfl)) rfl (nl (.thn (k4 _ _ (.cond (.t rfl) (fun hc1 => ?_) (fun hc1 => ?_)))))))))))))))))
 ·have hc1 := BP.t hc1
  exact absurd rfl hc1
 ·have hc1 := BP.f hc1
  skip
  refine .skip (.thn (k3 _ _ (.seq fun _ k5 => .region (st (.mv (.t rfl)) rfl (.callX lll_run1 (List.Perm.refl _) (.cons (.t rfl) .nil) rfl ?_)))))
  rintro _ _ ⟨rfl, rfl⟩
  refine .memEq (M' := [grMK zc gd [nz 1, nz x], grMK zc s ([1].map nz), grM rowV gu [(s, [1])], grMK zc r ([0].map nz), grM rowV gl [(r, [0])], (some bw, zB [isI 1, isGr gd 2, isGr gl 1, isGr gu 1, isB m, zD ps, isB n, zD qs, isI 0]), (some b4, zB [isI 0, isI 0, nilS]), (some b3, zB [isB n, zD qs]), (some b2, zB [isB m, zD ps]), (some b1, zB [isI 1, isI 1, SlK 2 zc xs])]) rfl (nl (.thn (k5 _ _ (.cv (Cv.wk (.l [6, 7, 8, 9] rfl)) (.seq fun _ k6 => .drh [true, true, true, true, true, true, true, true, true, true] (Ms := [_, _, _, _, _, _, _, _, _, _]) rfl (.s [] rfl rfl rfl (.o rfl (.mv (.t rfl))) (.s [27] rfl rfl rfl (.o rfl (.nilc (.t rfl))) (.s [28] rfl rfl rfl (.o rfl (.fieldAddr (.t rfl) cy ty3)) (.s [29] rfl rfl rfl (.o rfl (.load1 (.t rfl) (i := 5) rfl ty3 rfl)) (.s [] rfl rfl rfl (.o rfl (.mv (.t rfl))) (.s [31] rfl rfl rfl (.o rfl (.nilc (.t rfl))) (.s [32] rfl rfl rfl (.o rfl (.fieldAddr (.t rfl) cy ty3)) (.s [33] rfl rfl rfl (.o rfl (.load1 (.t rfl) (i := 5) rfl ty3 rfl)) (.s [30, 34] rfl rfl rfl (.o rfl (.build [isI 0, isI 0, nilS] pl24 zg (fun _ _ => ⟨⟨rfl, by decide, by decide⟩, ⟨rfl, by decide, by decide⟩, rfl, trivial⟩) (.cons (.t rfl) rfl rfl rfl (.cons (.t rfl) rfl rfl rfl .nil)) (Z'' := [_, _, _]) rfl)) (.als2 (n1 := 10) (ds := [11]) (zs := [[isI 0, isI 0, nilS]]) rfl (.cons rfl rfl zg (fun _ _ => ⟨⟨rfl, by decide, by decide⟩, ⟨rfl, by decide, by decide⟩, rfl, trivial⟩) .nil) (.cons_cons _ (.cons_cons _ (.cons_cons _ (.cons_cons _ (.cons_cons _ (.cons_cons _ (.cons_cons _ (.cons_cons _ (.cons_cons _ (.cons_cons _ .slnil)))))))))) (Cs := [_]) rfl (.fin (n := 10) zR rfl (by kernel_rfl) (by kernel_rfl) (by kernel_rfl) (fun bs hbs => ?_)))))))))))))))))
  obtain ⟨b5, rfl⟩ := len1 hbs
  refine .memEq (M' := [_, _, _, _, _, _, _, _, _, _, _]) rfl (.cv (Cv.wk (.k 6 rfl (.k 7 rfl (.k 8 rfl (.k 9 rfl (.k 35 rfl (.cons (t := 11) (Has.op rfl) .nil))))))) (.store (.t rfl) (.t rfl) (i := 0) rfl ty24 rfl rfl (Ss' := [_, _, _]) rfl (M' := [(some _, zB [_, _, _]), _, _, _, _, _, _, _, _, _, _]) rfl (nl (.thn (k6 _ _ (.seq fun _ k7 => .seq fun _ k8 => .cv (Cv.growF (Bool × List Nat) (i := 0) (o := 2) rfl rfl rfl) (.memEq (M' := [grMK zc Gr.nil [], _, _, _, _, _, _, _, _, _, _, _]) rfl (.region (st (.mv (.t rfl)) rfl (st (.nilc (.t rfl)) rfl (st (.fieldAddr (.t rfl) aP zw) rfl (st (.load1 (.t rfl) (i := 7) rfl zw rfl) rfl (.cv (Cv.drop ((.cons_cons _ (.cons_cons _ (.cons _ (.cons_cons _ (.cons_cons _ (.cons _ (.cons _ (.cons_cons _ (.cons_cons _ (.cons _ (.cons _ (.cons _ .slnil)))))))))))))) (.cv (Cv.wk (.l [6, 7, 8, 9, 35, 11, 36, 37, 38, 39] rfl)) (st (.len qv (.t rfl)) rfl (st (.mv (.cI 0 rfl)) rfl (nl (.thn (k8 _ _ (.block (.loopF [6, 7, 8, 9, 11, 39, 40] (fun (z : Option (Gr (Bool × List Nat))) => match z with | none => [(41, isI 0)] | some _ => [(41, isI 1)]) (fun M => fun (z : Option (Gr (Bool × List Nat))) => match z with | none => [grMK zc Gr.nil [], (some b5, zB [isI 1, isI 1, isGr (Gr.nil : Gr (Bool × List Nat)) 0]), grMK zc s ([1].map nz), grM rowV gu [(s, [1])], (some bw, zB [isI 1, isGr gd 2, isGr gl 1, isGr gu 1, isB m, zD ps, isB n, zD qs, isI 0]), (some b4, zB [isI 0, isI 0, nilS])] | some g => [grMK zc g [nz 1], (some b5, zB [isI 1, isI 1, isGr g 1]), (some bw, zB [isI 1, isGr gd 2, isGr gl 1, isGr gu 1, isB m, zD ps, isB n, zD qs, isI 0]), (some b4, zB [isI 0, isI 0, nilS])]) (fun (z : Option (Gr (Bool × List Nat))) => match z with | none => 1 | some _ => 0) (none) (Cv.mem (.c 41 rfl ?_ (.l [6, 7, 8, 9, 11, 39, 40] rfl)) ?_) ?_)))))))))))))))))))))
  ·rfl
  ·rfl
  intro z K9 hK9
  rcases z with _ | g
  ·refine .cv (Cv.wk (.l [41, 6, 7, 8, 9, 11, 39, 40] rfl)) (.memEq (M' := [grMK zc Gr.nil [], (some b5, zB [isI 1, isI 1, isGr (Gr.nil : Gr (Bool × List Nat)) 0]), grMK zc s ([1].map nz), grM rowV gu [(s, [1])], (some bw, zB [isI 1, isGr gd 2, isGr gl 1, isGr gu 1, isB m, zD ps, isB n, zD qs, isI 0]), (some b4, zB [isI 0, isI 0, nilS])]) rfl (.seq fun _ k10 => .region (st (.ltI (.t rfl) (.t rfl)) rfl (nl (.thn (k10 _ _ (.seq fun _ k11 => .cond (.t rfl) (fun hc2 => ?_) (fun hc2 => ?_))))))))
   ·have hc2 := BP.t hc2
    skip
    refine .skip (.thn (k11 _ _ (.seq fun _ k12 => .block (.seq fun _ k13 => .region (st (.ixGr qv ty22 (.t rfl) (.t rfl) ⟨by decide, by decide⟩) rfl (st (.loadGM (.t rfl) (i := 3) rfl ty22 rfl) rfl (st (.as (.t rfl)) rfl (nl (.thn (k13 _ _ (.region (st (.fieldAddr (.t rfl) qU ty22) rfl (st (.load1 (.t rfl) (i := 1) rfl ty22 rfl) rfl (st (.mv (.t rfl)) rfl (.cv (Cv.trans (Cv.freezeGK (t := 47) (i := 2) (ys := [nz 1]) zO rfl rfl rfl) (Cv.memEq (M' := [_, _, _, _, _]) rfl)) (.appendGK (fk := zc) (u := (false, [])) zO (by decide) (fun _ => inferInstance) sl22 ty41 zG (fun _ _ => ⟨rfl, nilM _ _, trivial⟩) by41 (.t rfl) (i := 0) rfl (.t rfl) (by decide) (by decide) rfl fun gr1 => .memEq (M' := [grMK _ _ _, _, _, _, _]) rfl (st (.fieldAddr (.t rfl) qU ty22) rfl (.store (.t rfl) (.t rfl) (i := 1) rfl ty22 rfl rfl (Ss' := [_, _, _]) rfl (M' := [_, (some _, zB [_, _, _]), _, _, _]) rfl (nl (.bln (.thn (k12 _ _ (.region (st (.addI (.t rfl) (.cI 1 rfl) (by omega) (by omega)) rfl (st (.mv (.t rfl)) rfl (nl (.thn (hK9 (some gr1) _ _ ?_ (Cv.trans (Cv.drop ((.cons_cons _ (.cons_cons _ (.cons _ (.cons_cons _ (.cons_cons _ .slnil))))))) (Cv.mem (.c 41 rfl ?_ (.l [6, 7, 8, 9, 11, 39, 40] rfl)) ?_))))))))))))))))))))))))))))))
    ·show 0 < 1; omega
    ·rfl
    ·rfl
   ·have hc2 := BP.f hc2
    exfalso; omega
  ·refine .cv (Cv.wk (.l [41, 6, 7, 8, 9, 11, 39, 40] rfl)) (.memEq (M' := [grMK zc g [nz 1], (some b5, zB [isI 1, isI 1, isGr g 1]), (some bw, zB [isI 1, isGr gd 2, isGr gl 1, isGr gu 1, isB m, zD ps, isB n, zD qs, isI 0]), (some b4, zB [isI 0, isI 0, nilS])]) rfl (.seq fun _ k14 => .region (st (.ltI (.t rfl) (.t rfl)) rfl (nl (.thn (k14 _ _ (.seq fun _ k15 => .cond (.t rfl) (fun hc3 => ?_) (fun hc3 => ?_))))))))
   ·have hc3 := BP.t hc3
    exfalso; omega
   ·have hc3 := BP.f hc3
    skip
    refine .exit (.the (.the (.blh (.thn (k7 _ _ (.seq fun _ k16 => .cv (Cv.freezeF (k := 2) (i := 0) (j := 0) (o := 2) rfl rfl rfl rfl (aO (ys := [nz 1]) zO) (wJ (ys := [nz 1]) zO) (Ss' := [_, _, SlK 2 zc ([nz 1])]) rfl) (.memEq (M' := [(some _, zB [_, _, SlK 2 zc ([nz 1])]), _, _]) rfl (.cv (Cv.wk (.l [6, 7, 8, 9, 11, 39, 40, 41, 42] rfl)) (.drh [true, true, false] (Ms := [_, _]) rfl (.s [] rfl rfl rfl (.o rfl (.load (.t rfl) (i := 0) rfl ty24 rfl (Ss' := [_, _, _]) rfl)) (.s [] rfl rfl rfl (.o rfl (.mv (.t rfl))) (.s [52] rfl rfl rfl (.o rfl (.nilc (.t rfl))) (.s [53] rfl rfl rfl (.o rfl (.fieldAddr (.t rfl) fld110_6 ty3)) (.s [54] rfl rfl rfl (.o rfl (.load1 (.t rfl) (i := 1) rfl ty3 rfl)) (.mid2 (.cons_cons _ (.cons_cons _ (.cons _ .slnil))) (.st0 [51] rfl rfl (by kernel_rfl) (by kernel_rfl) (StS.store (.t rfl) (.t rfl) (i := 2) rfl ty24 rfl rfl (Ss' := [_, _, _]) rfl (M' := [_, _, (some _, zB [_, _, _])]) rfl) (.cons_cons _ (.cons_cons _ (.cons _ .slnil))) (.fin0 (n := 6) zR rfl (by kernel_rfl) (by kernel_rfl) (by kernel_rfl) (.cv (Cv.wk (.l [6, 7, 8, 55] rfl)) (st (.as (.t rfl)) rfl (st (.as (.cI 0 rfl)) rfl (nl (.thn (k16 _ _ (.ret (rtXND (.cons _ (.cons _ (.cons _ .slnil))) (.inl rfl) Tryz.results53 rfl rfl (.cell rfl (i := 2) rfl ty24 rfl rfl (.tmp (.t rfl) (.tmp (.t rfl) .nil))) (rfl))))))))))))))))))))))))))
end Go.Proofs.YthmhlblaleahpaaGreat
namespace Go.Proofs.YthmhlblaleahpaaGreat
open Go.En Go.RowKit
set_option maxRecDepth 10000
set_option maxHeartbeats 4000000
open Go.Nt
open Go.Pz
open Go.Mz
open Go.Hn
open Go.Hp
open Go.Dt
theorem gram_Reduce1 {m n : Bool} {ps qs : List Nat} (hpw : (List.length (zA (val ps))) ≤ 100000000) (hqw : (List.length (zA (val qs))) ≤ 100000000) (hmy : (decide (0 < sgn (zv n qs)) && decide (0 < cmpZ (zv m ps * 4) (zv n qs)) && decide (cmpZ (zv m ps) (zv n qs) < 0)) = true) : CtrX Tryz.prog 19 [isM 2 1 ([1, 1].map nz), Flat [isB m, zD ps], Flat [isB n, zD qs]] ([]) (fun S M => S = zQ [isMz 2 1 [0, 1], isMz 2 2 gm11U, isI 0, isI 0]) := by
 refine CtrX.intro Tryz.func19 rfl (by kernel_rfl) Tryz.ntmps19 rfl fun w0 F0 => .cv (Cv.wk (.l [0, 1, 2] rfl)) (.fact (Has.okZ (Has.t (t := 1) rfl)) fun okz1 => .fact (Has.okZ (Has.t (t := 2) rfl)) fun okz2 => ?_)
 have hb := gm11_b
 have hb1 : Bd [1] 1 := bd64 (by decide)
 have hb0 : Bd [0] 1 := bd64 (by decide)
 have hb10 : Bd [1, 0] 1 := bd64 (by decide)
 obtain ⟨Ul, hUl⟩ : ∃ U, U = uL 2 1 [1, 1] := ⟨_, rfl⟩
 have uLl : Ul.length = 2 * 2 := by rw [hUl]; exact uL_len hb
 have uLb : Bd Ul 20 := by rw [hUl]; exact (uL_bd (R := 2) (C := 1) hb).mono (by decide)
 obtain ⟨U0, hU0⟩ : ∃ U, U = tab ((1 - 0) * 2) 2 fun i k => cf Ul ((0 + i) * 2 + k) := ⟨_, rfl⟩
 obtain ⟨U1, hU1⟩ : ∃ U, U = tab ((2 - 1) * 2) 2 fun i k => cf Ul ((1 + i) * 2 + k) := ⟨_, rfl⟩
 have hU0l : U0.length = 1 * 2 := by rw [hU0]; exact xG _ _ _
 have hU1l : U1.length = 1 * 2 := by rw [hU1]; exact xG _ _ _
 have hU0b : Bd U0 20 := by rw [hU0]; exact ju fun i k => uLb _
 have hU1b : Bd U1 20 := by rw [hU1]; exact ju fun i k => uLb _
 obtain ⟨V0, hV0⟩ : ∃ V, V = tab (1 * 2) 2 fun i k => dotS (fun j => cf [1] (i * 1 + j)) (fun j => cf U0 (j * 2 + k)) 1 := ⟨_, rfl⟩
 have hV0l : V0.length = 1 * 2 := by rw [hV0]; exact xG _ _ _
 have hV0b : Bd V0 22 := by rw [hV0]; exact ju fun i k => bj (K := 1) (L := 20) (fun _ => hb1 _) (fun _ => hU0b _) 1
 obtain ⟨W, hW⟩ : ∃ W, W = stkL 1 1 2 U1 V0 := ⟨_, rfl⟩
 have hWl : W.length = 4 := by rw [hW]; exact xG _ _ _
 have hWb : Bd W 22 := by rw [hW]; exact ju fun i k => (by split; exact Nat.le_trans (hU1b _) (by decide); exact hV0b _)
 refine .seq fun _ k1 => .region (.box (.t rfl) rfl fun b1 => .box (.t rfl) rfl fun b2 => .box (.t rfl) rfl fun b3 => .alloc [isI 0, isI 0, nilS] zg (fun _ _ => ⟨⟨rfl, by decide, by decide⟩, ⟨rfl, by decide, by decide⟩, rfl, trivial⟩) rfl fun b4 => .alloc [isI 0, isI 0, nilS] zg (fun _ _ => ⟨⟨rfl, by decide, by decide⟩, ⟨rfl, by decide, by decide⟩, rfl, trivial⟩) rfl fun b5 => st (.as (.cI 0 rfl)) rfl (st (.as (.cI 0 rfl)) rfl (nl (.thn (k1 _ _ (.seq fun _ k2 => .region (st (.load (.t rfl) (i := 4) rfl ty24 rfl (Ss' := [_, _, _]) rfl) rfl ?_)))))))
 refine st (.eq (.call (hnf_Hermite (R := 2) (C := 1) (K := 1) (xs := [1, 1].map nz) (by rw [zP]; exact hb) (by decide) (by decide) (by decide) rfl) (.cons (.t rfl) .nil)) ((show _ = zQ [isMz 2 1 [1, 0], isMz 2 2 Ul, isI 0] from by rw [zP, hUl]; exact congrArg (fun z => zQ [isMz 2 1 z, isMz 2 2 (uL 2 1 [1, 1]), isI 0]) hL11))) rfl ?_
 refine st (.mv (.t rfl)) rfl (st (.ext (.t rfl) rfl) rfl (st (.ext (.t rfl) rfl) rfl (st (.ext (.t rfl) rfl) rfl (.alloc [isI 0, isI 0, nilS] zg (fun _ _ => ⟨⟨rfl, by decide, by decide⟩, ⟨rfl, by decide, by decide⟩, rfl, trivial⟩) rfl fun b6 => .alloc [isI 0, isI 0, nilS] zg (fun _ _ => ⟨⟨rfl, by decide, by decide⟩, ⟨rfl, by decide, by decide⟩, rfl, trivial⟩) rfl fun b7 => .store (.t rfl) (.t rfl) (i := 1) rfl ty24 rfl rfl (Ss' := [_, _, _]) rfl (M' := [_, (some _, zB [_, _, _]), _, _, _, _, _]) rfl (.store (.t rfl) (.t rfl) (i := 0) rfl ty24 rfl rfl (Ss' := [_, _, _]) rfl (M' := [(some _, zB [_, _, _]), _, _, _, _, _, _]) rfl (st (.as (.t rfl)) rfl (nl (.thn (k2 _ _ (.cv (Cv.wk (.l [4, 5, 6, 7, 8, 9, 10, 11, 12] rfl)) (.seq fun _ k3 => .seq fun _ k4 => .region (st (.mv (.t rfl)) rfl (st (.neI (.t rfl) (.cI 0 rfl)) rfl (nl (.thn (k4 _ _ (.cond (.t rfl) (fun hc1 => ?_) (fun hc1 => ?_))))))))))))))))))
 ·have hc1 := BP.t hc1
  exfalso; omega
 ·have hc1 := BP.f hc1
  skip
  refine .skip (.thn (k3 _ _ (.seq fun _ k5 => .region (st (.load (.t rfl) (i := 1) rfl ty24 rfl (Ss' := [_, _, _]) rfl) rfl (st (.eq (.call (hnf_Pivots (R := 2) (C := 1) (K := 1) (xs := [1, 0].map nz) (by rw [zP]; exact hb10) (by decide) (by decide) (by decide) rfl) (.cons (.t rfl) .nil)) ((show _ = SlM isI [0] from by rw [zP, gm11_p]))) rfl ?_)))))
  refine st (.len sl64 (.t rfl)) rfl (st (.as (.t rfl)) rfl (nl (.thn (k5 _ _ (.cv (Cv.wk (.l [4, 5, 6, 7, 8, 9, 10, 11, 12, 13] rfl)) (.seq fun _ k6 => .region (st (.load (.t rfl) (i := 1) rfl ty24 rfl (Ss' := [_, _, _]) rfl) rfl ?_)))))))
  refine st (.mv (.t rfl)) rfl (st (.eq (.call (wO (R := 2) (C := 1) (lo := 0) (hi := 1) (K := 1) (xs := [1, 0].map nz) (by rw [zP]; exact hb10) (by decide) (by decide) (by decide) rfl (by decide) (by decide)) (.cons (.t rfl) (.cons (.cI 0 rfl) (.cons (.t rfl) .nil)))) ((show _ = zQ [isMz 1 1 [1], isI 0] from by rw [zP] <;> rfl))) rfl ?_)
  refine st (.ext (.t rfl) rfl) rfl (st (.ext (.t rfl) rfl) rfl (st (.call xI (.cons (.t rfl) (.cons (.t rfl) .nil))) rfl (.alloc [isI 0, isI 0, nilS] zg (fun _ _ => ⟨⟨rfl, by decide, by decide⟩, ⟨rfl, by decide, by decide⟩, rfl, trivial⟩) rfl fun b8 => .store (.t rfl) (.t rfl) (i := 0) rfl ty24 rfl rfl (Ss' := [_, _, _]) rfl (M' := [(some _, zB [_, _, _]), _, _, _, _, _, _, _]) rfl (nl (.thn (k6 _ _ (.cv (Cv.wk (.l [4, 5, 6, 7, 8, 9, 10, 11, 12, 13, 14] rfl)) (.seq fun _ k7 => .region (st (.load (.t rfl) (i := 0) rfl ty24 rfl (Ss' := [_, _, _]) rfl) rfl ?_)))))))))
  refine st (.eq (.call (gram_Of (R := 1) (C := 1) (K := 1) (xs := [1].map nz) (by rw [zP]; exact hb1) (by decide) (by decide) (by decide) rfl) (.cons (.t rfl) .nil)) ((show _ = zQ [isMz 1 1 [1], isI 0] from by rw [zP] <;> rfl))) rfl ?_
  refine st (.ext (.t rfl) rfl) rfl (st (.ext (.t rfl) rfl) rfl (st (.call xI (.cons (.t rfl) (.cons (.t rfl) .nil))) rfl (.alloc [isI 0, isI 0, nilS] zg (fun _ _ => ⟨⟨rfl, by decide, by decide⟩, ⟨rfl, by decide, by decide⟩, rfl, trivial⟩) rfl fun b9 => .store (.t rfl) (.t rfl) (i := 0) rfl ty24 rfl rfl (Ss' := [_, _, _]) rfl (M' := [(some _, zB [_, _, _]), _, _, _, _, _, _, _, _]) rfl (nl (.thn (k7 _ _ (.cv (Cv.wk (.l [4, 5, 6, 7, 8, 9, 10, 11, 12, 13, 14, 15] rfl)) (.seq fun _ k8 => .region (st (.load (.t rfl) (i := 0) rfl ty24 rfl (Ss' := [_, _, _]) rfl) rfl (st (.load (.t rfl) (i := 7) rfl ty41 rfl (Ss' := [_, _]) rfl) rfl (st (.load (.t rfl) (i := 6) rfl ty41 rfl (Ss' := [_, _]) rfl) rfl (st (.call ((lll_Reduce1X (K := 1) (xs := [1].map nz) (x := 1) (by rw [zP]; exact hb1) (by decide) rfl (by rw [zP]; rfl) hpw hqw (by decide) hmy).toCtr fun S' M' hh => hh) (.cons (.t rfl) (.cons (.t rfl) (.cons (.t rfl) .nil)))) rfl ?_))))))))))))
  refine st (.mv (.t rfl)) rfl (st (.ext (.t rfl) rfl) rfl (st (.ext (.t rfl) rfl) rfl (st (.ext (.t rfl) rfl) rfl (.alloc [isI 0, isI 0, nilS] zg (fun _ _ => ⟨⟨rfl, by decide, by decide⟩, ⟨rfl, by decide, by decide⟩, rfl, trivial⟩) rfl fun b10 => .store (.t rfl) (.t rfl) (i := 0) rfl ty24 rfl rfl (Ss' := [_, _, _]) rfl (M' := [(some _, zB [_, _, _]), _, _, _, _, _, _, _, _, _]) rfl (st (.as (.t rfl)) rfl (st (.as (.t rfl)) rfl (nl (.thn (k8 _ _ (.cv (Cv.wk (.l [6, 7, 8, 9, 10, 11, 12, 13, 14, 16, 17] rfl)) (.seq fun _ k9 => .seq fun _ k10 => .region (st (.mv (.t rfl)) rfl (st (.neI (.t rfl) (.cI 0 rfl)) rfl (nl (.thn (k10 _ _ (.cond (.t rfl) (fun hc2 => ?_) (fun hc2 => ?_))))))))))))))))))
  ·have hc2 := BP.t hc2
   exfalso; omega
  ·have hc2 := BP.f hc2
   skip
   refine .skip (.thn (k9 _ _ (.seq fun _ k11 => .region (st (.load (.t rfl) (i := 0) rfl ty24 rfl (Ss' := [_, _, _]) rfl) rfl ?_))))
   refine st (.load (.t rfl) (i := 2) rfl ty24 rfl (Ss' := [_, _, _]) rfl) rfl (st (.eq (.call (bx (R := 1) (C := 1) (D := 1) (K := 1) (L := 1) (xs := [1].map nz) (ys := [1].map nz) (by rw [zP]; exact hb1) (by rw [zP]; exact hb1) (by decide) (by decide) (by decide) (by decide) rfl rfl) (.cons (.t rfl) (.cons (.t rfl) .nil))) ((show _ = zQ [isMz 1 1 [1], isI 0] from by rw [zP] <;> rfl))) rfl ?_)
   refine st (.ext (.t rfl) rfl) rfl (st (.ext (.t rfl) rfl) rfl (st (.call xI (.cons (.t rfl) (.cons (.t rfl) .nil))) rfl (.alloc [isI 0, isI 0, nilS] zg (fun _ _ => ⟨⟨rfl, by decide, by decide⟩, ⟨rfl, by decide, by decide⟩, rfl, trivial⟩) rfl fun b11 => .store (.t rfl) (.t rfl) (i := 0) rfl ty24 rfl rfl (Ss' := [_, _, _]) rfl (M' := [(some _, zB [_, _, _]), _, _, _, _, _, _, _, _, _, _]) rfl (nl (.thn (k11 _ _ (.cv (Cv.wk (.l [6, 7, 8, 9, 10, 11, 13, 16, 17, 18] rfl)) (.seq fun _ k12 => .drh [true, true, true, true, true, true, true, true, true, true, true] (Ms := [_, _, _, _, _, _, _, _, _, _, _]) rfl (.s [] rfl rfl rfl (.o rfl (.load (.t rfl) (i := 1) rfl ty24 rfl (Ss' := [_, _, _]) rfl)) (.s [] rfl rfl rfl (.o rfl (.load (.t rfl) (i := 4) rfl ty24 rfl (Ss' := [_, _, _]) rfl)) (.s [] rfl rfl rfl (.o rfl (.mv (.t rfl))) ?_)))))))))))
   refine .s [67, 68] rfl rfl rfl (.o rfl (.eq (.call (wO (R := 2) (C := 2) (lo := 0) (hi := 1) (K := 20) (xs := Ul.map nz) (by rw [zP]; exact uLb) (by decide) (by decide) (by decide) (by rw [List.length_map]; exact uLl) (by decide) (by decide)) (.cons (.t rfl) (.cons (.cI 0 rfl) (.cons (.t rfl) .nil)))) ((show _ = zQ [isMz 1 2 U0, isI 0] from by rw [zP, hU0] <;> rfl)))) ?_
   refine .s [69] rfl rfl rfl (.o rfl (.ext (.t rfl) rfl)) (.s [69] rfl rfl rfl (.o rfl (.ext (.t rfl) rfl)) (.s [70, 71] rfl rfl rfl (.o rfl (.call xI (.cons (.t rfl) (.cons (.t rfl) .nil)))) ?_))
   refine .s [66, 72] rfl rfl rfl (.o rfl (.eq (.call (bx (R := 1) (C := 1) (D := 2) (K := 1) (L := 20) (xs := [1].map nz) (ys := U0.map nz) (by rw [zP]; exact hb1) (by rw [zP]; exact hU0b) (by decide) (by decide) (by decide) (by decide) rfl (by rw [List.length_map]; exact hU0l)) (.cons (.t rfl) (.cons (.t rfl) .nil))) ((show _ = zQ [isMz 1 2 V0, isI 0] from by rw [zP, zP, hV0] <;> rfl)))) ?_
   refine .s [73] rfl rfl rfl (.o rfl (.ext (.t rfl) rfl)) (.s [73] rfl rfl rfl (.o rfl (.ext (.t rfl) rfl)) (.s [74, 75] rfl rfl rfl (.o rfl (.call xI (.cons (.t rfl) (.cons (.t rfl) .nil)))) (.als2 (n1 := 12) (ds := [19]) (zs := [[isI 0, isI 0, nilS]]) rfl (.cons rfl rfl zg (fun _ _ => ⟨⟨rfl, by decide, by decide⟩, ⟨rfl, by decide, by decide⟩, rfl, trivial⟩) .nil) (.cons_cons _ (.cons_cons _ (.cons_cons _ (.cons_cons _ (.cons_cons _ (.cons_cons _ (.cons_cons _ (.cons_cons _ (.cons_cons _ (.cons_cons _ (.cons_cons _ .slnil))))))))))) (Cs := [_]) rfl (.fin (n := 12) zR rfl (by kernel_rfl) (by kernel_rfl) (by kernel_rfl) (fun bs hbs => ?_)))))
   obtain ⟨b12, rfl⟩ := len1 hbs
   refine .memEq (M' := [_, _, _, _, _, _, _, _, _, _, _, _]) rfl (.cv (Cv.wk (.k 6 rfl (.k 7 rfl (.k 8 rfl (.k 9 rfl (.k 10 rfl (.k 11 rfl (.k 13 rfl (.k 17 rfl (.k 18 rfl (.k 76 rfl (.cons (t := 19) (Has.op rfl) .nil)))))))))))) (.store (.t rfl) (.t rfl) (i := 0) rfl ty24 rfl rfl (Ss' := [_, _, _]) rfl (M' := [(some _, zB [_, _, _]), _, _, _, _, _, _, _, _, _, _, _]) rfl (nl (.thn (k12 _ _ (.seq fun _ k13 => .region (st (.load (.t rfl) (i := 6) rfl ty24 rfl (Ss' := [_, _, _]) rfl) rfl (st (.mv (.t rfl)) rfl (st (.fieldAddr (.t rfl) zT ty3) rfl ?_)))))))))
   refine st (.load1 (.t rfl) (i := 6) rfl ty3 rfl) rfl (st (.eq (.call (wO (R := 2) (C := 1) (lo := 1) (hi := 2) (K := 1) (xs := [1, 0].map nz) (by rw [zP]; exact hb10) (by decide) (by decide) (by decide) rfl (by decide) (by decide)) (.cons (.t rfl) (.cons (.t rfl) (.cons (.t rfl) .nil)))) ((show _ = zQ [isMz 1 1 [0], isI 0] from by rw [zP] <;> rfl))) rfl ?_)
   refine st (.ext (.t rfl) rfl) rfl (st (.ext (.t rfl) rfl) rfl (st (.call xI (.cons (.t rfl) (.cons (.t rfl) .nil))) rfl (.alloc [isI 0, isI 0, nilS] zg (fun _ _ => ⟨⟨rfl, by decide, by decide⟩, ⟨rfl, by decide, by decide⟩, rfl, trivial⟩) rfl fun b13 => .store (.t rfl) (.t rfl) (i := 0) rfl ty24 rfl rfl (Ss' := [_, _, _]) rfl (M' := [(some _, zB [_, _, _]), _, _, _, _, _, _, _, _, _, _, _, _]) rfl (nl (.thn (k13 _ _ (.cv (Cv.wk (.l [6, 7, 8, 9, 11, 13, 17, 18, 19, 20] rfl)) (.seq fun _ k14 => .region (st (.load (.t rfl) (i := 6) rfl ty24 rfl (Ss' := [_, _, _]) rfl) rfl (st (.mv (.t rfl)) rfl (st (.fieldAddr (.t rfl) zT ty3) rfl ?_)))))))))))
   refine st (.load1 (.t rfl) (i := 6) rfl ty3 rfl) rfl (st (.eq (.call (wO (R := 2) (C := 2) (lo := 1) (hi := 2) (K := 20) (xs := Ul.map nz) (by rw [zP]; exact uLb) (by decide) (by decide) (by decide) (by rw [List.length_map]; exact uLl) (by decide) (by decide)) (.cons (.t rfl) (.cons (.t rfl) (.cons (.t rfl) .nil)))) ((show _ = zQ [isMz 1 2 U1, isI 0] from by rw [zP, hU1] <;> rfl))) rfl ?_)
   refine st (.ext (.t rfl) rfl) rfl (st (.ext (.t rfl) rfl) rfl (st (.call xI (.cons (.t rfl) (.cons (.t rfl) .nil))) rfl (.alloc [isI 0, isI 0, nilS] zg (fun _ _ => ⟨⟨rfl, by decide, by decide⟩, ⟨rfl, by decide, by decide⟩, rfl, trivial⟩) rfl fun b14 => .store (.t rfl) (.t rfl) (i := 0) rfl ty24 rfl rfl (Ss' := [_, _, _]) rfl (M' := [(some _, zB [_, _, _]), _, _, _, _, _, _, _, _, _, _, _, _, _]) rfl (nl (.thn (k14 _ _ (.cv (Cv.wk (.l [6, 7, 8, 9, 17, 18, 19, 20, 21] rfl)) (.seq fun _ k15 => .drh [true, true, true, true, true, true, true, true, true, false, false, true, true, true] (Ms := [_, _, _, _, _, _, _, _, _, _, _, _]) rfl (.s [] rfl rfl rfl (.o rfl (.load (.t rfl) (i := 1) rfl ty24 rfl (Ss' := [_, _, _]) rfl)) (.s [] rfl rfl rfl (.o rfl (.load (.t rfl) (i := 3) rfl ty24 rfl (Ss' := [_, _, _]) rfl)) ?_))))))))))
   refine .s [93, 94] rfl rfl rfl (.o rfl (.eq (.call (bv (R := 1) (R' := 1) (C := 1) (K := 1) (xs := [0].map nz) (ys := [1].map nz) (by rw [zP]; exact hb0) (by rw [zP]; exact hb1) (by decide) (by decide) (by decide) rfl rfl) (.cons (.t rfl) (.cons (.t rfl) .nil))) ((show _ = zQ [isMz 2 1 [0, 1], isI 0] from by rw [zP, zP] <;> rfl)))) ?_
   refine .s [95] rfl rfl rfl (.o rfl (.ext (.t rfl) rfl)) (.s [95] rfl rfl rfl (.o rfl (.ext (.t rfl) rfl)) (.s [96, 97] rfl rfl rfl (.o rfl (.call xI (.cons (.t rfl) (.cons (.t rfl) .nil)))) (.s [] rfl rfl rfl (.o rfl (.load (.t rfl) (i := 0) rfl ty24 rfl (Ss' := [_, _, _]) rfl)) (.s [] rfl rfl rfl (.o rfl (.load (.t rfl) (i := 2) rfl ty24 rfl (Ss' := [_, _, _]) rfl)) ?_))))
   refine .s [99, 100] rfl rfl rfl (.o rfl (.eq (.call (bv (R := 1) (R' := 1) (C := 2) (K := 22) (xs := U1.map nz) (ys := V0.map nz) (by rw [zP]; exact hU1b.mono (by decide)) (by rw [zP]; exact hV0b) (by decide) (by decide) (by decide) (by rw [List.length_map]; exact hU1l) (by rw [List.length_map]; exact hV0l)) (.cons (.t rfl) (.cons (.t rfl) .nil))) ((show _ = zQ [isMz 2 2 W, isI 0] from by rw [zP, zP, hW] <;> rfl)))) ?_
   refine .s [101] rfl rfl rfl (.o rfl (.ext (.t rfl) rfl)) (.s [101] rfl rfl rfl (.o rfl (.ext (.t rfl) rfl)) (.s [102, 103] rfl rfl rfl (.o rfl (.call xI (.cons (.t rfl) (.cons (.t rfl) .nil)))) (.s [] rfl rfl rfl (.o rfl (.mv (.t rfl))) (.mid2 (.cons_cons _ (.cons_cons _ (.cons_cons _ (.cons_cons _ (.cons_cons _ (.cons_cons _ (.cons_cons _ (.cons_cons _ (.cons_cons _ (.cons _ (.cons _ (.cons_cons _ (.cons_cons _ (.cons_cons _ .slnil)))))))))))))) (.st0 [98] rfl rfl (by kernel_rfl) (by kernel_rfl) (StS.store (.t rfl) (.t rfl) (i := 10) rfl ty24 rfl rfl (Ss' := [_, _, _]) rfl (M' := [_, _, _, _, _, _, _, _, _, _, (some _, zB [_, _, _]), _, _, _]) rfl) (.cons_cons _ (.cons_cons _ (.cons_cons _ (.cons_cons _ (.cons_cons _ (.cons_cons _ (.cons_cons _ (.cons_cons _ (.cons_cons _ (.cons _ (.cons _ (.cons_cons _ (.cons_cons _ (.cons_cons _ .slnil)))))))))))))) (.st0 [104] rfl rfl (by kernel_rfl) (by kernel_rfl) (StS.store (.t rfl) (.t rfl) (i := 9) rfl ty24 rfl rfl (Ss' := [_, _, _]) rfl (M' := [_, _, _, _, _, _, _, _, _, (some _, zB [_, _, _]), _, _, _, _]) rfl) (.cons_cons _ (.cons_cons _ (.cons_cons _ (.cons_cons _ (.cons_cons _ (.cons_cons _ (.cons_cons _ (.cons_cons _ (.cons_cons _ (.cons _ (.cons _ (.cons_cons _ (.cons_cons _ (.cons_cons _ .slnil)))))))))))))) (.fin0 (n := 15) zR rfl (by kernel_rfl) (by kernel_rfl) (by kernel_rfl) (.cv (Cv.wk (.l [6, 7, 8, 9, 105] rfl)) (st (.as (.t rfl)) rfl (st (.as (.cI 0 rfl)) rfl (nl (.thn (k15 _ _ (.ret (rtXND (.cons _ (.cons _ (.cons _ (.cons _ (.cons _ (.cons _ (.cons _ (.cons _ (.cons _ (.cons _ (.cons _ (.cons _ (.cons _ (.cons _ .slnil)))))))))))))) (.inl rfl) Tryz.results19 rfl rfl (.cell rfl (i := 10) rfl ty24 rfl rfl (.cell rfl (i := 9) rfl ty24 rfl rfl (.tmp (.t rfl) (.tmp (.t rfl) .nil)))) ((by rw [hW, hU1, hV0, hU0, hUl] <;> rfl)))))))))))))))))
theorem gm11_m : Bd [0, 1] 1 := bd64 (by decide)
theorem qm  : Ctr Tryz.prog 4 [] (isB true) := by
 refine Ctr.intro Tryz.func4 rfl (by kernel_rfl) Tryz.ntmps4 rfl fun w0 F0 => .cv (Cv.wk .nil) ?_
 have h3 : (List.length (zA (3 : Int).natAbs)) ≤ 1 := zz (by decide)
 have h4 : (List.length (zA (4 : Int).natAbs)) ≤ 1 := zz (by decide)
 have h0 : (List.length (zA (0 : Int).natAbs)) ≤ 1 := zz (by decide)
 have h1 : (List.length (zA (1 : Int).natAbs)) ≤ 1 := zz (by decide)
 refine .seq fun _ k1 => .region (st (.as (.cB false)) rfl (nl (.thn (k1 _ _ (.seq fun _ k2 => .region (st (.buildS [isI 0, isI 0] sl73 ty2 zero2 (fun _ _ => ⟨⟨rfl, by decide, by decide⟩, ⟨rfl, by decide, by decide⟩, trivial⟩) rfl rfl (.cons (.cI 1 rfl) rfl rfl rfl (.cons (.cI 1 rfl) rfl rfl rfl .nil)) rfl (S := SlM isI [_, _]) rfl) rfl (st (.eq (.call (zmat_Of (R := 2) (C := 1) (l := [1, 1]) (by decide) (by decide) rfl (by decide)) (.cons (.cI 2 rfl) (.cons (.cI 1 rfl) (.cons (.t rfl) .nil)))) ((show _ = zQ [isMz 2 1 [1, 1], isI 0] from by rw [gm11_t]))) rfl (st (.mv (.t rfl)) rfl (st (.ext (.t rfl) rfl) rfl (st (.ext (.t rfl) rfl) rfl (.alloc [isI 0, isI 0, nilS] zg (fun _ _ => ⟨⟨rfl, by decide, by decide⟩, ⟨rfl, by decide, by decide⟩, rfl, trivial⟩) rfl fun b1 => .store (.t rfl) (.t rfl) (i := 0) rfl ty24 rfl rfl (Ss' := [_, _, _]) rfl (M' := [(some _, zB [_, _, _])]) rfl (st (.as (.t rfl)) rfl (nl (.thn (k2 _ _ (.cv (Cv.wk (.l [0, 1] rfl)) (.seq fun _ k3 => .drh [true] (Ms := [_]) rfl (.s [] rfl rfl rfl (.o rfl (.load (.t rfl) (i := 0) rfl ty24 rfl (Ss' := [_, _, _]) rfl)) (.s [] rfl rfl rfl (.o rfl (.call (qi) (.cons (.cI 3 rfl) .nil))) (.s [] rfl rfl rfl (.o rfl (.call (qi) (.cons (.cI 4 rfl) .nil))) (.s [13, 14, 15] rfl rfl rfl (.o rfl (.call ((gram_Reduce1 (by rw [zC]; omega) (by rw [zC]; omega) (by simp only [zH]; decide)).toCtr fun S' M' hh => hh) (.cons (.t rfl) (.cons (.t rfl) (.cons (.t rfl) .nil))))) ?_)))))))))))))))))))))
 refine .s [16] rfl rfl rfl (.o rfl (.mv (.t rfl))) (.s [12] rfl rfl rfl (.o rfl (.ext (.t rfl) rfl)) (.s [12] rfl rfl rfl (.o rfl (.ext (.t rfl) rfl)) (.s [12] rfl rfl rfl (.o rfl (.ext (.t rfl) rfl)) (.s [12] rfl rfl rfl (.o rfl (.ext (.t rfl) rfl)) (.als2 (n1 := 11) (ds := [3, 4]) (zs := [[isI 0, isI 0, nilS], [isI 0, isI 0, nilS]]) rfl (.cons rfl rfl zg (fun _ _ => ⟨⟨rfl, by decide, by decide⟩, ⟨rfl, by decide, by decide⟩, rfl, trivial⟩) (.cons rfl rfl zg (fun _ _ => ⟨⟨rfl, by decide, by decide⟩, ⟨rfl, by decide, by decide⟩, rfl, trivial⟩) .nil)) (.cons_cons _ .slnil) (Cs := [_, _]) rfl (.new [17] 0 (Ss' := [_, _, _]) (Cs' := [zB [_, _, _], _]) rfl (by kernel_rfl) (by kernel_rfl) rfl rfl rfl (by kernel_rfl) rfl (.t rfl) ty24 rfl rfl rfl rfl (.new [18] 1 (Ss' := [_, _, _]) (Cs' := [_, zB [_, _, _]]) rfl (by kernel_rfl) (by kernel_rfl) rfl rfl rfl (by kernel_rfl) rfl (.t rfl) ty24 rfl rfl rfl rfl (.asg [19] rfl rfl (by kernel_rfl) (by kernel_rfl) (by kernel_rfl) (.o rfl (.as (.t rfl))) (.cons_cons _ .slnil) (.fin (n := 14) zR rfl (by kernel_rfl) (by kernel_rfl) (by kernel_rfl) (fun bs hbs => ?_))))))))))
 obtain ⟨b2, b3, rfl⟩ := len2 hbs
 refine .memEq (M' := [_, _, _]) rfl (.cv (Cv.wk (.k 0 rfl (.k 20 rfl (.cons (t := 3) (Has.op rfl) (.cons (t := 4) (Has.op rfl) .nil))))) (st (.as (.t rfl)) rfl (nl (.thn (k3 _ _ (.seq fun _ k4 => .region (st (.mv (.t rfl)) rfl (st (.eqI (.t rfl) (.cI 0 rfl)) rfl (st (.mv (.t rfl)) rfl (stT rfl rfl (fun hg => .fieldAddr (.t rfl) zT ty3) rfl (stT rfl rfl (fun hg => .load1 (Has.g rfl hg) (i := 0) rfl ty3 rfl) rfl (stT rfl rfl (fun hg => .eqI (Has.g rfl hg) (.cI 2 rfl)) rfl (st (.pickAnd (.t rfl) (fun h => Has.g rfl h)) rfl (st (.mv (.t rfl)) rfl (stT rfl rfl (fun hg => .fieldAddr (.t rfl) zT ty3) rfl (stT rfl rfl (fun hg => .load1 (Has.g rfl hg) (i := 1) rfl ty3 rfl) rfl (stT rfl rfl (fun hg => .eqI (Has.g rfl hg) (.cI 2 rfl)) rfl (st (.pickAnd (.t rfl) (fun h => Has.g rfl h)) rfl (st (.mv (.t rfl)) rfl (stT rfl rfl (fun hg => .load (.t rfl) (i := 0) rfl ty24 rfl (Ss' := [_, _, _]) rfl) rfl ?_))))))))))))))))))))
 refine stT rfl rfl (fun hg => have hg' := BP.t hg; OK1.eq (.call (bM (R := 2) (C := 1) (i := 0) (k := 0) (K := 1) (xs := [0, 1].map nz) (by rw [zP]; exact gm11_m) (by decide) (by decide) (by decide) rfl (by decide) (by decide)) (.cons (Has.g rfl hg) (.cons (.cI 0 rfl) (.cons (.cI 0 rfl) .nil)))) ((show _ = isZ 0 from zN (by rw [zP]; rfl)))) rfl ?_
 refine stT rfl rfl (fun hg => have hg' := BP.t hg; OK1.eq (.call (zd (by rw [zC]; omega)) (.cons (Has.g rfl hg) .nil)) ((show isI _ = isI 0 from zE (by rw [zH]; rfl)))) rfl ?_
 refine stT rfl rfl (fun hg => .eqI (Has.g rfl hg) (.cI 0 rfl)) rfl (st (.pickAnd (.t rfl) (fun h => Has.g rfl h)) rfl (st (.mv (.t rfl)) rfl (stT rfl rfl (fun hg => .load (.t rfl) (i := 0) rfl ty24 rfl (Ss' := [_, _, _]) rfl) rfl ?_)))
 refine stT rfl rfl (fun hg => have hg' := BP.t hg; OK1.eq (.call (bM (R := 2) (C := 1) (i := 1) (k := 0) (K := 1) (xs := [0, 1].map nz) (by rw [zP]; exact gm11_m) (by decide) (by decide) (by decide) rfl (by decide) (by decide)) (.cons (Has.g rfl hg) (.cons (.cI 1 rfl) (.cons (.cI 0 rfl) .nil)))) ((show _ = isZ 1 from zN (by rw [zP]; rfl)))) rfl ?_
 refine stT rfl rfl (fun hg => have hg' := BP.t hg; OK1.eq (.call (zd (by rw [zC]; omega)) (.cons (Has.g rfl hg) .nil)) ((show isI _ = isI 1 from zE (by rw [zH]; rfl)))) rfl ?_
 refine stT rfl rfl (fun hg => .neI (Has.g rfl hg) (.cI 0 rfl)) rfl (st (.pickAnd (.t rfl) (fun h => Has.g rfl h)) rfl (st (.as (.t rfl)) rfl (nl (.thn (k4 _ _ (.cv (Cv.wk (.l [0] rfl)) (.ret (rt1 (.inl rfl) Tryz.results4 rfl (.tmp (Has.t' rfl ?_) .nil)))))))))
 all_goals (rfl)
end Go.Proofs.YthmhlblaleahpaaGreat
namespace Go.Proofs.YthmhlblaleahpaaGreat
open Go.En Go.RowKit
set_option maxRecDepth 10000
set_option maxHeartbeats 4000000
open Go.Nt
open Go.Pz
open Go.Mz
open Go.Hn
open Go.Hp
open Go.Dt
open Go.Gs
theorem near_dead {s y : Rat} (h1 : -s ≤ y + y) (h2 : y + y < s) (h : sgn (y + y - -s).num < 0 ∨ 0 ≤ sgn (y + y - s).num) : False := by
 rcases h with h | h
 ·have h3 := num_neg_iff.1 ((je _).1 h)
  grind
 ·have h3 : (y + y - s).num < 0 := num_neg_iff.2 (by grind)
  have h4 := (je _).2 h3
  omega
theorem dL (r c : Int) (xs vs : List (Bool × List Nat)) (hf : xe r c xs.length = false) : CtrX Tryz.prog 3 [isM r c xs, SlK 2 zc vs] ([]) (fun S M => S = isB true) := by
 refine CtrX.intro Tryz.func3 rfl (by kernel_rfl) Tryz.ntmps3 rfl fun w0 F0 => .cv (Cv.wk (.l [0, 1] rfl)) (.fact (Has.lenLt (Has.t (t := 1) rfl)) fun lt1 => .seq fun _ k1 => .region (.box (.t rfl) rfl fun b1 => st (.as (.cB false)) rfl (nl (.thn (k1 _ _ (.seq fun _ k2 => .seq fun _ k3 => .region (st (.call qm .nil) rfl (st (.not (.t rfl)) rfl (st (.mv (.t rfl)) rfl (stF rfl rfl (fun hg => .load (.t rfl) (i := 0) rfl ty24 rfl (Ss' := [_, _, _]) rfl) rfl (stF rfl rfl (fun hg => .call (wU) (.cons (Has.g rfl hg) (.cons (.cI 3 rfl) (.cons (.cI 1 rfl) .nil)))) rfl (stF rfl rfl (fun hg => .not (Has.g rfl hg)) rfl (st (.pickOr (.t rfl) (fun h => Has.g rfl (ng h))) rfl (st (.mv (.t rfl)) rfl (stF rfl rfl (fun hg => .mv (.t rfl)) rfl (stF rfl rfl (fun hg => .len sl22 (Has.g rfl hg)) rfl (stF rfl rfl (fun hg => .gtI (Has.g rfl hg) (.cI 4 rfl)) rfl (st (.pickOr (.t rfl) (fun h => Has.g rfl (ng h))) rfl (st (.mv (.t rfl)) rfl (stF rfl rfl (fun hg => .mv (.t rfl)) rfl (stF rfl rfl (fun hg => .call (jP) (.cons (Has.g rfl hg) (.cons (.cI 4 rfl) (.cons (.cI 2 rfl) .nil)))) rfl (stF rfl rfl (fun hg => .not (Has.g rfl hg)) rfl (st (.pickOr (.t rfl) (fun h => Has.g rfl (ng h))) rfl (nl (.thn (k3 _ _ ?_))))))))))))))))))))))))))
 refine .cv (Cv.wk (.l [1, 2, 4, 31] rfl)) (.cond (.t rfl) (fun hc1 => ?_) (fun hc1 => ?_))
 ·have hc1 := BP.t hc1
  refine .seq fun _ k4 => .region (st (.call qm .nil) rfl (st (.as (.t rfl)) rfl (nl (.thn (k4 _ _ (.ret (.thr (jO (.cons _ .slnil) (.inl rfl) Tryz.results3 rfl (.tmp (.t rfl) .nil) (rfl)))))))))
 ·have hc1 := BP.f hc1
  refine .skip (.thn (k2 _ _ (.seq fun _ k5 => .region (st (.load (.t rfl) (i := 0) rfl ty24 rfl (Ss' := [_, _, _]) rfl) rfl (st (.mv (.t rfl)) rfl (st (.call (da hf) (.cons (.t rfl) (.cons (.t rfl) .nil))) rfl (st (.mv (.t rfl)) rfl (st (.ext (.t rfl) rfl) rfl (st (.ext (.t rfl) rfl) rfl (st (.ext (.t rfl) rfl) rfl (st (.as (.t rfl)) rfl (st (.as (.t rfl)) rfl (st (.as (.t rfl)) rfl (nl (.thn (k5 _ _ (.cv (Cv.wk (.l [1, 2, 4, 5, 6, 7] rfl)) (.seq fun _ k6 => .seq fun _ k7 => .region (st (.load (.t rfl) (i := 0) rfl ty24 rfl (Ss' := [_, _, _]) rfl) rfl (st (.eq (.call (vR) (.cons (.t rfl) .nil)) ((show isB _ = isB false from zU (hf)))) rfl (st (.not (.t rfl)) rfl (st (.mv (.t rfl)) rfl (stF rfl rfl (fun hg => .mv (.t rfl)) rfl (stF rfl rfl (fun hg => .len sl22 (Has.g rfl hg)) rfl (stF rfl rfl (fun hg => .fieldAddr (.t rfl) zS ty3) rfl (stF rfl rfl (fun hg => .load1 (Has.g rfl hg) (i := 0) rfl ty3 rfl) rfl (stF rfl rfl (fun hg => .neI (Has.g rfl hg) (Has.g rfl hg)) rfl (st (.pickOr (.t rfl) (fun h => Has.g rfl (ng h))) rfl (nl (.thn (k7 _ _ (.cv (Cv.wk (.l [1, 2, 4, 5, 6, 7, 49] rfl)) (.cond (.t rfl) (fun hc2 => ?_) (fun hc2 => ?_))))))))))))))))))))))))))))))))))
  ·have hc2 := BP.t hc2
   refine .seq fun _ k8 => .region (st (.mv (.t rfl)) rfl (st (.eqI (.t rfl) (.cI 2 rfl)) rfl (st (.mv (.t rfl)) rfl (stT rfl rfl (fun hg => .mv (.t rfl)) rfl (stT rfl rfl (fun hg => .len sl22 (Has.g rfl hg)) rfl (stT rfl rfl (fun hg => .eqI (Has.g rfl hg) (.cI 0 rfl)) rfl (st (.pickAnd (.t rfl) (fun h => Has.g rfl h)) rfl (st (.mv (.t rfl)) rfl (stT rfl rfl (fun hg => .mv (.t rfl)) rfl (stT rfl rfl (fun hg => .len sl22 (Has.g rfl hg)) rfl (stT rfl rfl (fun hg => .eqI (Has.g rfl hg) (.cI 0 rfl)) rfl (st (.pickAnd (.t rfl) (fun h => Has.g rfl h)) rfl (st (.as (.t rfl)) rfl (nl (.thn (k8 _ _ (.cv (Cv.wk (.l [1, 2, 4, 5, 6, 7] rfl)) (.ret (.thr (jO (.cons _ .slnil) (.inl rfl) Tryz.results3 rfl (.tmp (.t rfl) .nil) (rfl)))))))))))))))))))))
  ·have hc2 := BP.f hc2
   exfalso; simp at hc2
theorem dK (R C : Nat) (xs vs : List (Bool × List Nat)) (hR : R ≤ 64) (hC : C ≤ 64) (hl : xs.length = R * C) (hvl : vs.length ≠ C) : CtrX Tryz.prog 3 [isM (R : Int) (C : Int) xs, SlK 2 zc vs] ([]) (fun S M => S = isB true) := by
 refine CtrX.intro Tryz.func3 rfl (by kernel_rfl) Tryz.ntmps3 rfl fun w0 F0 => .cv (Cv.wk (.l [0, 1] rfl)) (.fact (Has.lenLt (Has.t (t := 1) rfl)) fun lt1 => .fact (Has.okM (Has.t (t := 0) rfl)) fun okp0 => .fact (Has.okP (Has.t (t := 1) rfl)) fun okp1 => ?_)
 have hfo := zj hR hC hl
 refine .seq fun _ k1 => .region (.box (.t rfl) rfl fun b1 => st (.as (.cB false)) rfl (nl (.thn (k1 _ _ (.seq fun _ k2 => .seq fun _ k3 => .region (st (.call qm .nil) rfl (st (.not (.t rfl)) rfl (st (.mv (.t rfl)) rfl (stF rfl rfl (fun hg => .load (.t rfl) (i := 0) rfl ty24 rfl (Ss' := [_, _, _]) rfl) rfl (stF rfl rfl (fun hg => .call (wU) (.cons (Has.g rfl hg) (.cons (.cI 3 rfl) (.cons (.cI 1 rfl) .nil)))) rfl (stF rfl rfl (fun hg => .not (Has.g rfl hg)) rfl (st (.pickOr (.t rfl) (fun h => Has.g rfl (ng h))) rfl (st (.mv (.t rfl)) rfl (stF rfl rfl (fun hg => .mv (.t rfl)) rfl (stF rfl rfl (fun hg => .len sl22 (Has.g rfl hg)) rfl (stF rfl rfl (fun hg => .gtI (Has.g rfl hg) (.cI 4 rfl)) rfl (st (.pickOr (.t rfl) (fun h => Has.g rfl (ng h))) rfl (st (.mv (.t rfl)) rfl (stF rfl rfl (fun hg => .mv (.t rfl)) rfl (stF rfl rfl (fun hg => .call (jP) (.cons (Has.g rfl hg) (.cons (.cI 4 rfl) (.cons (.cI 2 rfl) .nil)))) rfl (stF rfl rfl (fun hg => .not (Has.g rfl hg)) rfl (st (.pickOr (.t rfl) (fun h => Has.g rfl (ng h))) rfl (nl (.thn (k3 _ _ (.cv (Cv.wk (.l [1, 2, 4, 31] rfl)) (.cond (.t rfl) (fun hc1 => ?_) (fun hc1 => ?_))))))))))))))))))))))))))))
 ·have hc1 := BP.t hc1
  refine .seq fun _ k4 => .region (st (.call qm .nil) rfl (st (.as (.t rfl)) rfl (nl (.thn (k4 _ _ (.ret (.thr (jO (.cons _ .slnil) (.inl rfl) Tryz.results3 rfl (.tmp (.t rfl) .nil) (rfl)))))))))
 ·have hc1 := BP.f hc1
  refine .skip (.thn (k2 _ _ (.seq fun _ k5 => .region (st (.load (.t rfl) (i := 0) rfl ty24 rfl (Ss' := [_, _, _]) rfl) rfl (st (.mv (.t rfl)) rfl (st (.call (dZ hfo hvl) (.cons (.t rfl) (.cons (.t rfl) .nil))) rfl (st (.mv (.t rfl)) rfl (st (.ext (.t rfl) rfl) rfl (st (.ext (.t rfl) rfl) rfl (st (.ext (.t rfl) rfl) rfl (st (.as (.t rfl)) rfl (st (.as (.t rfl)) rfl (st (.as (.t rfl)) rfl (nl (.thn (k5 _ _ (.cv (Cv.wk (.l [1, 2, 4, 5, 6, 7] rfl)) (.seq fun _ k6 => .seq fun _ k7 => .region (st (.load (.t rfl) (i := 0) rfl ty24 rfl (Ss' := [_, _, _]) rfl) rfl (st (.eq (.call (vR) (.cons (.t rfl) .nil)) ((show isB _ = isB true from zU (hfo)))) rfl (st (.not (.t rfl)) rfl (st (.mv (.t rfl)) rfl (stF rfl rfl (fun hg => .mv (.t rfl)) rfl (stF rfl rfl (fun hg => .len sl22 (Has.g rfl hg)) rfl (stF rfl rfl (fun hg => .fieldAddr (.t rfl) zS ty3) rfl (stF rfl rfl (fun hg => .load1 (Has.g rfl hg) (i := 0) rfl ty3 rfl) rfl (stF rfl rfl (fun hg => .neI (Has.g rfl hg) (Has.g rfl hg)) rfl (st (.pickOr (.t rfl) (fun h => Has.g rfl (ng h))) rfl (nl (.thn (k7 _ _ (.cv (Cv.wk (.l [1, 2, 4, 5, 6, 7, 49] rfl)) (.cond (.t rfl) (fun hc2 => ?_) (fun hc2 => ?_))))))))))))))))))))))))))))))))))
  ·have hc2 := BP.t hc2
   skip
   refine .seq fun _ k8 => .region (st (.mv (.t rfl)) rfl (st (.eqI (.t rfl) (.cI 2 rfl)) rfl (st (.mv (.t rfl)) rfl (stT rfl rfl (fun hg => .mv (.t rfl)) rfl (stT rfl rfl (fun hg => .len sl22 (Has.g rfl hg)) rfl (stT rfl rfl (fun hg => .eqI (Has.g rfl hg) (.cI 0 rfl)) rfl (st (.pickAnd (.t rfl) (fun h => Has.g rfl h)) rfl (st (.mv (.t rfl)) rfl (stT rfl rfl (fun hg => .mv (.t rfl)) rfl (stT rfl rfl (fun hg => .len sl22 (Has.g rfl hg)) rfl (stT rfl rfl (fun hg => .eqI (Has.g rfl hg) (.cI 0 rfl)) rfl (st (.pickAnd (.t rfl) (fun h => Has.g rfl h)) rfl (st (.as (.t rfl)) rfl (nl (.thn (k8 _ _ (.cv (Cv.wk (.l [1, 2, 4, 5, 6, 7] rfl)) (.ret (.thr (jO (.cons _ .slnil) (.inl rfl) Tryz.results3 rfl (.tmp (.t rfl) .nil) (rfl)))))))))))))))))))))
  ·have hc2 := BP.f hc2
   exfalso; first | omega | (have := hc2.2; omega) | (simp at hc2; omega)
theorem df (R C : Nat) (xs vs : List (Bool × List Nat)) (hR : R ≤ 64) (hC : C ≤ 64) (hl : xs.length = R * C) (hvl : vs.length = C) (i0 : Nat) (hi0 : i0 < R) (hz : gsS C (vals xs) i0 = 0) (hs : ∀ i, i < i0 → gsS C (vals xs) i ≠ 0) : CtrX Tryz.prog 3 [isM (R : Int) (C : Int) xs, SlK 2 zc vs] ([]) (fun S M => S = isB true) := by
 refine CtrX.intro Tryz.func3 rfl (by kernel_rfl) Tryz.ntmps3 rfl fun w0 F0 => .cv (Cv.wk (.l [0, 1] rfl)) (.fact (Has.lenLt (Has.t (t := 1) rfl)) fun lt1 => .fact (Has.okM (Has.t (t := 0) rfl)) fun okp0 => .fact (Has.okP (Has.t (t := 1) rfl)) fun okp1 => ?_)
 have hfo := zj hR hC hl
 refine .seq fun _ k1 => .region (.box (.t rfl) rfl fun b1 => st (.as (.cB false)) rfl (nl (.thn (k1 _ _ (.seq fun _ k2 => .seq fun _ k3 => .region (st (.call qm .nil) rfl (st (.not (.t rfl)) rfl (st (.mv (.t rfl)) rfl (stF rfl rfl (fun hg => .load (.t rfl) (i := 0) rfl ty24 rfl (Ss' := [_, _, _]) rfl) rfl (stF rfl rfl (fun hg => .call (wU) (.cons (Has.g rfl hg) (.cons (.cI 3 rfl) (.cons (.cI 1 rfl) .nil)))) rfl (stF rfl rfl (fun hg => .not (Has.g rfl hg)) rfl (st (.pickOr (.t rfl) (fun h => Has.g rfl (ng h))) rfl (st (.mv (.t rfl)) rfl (stF rfl rfl (fun hg => .mv (.t rfl)) rfl (stF rfl rfl (fun hg => .len sl22 (Has.g rfl hg)) rfl (stF rfl rfl (fun hg => .gtI (Has.g rfl hg) (.cI 4 rfl)) rfl (st (.pickOr (.t rfl) (fun h => Has.g rfl (ng h))) rfl (st (.mv (.t rfl)) rfl (stF rfl rfl (fun hg => .mv (.t rfl)) rfl (stF rfl rfl (fun hg => .call (jP) (.cons (Has.g rfl hg) (.cons (.cI 4 rfl) (.cons (.cI 2 rfl) .nil)))) rfl (stF rfl rfl (fun hg => .not (Has.g rfl hg)) rfl (st (.pickOr (.t rfl) (fun h => Has.g rfl (ng h))) rfl (nl (.thn (k3 _ _ (.cv (Cv.wk (.l [1, 2, 4, 31] rfl)) (.cond (.t rfl) (fun hc1 => ?_) (fun hc1 => ?_))))))))))))))))))))))))))))
 ·have hc1 := BP.t hc1
  skip
  refine .seq fun _ k4 => .region (st (.call qm .nil) rfl (st (.as (.t rfl)) rfl (nl (.thn (k4 _ _ (.ret (.thr (jO (.cons _ .slnil) (.inl rfl) Tryz.results3 rfl (.tmp (.t rfl) .nil) (rfl)))))))))
 ·have hc1 := BP.f hc1
  have HF0 : (((R : Int) ≤ 3 ∧ (C : Int) ≤ 3) ∧ fewB xs 100 1 = true) ∧ ((vs.length : Nat) : Int) ≤ 4 ∧ fewB vs 4 2 = true := (by simpa [and_assoc] using hc1)
  obtain ⟨⟨⟨hR5, hC5⟩, HF⟩, hv4, HFv⟩ := HF0
  obtain ⟨hl0, hb⟩ := bh (N := 100) (K := 1) okp0 HF rfl rfl (by decide)
  obtain ⟨hlv, hbv⟩ := bh (N := 4) (K := 2) okp1 HFv rfl rfl (by decide)
  have hR3 : R ≤ 3 := (by omega)
  have hC3 : C ≤ 3 := (by omega)
  refine .skip (.thn (k2 _ _ (.seq fun _ k5 => .region (st (.load (.t rfl) (i := 0) rfl ty24 rfl (Ss' := [_, _, _]) rfl) rfl (st (.mv (.t rfl)) rfl (st (.call (gram_Near_no hR3 hC3 hl hb hvl hi0 hz hs) (.cons (.t rfl) (.cons (.t rfl) .nil))) rfl (st (.mv (.t rfl)) rfl (st (.ext (.t rfl) rfl) rfl (st (.ext (.t rfl) rfl) rfl (st (.ext (.t rfl) rfl) rfl (st (.as (.t rfl)) rfl (st (.as (.t rfl)) rfl (st (.as (.t rfl)) rfl (nl (.thn (k5 _ _ (.cv (Cv.wk (.l [1, 2, 4, 5, 6, 7] rfl)) (.seq fun _ k6 => .seq fun _ k7 => .region (st (.load (.t rfl) (i := 0) rfl ty24 rfl (Ss' := [_, _, _]) rfl) rfl (st (.eq (.call (vR) (.cons (.t rfl) .nil)) ((show isB _ = isB true from zU (hfo)))) rfl (st (.not (.t rfl)) rfl (st (.mv (.t rfl)) rfl (stF rfl rfl (fun hg => .mv (.t rfl)) rfl (stF rfl rfl (fun hg => .len sl22 (Has.g rfl hg)) rfl (stF rfl rfl (fun hg => .fieldAddr (.t rfl) zS ty3) rfl (stF rfl rfl (fun hg => .load1 (Has.g rfl hg) (i := 0) rfl ty3 rfl) rfl (stF rfl rfl (fun hg => .neI (Has.g rfl hg) (Has.g rfl hg)) rfl (st (.pickOr (.t rfl) (fun h => Has.g rfl (ng h))) rfl (nl (.thn (k7 _ _ (.cv (Cv.wk (.l [1, 2, 4, 5, 6, 7, 49] rfl)) (.cond (.t rfl) (fun hc2 => ?_) (fun hc2 => ?_))))))))))))))))))))))))))))))))))
  ·have hc2 := BP.t hc2
   exfalso; first | (rw [hvl] at hc2; simp at hc2; done) | (simp at hc2; omega)
  ·have hc2 := BP.f hc2
   skip
   refine .skip (.thn (k6 _ _ (.seq fun _ k8 => .seq fun _ k9 => .dr (.s [] rfl rfl rfl (.o rfl (.load (.t rfl) (i := 0) rfl ty24 rfl (Ss' := [_, _, _]) rfl)) (.s [62] rfl rfl rfl (.o rfl (.call (cQ hb (by decide) (by omega) (by omega) hl) (.cons (.t rfl) .nil))) (.s [] rfl rfl rfl (.o rfl (.fieldAddr (.t rfl) zT ty3)) (.s [64] rfl rfl rfl (.o rfl (.load1 (.t rfl) (i := 0) rfl ty3 rfl)) (.fin (n := 4) zR (by kernel_rfl) (by kernel_rfl) (by kernel_rfl) (.cv (Cv.wk (.l [1, 2, 4, 5, 6, 7, 63, 65] rfl)) (st (.ltI (.t rfl) (.t rfl)) rfl (nl (.thn (k9 _ _ (.cond (.t rfl) (fun hc3 => ?_) (fun hc3 => ?_)))))))))))))))
   ·have hc3 := BP.t hc3
    skip
    refine .seq fun _ k10 => .region (st (.mv (.t rfl)) rfl (st (.eqI (.t rfl) (.cI 3 rfl)) rfl (st (.mv (.t rfl)) rfl (stT rfl rfl (fun hg => .mv (.t rfl)) rfl (stT rfl rfl (fun hg => .len sl22 (Has.g rfl hg)) rfl (stT rfl rfl (fun hg => .eqI (Has.g rfl hg) (.cI 0 rfl)) rfl (st (.pickAnd (.t rfl) (fun h => Has.g rfl h)) rfl (st (.mv (.t rfl)) rfl (stT rfl rfl (fun hg => .mv (.t rfl)) rfl (stT rfl rfl (fun hg => .len sl22 (Has.g rfl hg)) rfl (stT rfl rfl (fun hg => .eqI (Has.g rfl hg) (.cI 0 rfl)) rfl (st (.pickAnd (.t rfl) (fun h => Has.g rfl h)) rfl (st (.as (.t rfl)) rfl (nl (.thn (k10 _ _ (.cv (Cv.wk (.l [1, 2, 4, 5, 6, 7] rfl)) (.ret (.thr (jO (.cons _ .slnil) (.inl rfl) Tryz.results3 rfl (.tmp (.t rfl) .nil) (rfl)))))))))))))))))))))
   ·have hc3 := BP.f hc3
    exfalso; have := rank_gs.2 ⟨i0, hi0, hz⟩; omega
theorem de (R C : Nat) (xs vs : List (Bool × List Nat)) (hR : R ≤ 64) (hC : C ≤ 64) (hl : xs.length = R * C) (hvl : vs.length = C) (hs : ∀ i, i < R → gsS C (vals xs) i ≠ 0) : CtrX Tryz.prog 3 [isM (R : Int) (C : Int) xs, SlK 2 zc vs] ([]) (fun S M => S = isB true) := by
 refine CtrX.intro Tryz.func3 rfl (by kernel_rfl) Tryz.ntmps3 rfl fun w0 F0 => .cv (Cv.wk (.l [0, 1] rfl)) (.fact (Has.lenLt (Has.t (t := 1) rfl)) fun lt1 => .fact (Has.okM (Has.t (t := 0) rfl)) fun okp0 => .fact (Has.okP (Has.t (t := 1) rfl)) fun okp1 => ?_)
 have hfo := zj hR hC hl
 refine .seq fun _ k1 => .region (.box (.t rfl) rfl fun b1 => st (.as (.cB false)) rfl (nl (.thn (k1 _ _ (.seq fun _ k2 => .seq fun _ k3 => .region (st (.call qm .nil) rfl (st (.not (.t rfl)) rfl (st (.mv (.t rfl)) rfl (stF rfl rfl (fun hg => .load (.t rfl) (i := 0) rfl ty24 rfl (Ss' := [_, _, _]) rfl) rfl (stF rfl rfl (fun hg => .call (wU) (.cons (Has.g rfl hg) (.cons (.cI 3 rfl) (.cons (.cI 1 rfl) .nil)))) rfl (stF rfl rfl (fun hg => .not (Has.g rfl hg)) rfl (st (.pickOr (.t rfl) (fun h => Has.g rfl (ng h))) rfl (st (.mv (.t rfl)) rfl (stF rfl rfl (fun hg => .mv (.t rfl)) rfl (stF rfl rfl (fun hg => .len sl22 (Has.g rfl hg)) rfl (stF rfl rfl (fun hg => .gtI (Has.g rfl hg) (.cI 4 rfl)) rfl (st (.pickOr (.t rfl) (fun h => Has.g rfl (ng h))) rfl (st (.mv (.t rfl)) rfl (stF rfl rfl (fun hg => .mv (.t rfl)) rfl (stF rfl rfl (fun hg => .call (jP) (.cons (Has.g rfl hg) (.cons (.cI 4 rfl) (.cons (.cI 2 rfl) .nil)))) rfl (stF rfl rfl (fun hg => .not (Has.g rfl hg)) rfl (st (.pickOr (.t rfl) (fun h => Has.g rfl (ng h))) rfl (nl (.thn (k3 _ _ (.cv (Cv.wk (.l [1, 2, 4, 31] rfl)) (.cond (.t rfl) (fun hc1 => ?_) (fun hc1 => ?_))))))))))))))))))))))))))))
 ·have hc1 := BP.t hc1
  skip
  refine .seq fun _ k4 => .region (st (.call qm .nil) rfl (st (.as (.t rfl)) rfl (nl (.thn (k4 _ _ (.ret (.thr (jO (.cons _ .slnil) (.inl rfl) Tryz.results3 rfl (.tmp (.t rfl) .nil) (rfl)))))))))
 ·have hc1 := BP.f hc1
  have HF0 : (((R : Int) ≤ 3 ∧ (C : Int) ≤ 3) ∧ fewB xs 100 1 = true) ∧ ((vs.length : Nat) : Int) ≤ 4 ∧ fewB vs 4 2 = true := (by simpa [and_assoc] using hc1)
  obtain ⟨⟨⟨hR5, hC5⟩, HF⟩, hv4, HFv⟩ := HF0
  obtain ⟨hl0, hb⟩ := bh (N := 100) (K := 1) okp0 HF rfl rfl (by decide)
  obtain ⟨hlv, hbv⟩ := bh (N := 4) (K := 2) okp1 HFv rfl rfl (by decide)
  have hR3 : R ≤ 3 := (by omega)
  have hC3 : C ≤ 3 := (by omega)
  have hvv : (vals vs).length = C := by rw [qJ]; exact hvl
  have hrl : (nrR C (vals xs) (vals vs) R R).length = C := bV hvv R
  have hk3 : kB 3 = 420128 := by decide
  have hrb : Bd (nrR C (vals xs) (vals vs) R R) 1000000 := (cc (R := R) hR3 hC3 hb hbv R (Nat.le_refl _)).mono (Nat.le_trans (aM hR3) (by omega))
  have hrb2 : Bd (nrR C (vals xs) (vals vs) R R) 500000 := (cc (R := R) hR3 hC3 hb hbv R (Nat.le_refl _)).mono (Nat.le_trans (aM hR3) (by omega))
  have hcb := nrL_bd (V := vals vs) hR3 hC3 hb hbv
  have hW := ao hR3 hC3 hb
  have hgl := xB C (vals xs) R
  have hrm : ((nrR C (vals xs) (vals vs) R R).map nz).length = C := by rw [List.length_map]; exact hrl
  have hcm : ((nrL C (vals xs) (vals vs) R).map nz).length = R := by rw [List.length_map]; exact nrL_len _ _ _ _
  refine .skip (.thn (k2 _ _ (.seq fun _ k5 => .region (st (.load (.t rfl) (i := 0) rfl ty24 rfl (Ss' := [_, _, _]) rfl) rfl (st (.mv (.t rfl)) rfl (st (.call (gram_Near hR3 hC3 hl hb hbv hvl hs) (.cons (.t rfl) (.cons (.t rfl) .nil))) rfl (st (.mv (.t rfl)) rfl (st (.ext (.t rfl) rfl) rfl (st (.ext (.t rfl) rfl) rfl (st (.ext (.t rfl) rfl) rfl (st (.as (.t rfl)) rfl (st (.as (.t rfl)) rfl (st (.as (.t rfl)) rfl (nl (.thn (k5 _ _ (.cv (Cv.wk (.l [1, 2, 4, 5, 6, 7] rfl)) (.seq fun _ k6 => .seq fun _ k7 => .region (st (.load (.t rfl) (i := 0) rfl ty24 rfl (Ss' := [_, _, _]) rfl) rfl (st (.eq (.call (vR) (.cons (.t rfl) .nil)) ((show isB _ = isB true from zU (hfo)))) rfl (st (.not (.t rfl)) rfl (st (.mv (.t rfl)) rfl (stF rfl rfl (fun hg => .mv (.t rfl)) rfl (stF rfl rfl (fun hg => .len sl22 (Has.g rfl hg)) rfl (stF rfl rfl (fun hg => .fieldAddr (.t rfl) zS ty3) rfl (stF rfl rfl (fun hg => .load1 (Has.g rfl hg) (i := 0) rfl ty3 rfl) rfl (stF rfl rfl (fun hg => .neI (Has.g rfl hg) (Has.g rfl hg)) rfl (st (.pickOr (.t rfl) (fun h => Has.g rfl (ng h))) rfl (nl (.thn (k7 _ _ (.cv (Cv.wk (.l [1, 2, 4, 5, 6, 7, 49] rfl)) (.cond (.t rfl) (fun hc2 => ?_) (fun hc2 => ?_))))))))))))))))))))))))))))))))))
  ·have hc2 := BP.t hc2
   exfalso; first | (rw [hvl] at hc2; simp at hc2; done) | (simp at hc2; omega)
  ·have hc2 := BP.f hc2
   skip
   refine .skip (.thn (k6 _ _ (.seq fun _ k8 => .seq fun _ k9 => .dr (.s [] rfl rfl rfl (.o rfl (.load (.t rfl) (i := 0) rfl ty24 rfl (Ss' := [_, _, _]) rfl)) (.s [62] rfl rfl rfl (.o rfl (.call (cQ hb (by decide) (by omega) (by omega) hl) (.cons (.t rfl) .nil))) (.s [] rfl rfl rfl (.o rfl (.fieldAddr (.t rfl) zT ty3)) (.s [64] rfl rfl rfl (.o rfl (.load1 (.t rfl) (i := 0) rfl ty3 rfl)) (.fin (n := 4) zR (by kernel_rfl) (by kernel_rfl) (by kernel_rfl) (.cv (Cv.wk (.l [1, 2, 4, 5, 6, 7, 63, 65] rfl)) (st (.ltI (.t rfl) (.t rfl)) rfl (nl (.thn (k9 _ _ (.cond (.t rfl) (fun hc3 => ?_) (fun hc3 => ?_)))))))))))))))
   ·have hc3 := BP.t hc3
    exfalso; obtain ⟨i, h1, h2⟩ := rank_gs.1 (show (pivs (mf C (vals xs)) R C).length < R by omega); exact hs i h1 h2
   ·have hc3 := BP.f hc3
    skip
    refine .skip (.thn (k8 _ _ (.seq fun _ k10 => .seq fun _ k11 => .region (st (.mv (.t rfl)) rfl (st (.neI (.t rfl) (.cI 0 rfl)) rfl (st (.mv (.t rfl)) rfl (stF rfl rfl (fun hg => .mv (.t rfl)) rfl (stF rfl rfl (fun hg => .len sl22 (Has.g rfl hg)) rfl (stF rfl rfl (fun hg => .fieldAddr (.t rfl) zT ty3) rfl (stF rfl rfl (fun hg => .load1 (Has.g rfl hg) (i := 0) rfl ty3 rfl) rfl (stF rfl rfl (fun hg => .neI (Has.g rfl hg) (Has.g rfl hg)) rfl (st (.pickOr (.t rfl) (fun h => Has.g rfl (ng h))) rfl (st (.mv (.t rfl)) rfl (stF rfl rfl (fun hg => .mv (.t rfl)) rfl (stF rfl rfl (fun hg => .len sl22 (Has.g rfl hg)) rfl (stF rfl rfl (fun hg => .fieldAddr (.t rfl) zS ty3) rfl (stF rfl rfl (fun hg => .load1 (Has.g rfl hg) (i := 0) rfl ty3 rfl) rfl (stF rfl rfl (fun hg => .neI (Has.g rfl hg) (Has.g rfl hg)) rfl (st (.pickOr (.t rfl) (fun h => Has.g rfl (ng h))) rfl (st (.mv (.t rfl)) rfl (stF rfl rfl (fun hg => .mv (.t rfl)) rfl (stF rfl rfl (fun hg => .mv (.t rfl)) rfl (stF rfl rfl (fun hg => .mv (.t rfl)) rfl (stF rfl rfl (fun hg => .load (.t rfl) (i := 0) rfl ty24 rfl (Ss' := [_, _, _]) rfl) rfl ?_))))))))))))))))))))))))
    refine stF rfl rfl (fun hg => have hg' := BP.t hg; OK1.call (ref20_Sums (K := 400000) (by omega) (by omega) hl hb hbv hvl hcb (nrL_len _ _ _ _) (by decide)) (.cons (Has.g rfl hg) (.cons (Has.g rfl hg) (.cons (Has.g rfl hg) .nil)))) rfl ?_
    refine stF rfl rfl (fun hg => have hg' := BP.t hg; OK1.eq (.call (ref10_Same (K := 1000000) (L := 1000000) (by rw [zP]; exact hrb) (by rw [suL_vals hvv]; exact hrb) (by decide) (by decide) (by rw [List.length_map]; omega) (by rw [el]; omega)) (.cons (Has.g rfl hg) (.cons (Has.g rfl hg) .nil))) ((show isB _ = isB true from zU (decide_eq_true (sub_nil.2 fun i => by rw [zP, suL_vals hvv]))))) rfl ?_
    refine stF rfl rfl (fun hg => .not (Has.g rfl hg)) rfl (st (.pickOr (.t rfl) (fun h => Has.g rfl (ng h))) rfl (nl (.thn (k11 _ _ (.cv (Cv.wk (.l [2, 4, 6, 103] rfl)) (.cond (.t rfl) (fun hc4 => ?_) (fun hc4 => ?_)))))))
    ·have hc4 := BP.t hc4
     exfalso; simp [hcm, hrm] at hc4
    ·have hc4 := BP.f hc4
     skip
     refine .skip (.thn (k10 _ _ (.seq fun _ k12 => .region (st (.load (.t rfl) (i := 0) rfl ty24 rfl (Ss' := [_, _, _]) rfl) rfl (st (.call ((ref20_LeftX hR3 hC3 hl hb hs).toCtr fun S' M' hh => hh) (.cons (.t rfl) .nil)) rfl (st (.as (.t rfl)) rfl (nl (.thn (k12 _ _ (.seq fun _ k13 => .region (.cv (Cv.grow0K (α := (Bool × List Nat) × Bool × List Nat) rc) (st (.as (Has.cGr (α := (Bool × List Nat) × Bool × List Nat))) rfl (nl (.thn (k13 _ _ (.seq fun _ k14 => .seq fun _ k15 => .region (st (.as (.cI 0 rfl)) rfl (nl (.thn (k15 _ _ (.block (.loopF [4, 6, 8] (fun (z : { z : Nat × Gr ((Bool × List Nat) × Bool × List Nat) // z.1 ≤ C }) => match z with | ⟨(k, g), hI⟩ => [(10, isI (k : Int)), (9, isGr g (((frs (nrR C (vals xs) (vals vs) R R)).take k).map nq).length)]) (fun M => fun (z : { z : Nat × Gr ((Bool × List Nat) × Bool × List Nat) // z.1 ≤ C }) => match z with | ⟨(k, g), hI⟩ => [grMK rc g (((frs (nrR C (vals xs) (vals vs) R R)).take k).map nq), (some b1, zB [isI (R : Int), isI (C : Int), SlK 2 zc xs])]) (fun (z : { z : Nat × Gr ((Bool × List Nat) × Bool × List Nat) // z.1 ≤ C }) => match z with | ⟨(k, g), hI⟩ => C - k) (⟨(0, Gr.nil), Nat.zero_le _⟩) (Cv.mem (.c 10 rfl ?_ (.c 9 rfl ?_ (.l [4, 6, 8] rfl))) ?_) ?_))))))))))))))))))))))
     ·rfl
     ·rfl
     ·rfl
     rintro ⟨⟨k, g⟩, hI⟩ K16 hK16
     refine .cv (Cv.wk (.l [10, 9, 4, 6, 8] rfl)) (.memEq (M' := [grMK rc g (((frs (nrR C (vals xs) (vals vs) R R)).take k).map nq), (some b1, zB [isI (R : Int), isI (C : Int), SlK 2 zc xs])]) rfl ?_)
     simp only [] at hI
     refine .seq fun _ k17 => .seq fun _ k18 => .region (st (.mv (.t rfl)) rfl (st (.mv (.t rfl)) rfl (st (.len sl22 (.t rfl)) rfl (st (.ltI (.t rfl) (.t rfl)) rfl (nl (.thn (k18 _ _ (.cond (.t rfl) (fun hc5 => ?_) (fun hc5 => ?_)))))))))
     ·have hc5 := BP.t hc5
      have hkC : k < C := (by omega)
      have hrk := hrb k
      refine .skip (.thn (k17 _ _ (.seq fun _ k19 => .block (.region (st (.mv (.t rfl)) rfl (st (.mv (.t rfl)) rfl (st (.mv (.t rfl)) rfl (st (.ixK sl22 ty41 (.t rfl) (.t rfl) zO ⟨by omega, by omega⟩ (getZ (i := k) (by omega))) rfl (st (.loadP (.t rfl) ty41 rfl (Ss' := [_, _]) rfl) rfl (st (.eq (.call (ag (by rw [zC]; omega)) (.cons (.t rfl) .nil)) ((show isQ _ = Flat (rc (nq ((cf (nrR C (vals xs) (vals vs) R R) k : Int) : Rat))) from qk (by rw [zH])))) rfl ?_))))))))))
      refine st (.buildS [isB false, SlM isU [], isB false, SlM isU []] sl37 ty43 zt (fun _ _ => ⟨rfl, nilM _ _, rfl, nilM _ _, trivial⟩) rfl rfl (.cons (.t rfl) rfl rfl rfl .nil) rfl (S := SlK 4 rc [nq ((cf (nrR C (vals xs) (vals vs) R R) k : Int) : Rat)]) rfl) rfl (.appendGK (fk := rc) (u := ((false, []), (false, []))) qg (by decide) (fun _ => inferInstance) sl37 ty43 zt (fun _ _ => ⟨rfl, nilM _ _, rfl, nilM _ _, trivial⟩) by43 (.t rfl) (i := 0) rfl (.t rfl) (by rw [List.length_map, List.length_take]; show min k _ + 1 ≤ _; omega) (by simp) rfl fun gr1 => ?_)
      refine .memEq (M' := [grMK _ _ _, _]) rfl (st (.as (.t rfl)) rfl (nl (.bln (.thn (k19 _ _ (.region (st (.mv (.t rfl)) rfl (st (.addI (.t rfl) (.cI 1 rfl) (by omega) (by omega)) rfl (st (.as (.t rfl)) rfl (nl (.thn ?_)))))))))))
      refine hK16 (⟨(k + 1, gr1), by show k + 1 ≤ C; omega⟩) _ _ ?_ (Cv.mem (.c 10 rfl ?_ (.c 9 rfl ?_ (.l [4, 6, 8] rfl))) ?_)
      ·show C - (k + 1) < C - k; omega
      ·exact zE (by omega)
      ·exact qq (by rw [jV (by omega), List.map_append, List.length_append]; rfl)
      ·exact qz (by rw [jV (by omega), List.map_append]; rfl)
     ·have hc5 := BP.f hc5
      have hkC : k = C := (by omega)
      have htk : ((frs (nrR C (vals xs) (vals vs) R R)).take k) = frs (nrR C (vals xs) (vals vs) R R) := List.take_of_length_le (by rw [vX]; omega)
      have hXb : QB ((frs (nrR C (vals xs) (vals vs) R R)).take k) 500000 := by rw [htk]; exact cw hrb2 (by decide)
      have hXl : ((frs (nrR C (vals xs) (vals vs) R R)).take k).length = C := by rw [htk, vX]; exact hrl
      have hXm : (((frs (nrR C (vals xs) (vals vs) R R)).take k).map nq).length = C := by rw [List.length_map]; exact hXl
      refine .exit (.the (.the (.blh (.thn (k14 _ _ (.cv (Cv.wk (.l [4, 8, 9] rfl)) (.seq fun _ k20 => .seq fun _ k21 => .cv (Cv.freezeGK (t := 9) (i := 0) (ys := ((frs (nrR C (vals xs) (vals vs) R R)).take k).map nq) qg rfl rfl rfl) (.memEq (M' := [_]) rfl (.cv (Cv.wk (.l [4, 8, 9] rfl)) (.region (st (.as (.cI 0 rfl)) rfl (nl (.thn (k21 _ _ (.block (.loopF [8, 9] (fun (z : { i : Nat // i ≤ R }) => match z with | ⟨i, hi⟩ => [(11, isI (i : Int))]) (fun M => fun (z : { i : Nat // i ≤ R }) => match z with | ⟨i, hi⟩ => [(some b1, zB [isI (R : Int), isI (C : Int), SlK 2 zc xs])]) (fun (z : { i : Nat // i ≤ R }) => match z with | ⟨i, hi⟩ => R - i) (⟨0, Nat.zero_le _⟩) (Cv.mem (.c 11 rfl ?_ (.l [8, 9] rfl)) ?_) ?_))))))))))))))))
      ·rfl
      ·rfl
      rintro ⟨i, hi⟩ K22 hK22
      refine .cv (Cv.wk (.l [11, 8, 9] rfl)) (.memEq (M' := [(some b1, zB [isI (R : Int), isI (C : Int), SlK 2 zc xs])]) rfl (.seq fun _ k23 => .seq fun _ k24 => .region (st (.mv (.t rfl)) rfl (st (.mv (.t rfl)) rfl (st (.len sl35 (.t rfl)) rfl (st (.ltI (.t rfl) (.t rfl)) rfl (nl (.thn (k24 _ _ (.cond (.t rfl) (fun hc6 => ?_) (fun hc6 => ?_)))))))))))
      ·have hc6 := BP.t hc6
       have hiR : i < R := (by omega)
       have hY : QB (gsY C (vals xs) i) 1000 := hW i i hiR (Nat.le_refl _)
       have hYl := wd C (vals xs) i
       have hsq : qs (gsS C (vals xs) i) ≤ 3 * (1000 + 1000 + 1) + 1 := xo hC3 hY hY
       have hdq : qs (dotQ (qf (frs (nrR C (vals xs) (vals vs) R R))) (qf (gsY C (vals xs) i)) C) ≤ 3 * (500000 + 1000 + 1) + 1 := xo hC3 (cw hrb2 (by decide)) hY
       obtain ⟨hn1, hn2⟩ := near_all (V := vals vs) hs R (Nat.le_refl _) i (by omega) hiR
       refine .skip (.thn (k23 _ _ (.seq fun _ k25 => .block (.seq fun _ k26 => .drh [true] (Ms := [_]) rfl (.s [] rfl rfl rfl (.o rfl (.mv (.t rfl))) (.s [] rfl rfl rfl (.o rfl (.mv (.t rfl))) (.s [126, 127] rfl rfl rfl (.o rfl (.ixP sl35 ty37 (.t rfl) (.t rfl) ⟨by omega, by omega⟩ (xH (by omega)))) (.s [128] rfl rfl rfl (.o rfl (.loadP1 (.t rfl) ty37)) (.s [] rfl rfl rfl (.o rfl (.mv (.t rfl))) (.s [] rfl rfl rfl (.o rfl (.mv (.t rfl))) (.s [130, 131] rfl rfl rfl (.o rfl (.ixP sl35 ty37 (.t rfl) (.t rfl) ⟨by omega, by omega⟩ (xH (by omega)))) (.s [132] rfl rfl rfl (.o rfl (.loadP1 (.t rfl) ty37)) (.s [129, 133] rfl rfl rfl (.o rfl (.eq (.call (vD hY hY rfl (by omega) (by decide)) (.cons (.t rfl) (.cons (.t rfl) .nil))) ((show _ = isQ (gsS C (vals xs) i) from qk (by rw [hYl]; rfl))))) ?_)))))))))))))
       refine .als2 (n1 := 10) (ds := [12]) (zs := [[isB false, SlM isU [], isB false, SlM isU []]]) rfl (.cons rfl rfl zt (fun _ _ => ⟨rfl, nilM _ _, rfl, nilM _ _, trivial⟩) .nil) (.cons_cons _ .slnil) (Cs := [_]) rfl (.fin (n := 10) zR rfl (by kernel_rfl) (by kernel_rfl) (by kernel_rfl) (fun bs hbs => ?_))
       obtain ⟨b2, rfl⟩ := len1 hbs
       refine .memEq (M' := [_, _]) rfl (.cv (Cv.wk (.k 8 rfl (.k 9 rfl (.k 11 rfl (.k 120 rfl (.k 121 rfl (.k 122 rfl (.k 123 rfl (.k 126 rfl (.k 127 rfl (.k 128 rfl (.k 129 rfl (.k 130 rfl (.k 131 rfl (.k 132 rfl (.k 133 rfl (.k 134 rfl (.cons (t := 12) (Has.op rfl) .nil)))))))))))))))))) (.store (.t rfl) (.t rfl) (i := 0) rfl ty43 rfl rfl (Ss' := [_, _, _, _]) rfl (M' := [(some _, zB [_, _, _, _]), _]) rfl (nl (.thn (k26 _ _ (.seq fun _ k27 => .region (st (.mv (.t rfl)) rfl (st (.mv (.t rfl)) rfl (st (.mv (.t rfl)) rfl (st (.ixP sl35 ty37 (.t rfl) (.t rfl) ⟨by omega, by omega⟩ (xH (by omega))) rfl (st (.loadP1 (.t rfl) ty37) rfl (st (.eq (.call (vD hXb hY (by omega) (by omega) (by decide)) (.cons (.t rfl) (.cons (.t rfl) .nil))) ((show _ = isQ (dotQ (qf (frs (nrR C (vals xs) (vals vs) R R))) (qf (gsY C (vals xs) i)) C) from qk (by rw [hXl, htk])))) rfl (.alloc [isB false, SlM isU [], isB false, SlM isU []] zt (fun _ _ => ⟨rfl, nilM _ _, rfl, nilM _ _, trivial⟩) rfl fun b3 => .store (.t rfl) (.t rfl) (i := 0) rfl ty43 rfl rfl (Ss' := [_, _, _, _]) rfl (M' := [(some _, zB [_, _, _, _]), _, _]) rfl (nl (.thn (k27 _ _ (.seq fun _ k28 => .region (st (.load (.t rfl) (i := 0) rfl ty43 rfl (Ss' := [_, _, _, _]) rfl) rfl (st (.load (.t rfl) (i := 0) rfl ty43 rfl (Ss' := [_, _, _, _]) rfl) rfl (st (.call (bU hdq hdq (by decide)) (.cons (.t rfl) (.cons (.t rfl) .nil))) rfl (.alloc [isB false, SlM isU [], isB false, SlM isU []] zt (fun _ _ => ⟨rfl, nilM _ _, rfl, nilM _ _, trivial⟩) rfl fun b4 => .store (.t rfl) (.t rfl) (i := 0) rfl ty43 rfl rfl (Ss' := [_, _, _, _]) rfl (M' := [(some _, zB [_, _, _, _]), _, _, _]) rfl (nl (.thn (k28 _ _ (.seq fun _ k29 => .dr (.s [] rfl rfl rfl (.o rfl (.load (.t rfl) (i := 0) rfl ty43 rfl (Ss' := [_, _, _, _]) rfl)) (.s [] rfl rfl rfl (.o rfl (.load (.t rfl) (i := 2) rfl ty43 rfl (Ss' := [_, _, _, _]) rfl)) (.s [145] rfl rfl rfl (.o rfl (.call (rat_Neg hsq (by decide)) (.cons (.t rfl) .nil))) (.s [144, 146] rfl rfl rfl (.o rfl (.call (rat_Cmp (ew hdq hdq) (qs_neg hsq) (by decide)) (.cons (.t rfl) (.cons (.t rfl) .nil)))) (.s [147] rfl rfl rfl (.o rfl (.ltI (.t rfl) (.cI 0 rfl))) (.s [148] rfl rfl rfl (.o rfl (.mv (.t rfl))) ?_)))))))))))))))))))))))))))))))
       refine .s [149] rfl rfl rfl (.F rfl rfl rfl (fun hg => .load (.t rfl) (i := 0) rfl ty43 rfl (Ss' := [_, _, _, _]) rfl)) (.s [149] rfl rfl rfl (.F rfl rfl rfl (fun hg => .load (.t rfl) (i := 2) rfl ty43 rfl (Ss' := [_, _, _, _]) rfl)) (.fin (n := 8) zR (by kernel_rfl) (by kernel_rfl) (by kernel_rfl) (.cv (Cv.wk (.l [8, 9, 11, 120, 121, 122, 123, 126, 127, 128, 129, 130, 131, 132, 133, 134, 12, 135, 136, 137, 138, 139, 140, 13, 141, 142, 143, 14, 144, 145, 146, 147, 148, 149, 150, 151] rfl)) ?_)))
       refine stF rfl rfl (fun hg => have hg' := BP.t hg; OK1.call (rat_Cmp (ew hdq hdq) hsq (by decide)) (.cons (Has.g rfl hg) (.cons (Has.g rfl hg) .nil))) rfl ?_
       refine stF rfl rfl (fun hg => .geI (Has.g rfl hg) (.cI 0 rfl)) rfl (st (.pickOr (.t rfl) (fun h => Has.g rfl (ng h))) rfl (nl (.thn (k29 _ _ (.cond (.t rfl) (fun hc7 => ?_) (fun hc7 => ?_))))))
       ·have hc7 := BP.t hc7
        exfalso; exact near_dead hn1 hn2 hc7
       ·have hc7 := BP.f hc7
        skip
        refine .skip (.bln (.thn (k25 _ _ (.region (st (.mv (.t rfl)) rfl (st (.addI (.t rfl) (.cI 1 rfl) (by omega) (by omega)) rfl (st (.as (.t rfl)) rfl (nl (.thn (hK22 (⟨i + 1, by omega⟩) _ _ ?_ (Cv.trans (Cv.drop ((.cons _ (.cons _ (.cons _ (.cons_cons _ .slnil)))))) (Cv.mem (.c 11 rfl ?_ (.l [8, 9] rfl)) ?_))))))))))))
        ·show R - (i + 1) < R - i; omega
        ·exact zE (by omega)
        ·rfl
      ·have hc6 := BP.f hc6
       skip
       refine .exit (.the (.the (.blh (.thn (k20 _ _ (.cv (Cv.wk .nil) (.seq fun _ k30 => .region (st (.as (.cB true)) rfl (nl (.thn (k30 _ _ (.ret (jO (.cons _ .slnil) (.inl rfl) Tryz.results3 rfl (.tmp (.t rfl) .nil) (rfl))))))))))))))
theorem least_of {P : Nat → Prop} : ∀ n, P n → ∃ i, P i ∧ ∀ j, j < i → ¬ P j := fun n => by
  induction n using Nat.strongRecOn with
  | _ n ih =>
    intro h
    by_cases h2 : ∃ j, j < n ∧ P j
    · obtain ⟨j, h3, h4⟩ := h2; exact ih j h3 h4
    · exact ⟨n, h, fun j hj hp => h2 ⟨j, hj, hp⟩⟩
theorem c_GramNear (r c : Int) (xs vs : List (Bool × List Nat)) : Ctr Tryz.prog 3 [isM r c xs, SlK 2 zc vs] (isB true) := by
  cases h : xe r c xs.length with
  | true =>
    obtain ⟨R, C, rfl, rfl, h1, h2, h3⟩ := formB_iff.1 h
    by_cases h4 : vs.length = C
    · by_cases h5 : ∃ i, i < R ∧ gsS C (vals xs) i = 0
      · obtain ⟨i, h6⟩ := h5
        obtain ⟨i0, ⟨h7, h8⟩, h9⟩ := least_of (P := fun i => i < R ∧ gsS C (vals xs) i = 0) i h6
        exact (df R C xs vs h1 h2 h3 h4 i0 h7 h8 fun j hj e => h9 j hj ⟨by omega, e⟩).toCtr fun S' M' hh => hh
      · exact (de R C xs vs h1 h2 h3 h4 fun i hi e => h5 ⟨i, hi, e⟩).toCtr fun S' M' hh => hh
    · exact (dK R C xs vs h1 h2 h3 h4).toCtr fun S' M' hh => hh
  | false => exact (dL r c xs vs h).toCtr fun S' M' hh => hh
end Go.Proofs.YthmhlblaleahpaaGreat
namespace Go.En
open Go.RowKit Go.ChangeShapes Go.WideShapes Go.ChangeAt
theorem vi {α β : Type} (g h : α → β) : ∀ (l : List α) (j : Nat), (l.flatMap fun a => [g a, h a])[j]? = (l[j / 2]?).map (fun a => if j % 2 = 0 then g a else h a)
  | [], j => by simp
  | a :: l, 0 => by simp
  | a :: l, 1 => by simp
  | a :: l, j + 2 => by
    have := vi g h l j
    rw [show (j + 2) / 2 = j / 2 + 1 by omega, show (j + 2) % 2 = j % 2 by omega]
    simpa using this
section
variable {H : Type} {enc : TypeId × Value → H} {P : Program}
theorem open_Zs {W : World} {base : Nat} {T e tb ts T' : TypeId} {v : Value} {d : DataW H} {ps : List MemPlace} (hT : P.underlying T = some (.slice e)) (hfs : fsB P e = some [(tb, 0), (ts, 1)]) (hub : P.underlying tb = some .bool) (hu : P.underlying ts = some (.slice T')) (hu' : P.underlying T' = some (.int .u64)) (hc : P.cellsOf T' = 1) (hcb : P.cellsOf tb = 1) (hcs : P.cellsOf ts = 1) (hce : P.cellsOf e = 2)
    (hv : Value.okWide P W .any base T v) (h : DataW.Trod enc P W 0 (fun _ => true) true T v d ps) (hps : ∀ x ∈ ps, x.block < W.heap.size) : ∃ xs : List (Bool × List Nat), (isZs xs).h W (fun b => b < W.heap.size) v := by
  obtain ⟨a0, n0, c0, rfl⟩ := okWide_slice hT hv
  obtain ⟨fuel, hf⟩ := h
  obtain ⟨fs, hue, hsz, hget⟩ := cu hfs
  obtain ⟨f0, g0, rfl, e0⟩ := hget 0 tb 0 rfl
  obtain ⟨f1, g1, rfl, e1⟩ := hget 1 ts 1 rfl
  have hfs2 : fs = #[f0, f1] := by
    apply Array.ext'
    have hl : fs.toList.length = 2 := by simpa using hsz
    match hq : fs.toList, hl with
    | [p, q], _ =>
      have a0 : fs.toList[0]? = some f0 := by simpa using g0
      have a1 : fs.toList[1]? = some f1 := by simpa using g1
      rw [hq] at a0 a1
      simp at a0 a1
      rw [a0, a1]
  subst hfs2
  rcases Deep.open_slice_pairs hT hue hce e0 e1 hcb hcs hf with ⟨h1, _⟩ | ⟨a, len, cap, m, n, V0, V1, D0, D1, P0, P1, h1, _, hlc, hcm, hm, hx, hel⟩
  · have e : Value.slice a0 n0 c0 = .slice none 0 0 := by simpa [Value.cells] using h1
    rw [e]; exact ⟨[], nilK⟩
  · have e : Value.slice a0 n0 c0 = .slice (some a) len cap := by simpa [Value.cells] using h1
    rw [e]
    simp only [if_true] at hm
    subst m
    have hps' : ∀ i, i < cap → ∀ y ∈ P1 i, y.block < W.heap.size := fun i hi y hy => hps y (by
      have := (Prod.mk.inj hx).2
      rw [this]
      exact List.mem_append_right _ (List.mem_flatMap.2 ⟨i, List.mem_range.2 hi, List.mem_append_right _ hy⟩))
    obtain ⟨l, hl, hgl⟩ := vv (p := fun i (x : Bool × List Nat) => V0 i = .bool x.1 ∧ (zD x.2).h W (fun b => b < W.heap.size) (V1 i)) len (fun i hi => by
      obtain ⟨_, _, q0, q1⟩ := hel i (by omega)
      obtain ⟨b, hb, _⟩ := DataW.trod_bool hub q0
      obtain ⟨v, ws, hv1, hw⟩ := rd_row hu hu' hc word_of q1 (hps' i (by omega))
      obtain rfl : V1 i = v := by simpa using hv1
      exact ⟨(b, ws), by simpa using hb, hw⟩)
    refine ⟨l, some a, cap, by rw [hl], by rw [hl]; exact hlc, hcm, qW zO l, ?_⟩
    rcases Nat.eq_zero_or_pos len with h0 | h0
    · exact .inl (by omega)
    · have hc0 := (hel 0 (by omega)).1
      have hs : a.spot = none := by
        cases hsp : a.spot with
        | none => rfl
        | some s =>
          simp only [Addr.add, Nat.zero_mul, if_true] at hc0
          unfold World.cell? at hc0
          rw [hsp] at hc0
          split at hc0 <;> simp at hc0
      obtain ⟨b, off, sp⟩ := a
      simp only at hs
      subst hs
      right
      refine ⟨b, off, rfl, ?_, (List.range len).flatMap (fun i => [V0 i, V1 i]), ?_, fun j u hj => ?_⟩
      · have : MemPlace.cell b (off + 0) ∈ ps := by
          have := (Prod.mk.inj hx).2
          rw [this]
          exact List.mem_append_left _ (List.mem_map.2 ⟨0, by simp; omega, rfl⟩)
        exact hps _ this
      · have hlen2 : ((List.range len).flatMap fun i => [V0 i, V1 i]).length = len * 2 := by
          have := qW (fk := fun (i : Nat) => [isB true, isB true]) (k := 2) (fun _ => rfl) (List.range len)
          rw [List.length_flatMap] at this ⊢
          simpa using this
        refine jE (by rw [qW zO, hlen2, hl]) (fun j S v hS hv => ?_)
        have hz := vi (fun p : Bool × List Nat => isB p.1) (fun p => zD p.2) l j
        rw [show (l.flatMap fun a => [isB a.1, zD a.2]) = l.flatMap zc from rfl, hS] at hz
        have hw := vi V0 V1 (List.range len) j
        rw [hv] at hw
        have hj : j / 2 < l.length := by
          rcases Nat.lt_or_ge (j / 2) l.length with h | h
          · exact h
          · rw [List.getElem?_eq_none h] at hz; cases hz
        rw [List.getElem?_eq_getElem hj] at hz
        rw [List.getElem?_range (by omega)] at hw
        simp only [Option.map_some, Option.some.injEq] at hz hw
        obtain ⟨k1, k2⟩ := hgl (j / 2) hj
        subst hz; subst hw
        by_cases hp : j % 2 = 0
        · rw [if_pos hp, if_pos hp, k1]; rfl
        · rw [if_neg hp, if_neg hp]; exact k2
      · have hw := vi V0 V1 (List.range len) j
        rw [hj] at hw
        have hjl : j / 2 < len := by
          rcases Nat.lt_or_ge (j / 2) len with h | h
          · exact h
          · rw [List.getElem?_eq_none (by simpa using h)] at hw; cases hw
        rw [List.getElem?_range hjl] at hw
        simp only [Option.map_some, Option.some.injEq] at hw
        obtain ⟨q0, q1, _, _⟩ := hel (j / 2) (by omega)
        rw [qS] at q0
        rw [qS] at q1
        by_cases hp : j % 2 = 0
        · rw [if_pos hp] at hw; subst hw
          rw [show off + j = off + j / 2 * 2 by omega]; exact q0
        · rw [if_neg hp] at hw; subst hw
          rw [show off + j = off + (j / 2 * 2 + 1) by omega]; exact q1
end
end Go.En
namespace Go.En
open Go.RowKit Go.ChangeShapes Go.WideShapes Go.ChangeAt
section
variable {H : Type} {enc : TypeId × Value → H} {P : Program}
theorem rd_Zs {W : World} {T e tb ts T' : TypeId} {fuel : Nat} {cs : List Value} {x : DataW H × List MemPlace} (hT : P.underlying T = some (.slice e)) (hfs : fsB P e = some [(tb, 0), (ts, 1)]) (hub : P.underlying tb = some .bool) (hu : P.underlying ts = some (.slice T')) (hu' : P.underlying T' = some (.int .u64)) (hc : P.cellsOf T' = 1) (hcb : P.cellsOf tb = 1) (hcs : P.cellsOf ts = 1) (hce : P.cellsOf e = 2)
    (hf : DataW.trod enc P W 0 (fun _ => true) true fuel T cs = some x) (hps : ∀ y ∈ x.2, y.block < W.heap.size) : ∃ (v : Value) (xs : List (Bool × List Nat)), cs = [v] ∧ (isZs xs).h W (fun b => b < W.heap.size) v := by
  obtain ⟨d, ps⟩ := x
  obtain ⟨fs, hue, hsz, hget⟩ := cu hfs
  obtain ⟨f0, g0, rfl, e0⟩ := hget 0 tb 0 rfl
  obtain ⟨f1, g1, rfl, e1⟩ := hget 1 ts 1 rfl
  have hfs2 : fs = #[f0, f1] := by
    apply Array.ext'
    have hl : fs.toList.length = 2 := by simpa using hsz
    match hq : fs.toList, hl with
    | [p, q], _ =>
      have a0 : fs.toList[0]? = some f0 := by simpa using g0
      have a1 : fs.toList[1]? = some f1 := by simpa using g1
      rw [hq] at a0 a1
      simp at a0 a1
      rw [a0, a1]
  subst hfs2
  rcases Deep.open_slice_pairs hT hue hce e0 e1 hcb hcs hf with ⟨h1, _⟩ | ⟨a, len, cap, m, n, V0, V1, D0, D1, P0, P1, h1, _, hlc, hcm, hm, hx, hel⟩
  · exact ⟨_, [], h1, nilK⟩
  · simp only [if_true] at hm
    subst m
    have hps' : ∀ i, i < cap → ∀ y ∈ P1 i, y.block < W.heap.size := fun i hi y hy => hps y (by
      have := (Prod.mk.inj hx).2
      rw [this]
      exact List.mem_append_right _ (List.mem_flatMap.2 ⟨i, List.mem_range.2 hi, List.mem_append_right _ hy⟩))
    obtain ⟨l, hl, hgl⟩ := vv (p := fun i (x : Bool × List Nat) => V0 i = .bool x.1 ∧ (zD x.2).h W (fun b => b < W.heap.size) (V1 i)) len (fun i hi => by
      obtain ⟨_, _, q0, q1⟩ := hel i (by omega)
      obtain ⟨b, hb, _⟩ := DataW.trod_bool hub q0
      obtain ⟨v, ws, hv1, hw⟩ := rd_row hu hu' hc word_of q1 (hps' i (by omega))
      obtain rfl : V1 i = v := by simpa using hv1
      exact ⟨(b, ws), by simpa using hb, hw⟩)
    refine ⟨_, l, h1, some a, cap, by rw [hl], by rw [hl]; exact hlc, hcm, qW zO l, ?_⟩
    rcases Nat.eq_zero_or_pos len with h0 | h0
    · exact .inl (by omega)
    · have hc0 := (hel 0 (by omega)).1
      have hs : a.spot = none := by
        cases hsp : a.spot with
        | none => rfl
        | some s =>
          simp only [Addr.add, Nat.zero_mul, if_true] at hc0
          unfold World.cell? at hc0
          rw [hsp] at hc0
          split at hc0 <;> simp at hc0
      obtain ⟨b, off, sp⟩ := a
      simp only at hs
      subst hs
      right
      refine ⟨b, off, rfl, ?_, (List.range len).flatMap (fun i => [V0 i, V1 i]), ?_, fun j u hj => ?_⟩
      · have : MemPlace.cell b (off + 0) ∈ ps := by
          have := (Prod.mk.inj hx).2
          rw [this]
          exact List.mem_append_left _ (List.mem_map.2 ⟨0, by simp; omega, rfl⟩)
        exact hps _ this
      · have hlen2 : ((List.range len).flatMap fun i => [V0 i, V1 i]).length = len * 2 := by
          have := qW (fk := fun (i : Nat) => [isB true, isB true]) (k := 2) (fun _ => rfl) (List.range len)
          rw [List.length_flatMap] at this ⊢
          simpa using this
        refine jE (by rw [qW zO, hlen2, hl]) (fun j S v hS hv => ?_)
        have hz := vi (fun p : Bool × List Nat => isB p.1) (fun p => zD p.2) l j
        rw [show (l.flatMap fun a => [isB a.1, zD a.2]) = l.flatMap zc from rfl, hS] at hz
        have hw := vi V0 V1 (List.range len) j
        rw [hv] at hw
        have hj : j / 2 < l.length := by
          rcases Nat.lt_or_ge (j / 2) l.length with h | h
          · exact h
          · rw [List.getElem?_eq_none h] at hz; cases hz
        rw [List.getElem?_eq_getElem hj] at hz
        rw [List.getElem?_range (by omega)] at hw
        simp only [Option.map_some, Option.some.injEq] at hz hw
        obtain ⟨k1, k2⟩ := hgl (j / 2) hj
        subst hz; subst hw
        by_cases hp : j % 2 = 0
        · rw [if_pos hp, if_pos hp, k1]; rfl
        · rw [if_neg hp, if_neg hp]; exact k2
      · have hw := vi V0 V1 (List.range len) j
        rw [hj] at hw
        have hjl : j / 2 < len := by
          rcases Nat.lt_or_ge (j / 2) len with h | h
          · exact h
          · rw [List.getElem?_eq_none (by simpa using h)] at hw; cases hw
        rw [List.getElem?_range hjl] at hw
        simp only [Option.map_some, Option.some.injEq] at hw
        obtain ⟨q0, q1, _, _⟩ := hel (j / 2) (by omega)
        rw [qS] at q0
        rw [qS] at q1
        by_cases hp : j % 2 = 0
        · rw [if_pos hp] at hw; subst hw
          rw [show off + j = off + j / 2 * 2 by omega]; exact q0
        · rw [if_neg hp] at hw; subst hw
          rw [show off + j = off + (j / 2 * 2 + 1) by omega]; exact q1
theorem open_M {W : World} {base : Nat} {T ti tm e tb ts T' : TypeId} {v : Value} {d : DataW H} {ps : List MemPlace} (hfM : fsB P T = some [(ti, 0), (ti, 1), (tm, 2)]) (hui : P.underlying ti = some (.int .i64)) (hT : P.underlying tm = some (.slice e)) (hfs : fsB P e = some [(tb, 0), (ts, 1)]) (hub : P.underlying tb = some .bool) (hu : P.underlying ts = some (.slice T')) (hu' : P.underlying T' = some (.int .u64)) (hc : P.cellsOf T' = 1) (hcb : P.cellsOf tb = 1) (hcs : P.cellsOf ts = 1) (hce : P.cellsOf e = 2)
    (hci : P.cellsOf ti = 1) (hcm : P.cellsOf tm = 1) (hcT : P.cellsOf T = 3) (hv : Value.okWide P W .any base T v) (h : DataW.Trod enc P W 0 (fun _ => true) true T v d ps) (hps : ∀ x ∈ ps, x.block < W.heap.size) : ∃ x : Int × Int × List (Bool × List Nat), (isM x.1 x.2.1 x.2.2).h W (fun b => b < W.heap.size) v := by
  obtain ⟨fs, huT, hsz, hget⟩ := cu hfM
  have hv' := hv
  simp only [Value.okWide, huT] at hv'
  obtain ⟨cs, rfl, _, _⟩ := hv'
  obtain ⟨fuel, hf⟩ := h
  obtain ⟨xs, m, _, hx, hl, hxl, hfe⟩ := DataW.trod_struct huT hf
  simp [Value.cells] at hl hx
  obtain ⟨f0, g0, rfl, e0⟩ := hget 0 ti 0 rfl
  obtain ⟨f1, g1, k1, e1⟩ := hget 1 _ 1 rfl
  obtain ⟨f2, g2, rfl, e2⟩ := hget 2 tm 2 rfl
  have h0 := hfe 0 f0 g0
  have h1 := hfe 1 f1 g1
  have h2 := hfe 2 f2 g2
  rw [List.getElem?_eq_getElem (by rw [hxl, hsz]; simp)] at h0 h1 h2
  rw [e0, hci] at h0
  rw [e1, k1, hci] at h1
  rw [e2, hcm] at h2
  obtain ⟨r, hr, hr1, hr2⟩ := rd_I hui h0
  obtain ⟨c, hc1, hc2, hc3⟩ := rd_I hui h1
  obtain ⟨u, ws, hu1, hw⟩ := rd_Zs hT hfs hub hu hu' hc hcb hcs hce h2 (fun y hy => hps y (by
    rw [hx.2]
    exact List.mem_flatMap.2 ⟨_, List.getElem_mem _, hy⟩))
  refine ⟨(r, c, ws), cs.toList, by simp, ?_⟩
  have hcs2 : cs.toList = [.int .i64 r, .int .i64 c, u] := by
    have hlen : cs.toList.length = 3 := by rw [← hcT]; simpa using hl
    match hq : cs.toList, hlen with
    | [p, q, t], _ =>
      have a1 : [p] = [Value.int .i64 r] := by have := hr; simpa [Value.cells, hq] using this
      have a2 : [q] = [Value.int .i64 c] := by have := hc1; simpa [Value.cells, hq] using this
      have a3 : [t] = [u] := by have := hu1; simpa [Value.cells, hq] using this
      rw [List.cons.inj a1 |>.1, List.cons.inj a2 |>.1, List.cons.inj a3 |>.1]
  rw [hcs2]
  exact ⟨⟨rfl, hr1, hr2⟩, ⟨rfl, hc2, hc3⟩, hw, trivial⟩
end
end Go.En
namespace Go.Proofs.YthmhlblaleahpaaGreat
open Go.En Go.RowKit
set_option maxRecDepth 10000
open Go.ChangeShapes
open Go.WideShapes
open Go.ChangeAt
open Go.Nt
open Go.Pz
open Go.Mz
theorem cZ : Opens Tryz.prog Tryz.f3 3 := by
 intro H enc W base args ds ps hval hA hlt
 rw [Tryz.params3] at hA hval
 obtain ⟨v0, vs0, d0, ds0, p0, q0, hargs, rfl, rfl, h0, r0⟩ := trodAll_cons hA
 obtain ⟨v1, vs1, d1, ds1, p1, q1, rfl, rfl, rfl, h1, r1⟩ := trodAll_cons r0
 obtain ⟨rfl, rfl, rfl⟩ := trodAll_nil r1
 obtain rfl : args = #[v0, v1] := by cases args; simp_all
 obtain ⟨x0, o0⟩ := open_M fs24 un3 un22 fs41 un4 un39 un86 (by kernel_rfl) (by kernel_rfl) (by kernel_rfl) (by kernel_rfl) (by kernel_rfl) (by kernel_rfl) (by kernel_rfl) (hval 0 24 v0 rfl rfl) h0 (fun x hx => hlt x (by simp [hx]))
 obtain ⟨x1, o1⟩ := open_Zs un22 fs41 un4 un39 un86 (by kernel_rfl) (by kernel_rfl) (by kernel_rfl) (by kernel_rfl) (hval 1 22 v1 rfl rfl) h1 (fun x hx => hlt x (by simp [hx]))
 refine ⟨_, ?_, c_GramNear x0.1 x0.2.1 x0.2.2 x1⟩
 exact ⟨o0, o1, trivial⟩
theorem jn_GramNear : Tryz.pinned.checked.prog.funcNamed Rows.gramNearRow.func = some 3 := by kernel_rfl
theorem jf_GramNear : joinedFacts Tryz.pinned.checked.prog 3 Tryz.f3 Rows.gramNearSpec Rows.gramNearRow = true := by kernel_rfl
theorem jl_GramNear : laidOutB Tryz.checked.prog = true := by kernel_rfl
theorem gramNear_said : Rows.GramNearSaid :=
 OpenClaim.holds_of_wide 3 Tryz.f3 rfl rfl rfl rfl rfl rfl rfl ⟨rfl, rfl, rfl, rfl, rfl⟩ rfl rfl rfl rfl rfl jn_GramNear Tryz.func3 jf_GramNear
  (of_decide_eq_true (by kernel_rfl)) (by unfold Func.isWrapper; first | (rw [if_pos (by decide +kernel)]; kernel_rfl) | (rw [if_neg (by decide +kernel)]; exact ⟨rfl, rfl⟩))
  (fun os started H enc _ => lift_law (C := Tryz.checked) (s := Rows.gramNearSpec) (by kernel_rfl) started (by kernel_rfl) Tryz.func3
   (ChangeSpec.witness6 (enc := enc) (C := Tryz.checked) false ⟨#[], #[.agg #[.int .i64 0, .int .i64 0, .slice none 0 0], .slice none 0 0], []⟩ 8 (by kernel_rfl) (by kernel_rfl) (by kernel_rfl) (by kernel_rfl))
   jl_GramNear (by kernel_rfl) rfl rfl un4 (fun ds h => by match ds, h with | [d0, d1], _ => rfl) cZ)
#print axioms gramNear_said
end Go.Proofs.YthmhlblaleahpaaGreat
