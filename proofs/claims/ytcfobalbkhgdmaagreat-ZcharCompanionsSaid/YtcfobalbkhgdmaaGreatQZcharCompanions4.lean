/- Rules and contracts, part 4 of 5. -/
import Derived.Test.YtcfobalbkhgdmaaGreatQZcharCompanions3
namespace Go.Proofs.YtcfobalbkhgdmaaGreat
open Go.En Go.RowKit
set_option maxRecDepth 10000
set_option maxHeartbeats 4000000
open Go.Nt
open Go.Pz
open Go.Mz
open Go.Hn
open Go.Hp
open Go.Dt
open Go.Ch
theorem zmat_Identity_1 {i k : Nat} : Ctr Tryz.prog 71 [isI (i : Int), isI (k : Int)] (Flat (zc (nz (one i k)))) := by
 refine Ctr.intro Tryz.func71 rfl (by kernel_rfl) Tryz.ntmps71 rfl fun w0 F0 => .cv (Cv.wk (.l [0, 1] rfl)) (.fact (Has.rngI (Has.t (t := 0) rfl)) fun lt0 => .fact (Has.rngI (Has.t (t := 1) rfl)) fun lt1 => .seq fun _ k1 => .region (.alloc [isB false, SlM isU []] zero36 (fun _ _ => ⟨rfl, nilM _ _, trivial⟩) rfl fun b1 => nl (.thn (k1 _ _ (.seq fun _ k2 => .seq fun _ k3 => .region (st (.mv (.t rfl)) rfl (st (.mv (.t rfl)) rfl (st (.eqI (.t rfl) (.t rfl)) rfl (nl (.thn (k3 _ _ (.cond (.t rfl) (fun hc1 => ?_) (fun hc1 => ?_)))))))))))))
 ·have hc1 := BP.t hc1
  refine .seq fun _ k4 => .region (st (.call (zint_Of) (.cons (.cI 1 rfl) .nil)) rfl (.store (.t rfl) (.t rfl) (i := 0) rfl ty36 rfl rfl (Ss' := [_, _]) rfl (M' := [(some _, cellM [_, _])]) rfl (nl (.thn (k4 _ _ (.cv (Cv.wk (.l [4] rfl)) (.ret (.thr (rt1 (.inl rfl) Tryz.results71 rfl (.cell rfl (i := 0) rfl ty36 rfl ?_ .nil))))))))))
  all_goals (exact isZ_eq (show (1 : Int) = one i k by unfold one; rw [if_pos (by omega)]))
 ·have hc1 := BP.f hc1
  refine .skip (.thn (k2 _ _ (.cv (Cv.wk (.l [4] rfl)) (.seq fun _ k5 => .region (st (.build [isB false, SlM isU []] pl36 zero36 (fun _ _ => ⟨rfl, nilM _ _, trivial⟩) .nil (Z'' := [_, _]) rfl) rfl (.store (.t rfl) (.t rfl) (i := 0) rfl ty36 rfl rfl (Ss' := [_, _]) rfl (M' := [(some _, cellM [_, _])]) rfl (nl (.thn (k5 _ _ (.ret (rt1 (.inl rfl) Tryz.results71 rfl (.cell rfl (i := 0) rfl ty36 rfl ?_ .nil))))))))))))
  all_goals (exact isZ0.trans (isZ_eq (show (0 : Int) = one i k by unfold one; rw [if_neg (by omega)])))
theorem zmat_Identity {n : Nat} (hn : n ≤ 64) : Ctr Tryz.prog 38 [isI (n : Int)] (isTup [isMz n n (oneL n), isI 0]) := by
 refine Ctr.intro Tryz.func38 rfl (by kernel_rfl) Tryz.ntmps38 rfl fun w0 F0 => .cv (Cv.wk (.l [0] rfl)) (.fact (Has.rngI (Has.t (t := 0) rfl)) fun lt0 => .seq fun _ k1 => .region (.alloc [isI 0, isI 0, nilS] zero27 (fun _ _ => ⟨⟨rfl, by decide, by decide⟩, ⟨rfl, by decide, by decide⟩, rfl, trivial⟩) rfl fun b1 => st (.as (.cI 0 rfl)) rfl (nl (.thn (k1 _ _ (.seq fun _ k2 => .seq fun _ k3 => .region (st (.mv (.t rfl)) rfl (st (.eq (.call (zmat_side) (.cons (.t rfl) .nil)) ((show isB _ = isB true from isB_eq (by simp; omega)))) rfl ?_))))))))
 refine st (.not (.t rfl)) rfl (nl (.thn (k3 _ _ (.cond (.t rfl) (fun hc1 => ?_) (fun hc1 => ?_)))))
 ·have hc1 := BP.t hc1
  exfalso; simp at hc1
 ·have hc1 := BP.f hc1
  refine .skip (.thn (k2 _ _ (.seq fun _ k4 => .region (st (.mv (.t rfl)) rfl ?_))))
  refine st (.mv (.t rfl)) rfl (st (.call (zmat_made (f := fun i k => nz (one i k)) hn hn (fun i k _ _ => by rw [val_words]; exact Nat.le_trans (nw_01 i k) (by decide))) (.cons (.t rfl) (.cons (.t rfl) (.cons (Has.fn (fun p => zmat_Identity_1)) .nil)))) rfl ?_)
  refine .store (.t rfl) (.t rfl) (i := 0) rfl ty27 rfl rfl (Ss' := [_, _, _]) rfl (M' := [(some _, cellM [_, _, _])]) rfl (st (.as (.cI 0 rfl)) rfl (nl (.thn (k4 _ _ (.cv (Cv.wk (.l [2, 3] rfl)) (.ret (rtN (.inl rfl) Tryz.results38 rfl rfl (.cell rfl (i := 0) rfl ty27 rfl ?_ (.tmp (Has.t' rfl ?_) .nil)))))))))
  ·exact isMz_eq (by rw [zvz one]; rfl)
  ·rfl
theorem zmat_New_1 {i k : Nat} : Ctr Tryz.prog 62 [isI (i : Int), isI (k : Int)] (Flat (zc (nz 0))) := by
 refine Ctr.intro Tryz.func62 rfl (by kernel_rfl) Tryz.ntmps62 rfl fun w0 F0 => .cv (Cv.wk (.l [0, 1] rfl)) (.fact (Has.rngI (Has.t (t := 0) rfl)) fun lt0 => .fact (Has.rngI (Has.t (t := 1) rfl)) fun lt1 => .seq fun _ k1 => .region (.alloc [isB false, SlM isU []] zero36 (fun _ _ => ⟨rfl, nilM _ _, trivial⟩) rfl fun b1 => nl (.thn (k1 _ _ (.seq fun _ k2 => .region (st (.build [isB false, SlM isU []] pl36 zero36 (fun _ _ => ⟨rfl, nilM _ _, trivial⟩) .nil (Z'' := [_, _]) rfl) rfl (.store (.t rfl) (.t rfl) (i := 0) rfl ty36 rfl rfl (Ss' := [_, _]) rfl (M' := [(some _, cellM [_, _])]) rfl (nl (.thn (k2 _ _ (.ret (rt1 (.inl rfl) Tryz.results62 rfl (.cell rfl (i := 0) rfl ty36 rfl ?_ .nil)))))))))))))
 all_goals (exact isZ0)
theorem zmat_Add_1 {r0 r1 : Int} {C i k K : Nat} {xs ys : List (Bool × List Nat)} (hx : Bd (vals xs) K) (hy : Bd (vals ys) K) (hK : K ≤ 400000000) (hxm : xs.length ≤ 4096) (hp : i * C + k < xs.length) (hym : ys.length ≤ 4096) (hq : i * C + k < ys.length) : Ctr Tryz.prog 99 [isI (i : Int), isI (k : Int), ptM r0 (C : Int) xs, ptM r1 (C : Int) ys] (Flat (zc (nz (cf (vals xs) (i * C + k) + cf (vals ys) (i * C + k))))) := by
 refine Ctr.intro Tryz.func99 rfl (by kernel_rfl) Tryz.ntmps99 rfl fun w0 F0 => .cv (Cv.wk (.l [0, 1, 2, 3] rfl)) (.fact (Has.rngI (Has.t (t := 0) rfl)) fun lt0 => .fact (Has.rngI (Has.t (t := 1) rfl)) fun lt1 => ?_)
 have hxr := hx.raw (i * C + k)
 have hyr := hy.raw (i * C + k)
 refine .seq fun _ k1 => .region (.alloc [isB false, SlM isU []] zero36 (fun _ _ => ⟨rfl, nilM _ _, trivial⟩) rfl fun b1 => nl (.thn (k1 _ _ (.seq fun _ k2 => .dr (.s [] rfl rfl rfl (.o rfl (.loadP (.t rfl) ty27 rfl (Ss' := [_, _, _]) rfl)) (.s [] rfl rfl rfl (.o rfl (.mv (.t rfl))) (.s [] rfl rfl rfl (.o rfl (.mv (.t rfl))) (.s [7, 8, 9] rfl rfl rfl (.o rfl (.call (by first | exact zmat_get (i := i) (k := k) hxm hp | exact zmat_get (i := i) (k := k) hym hq) (.cons (.t rfl) (.cons (.t rfl) (.cons (.t rfl) .nil))))) (.s [] rfl rfl rfl (.o rfl (.loadP (.t rfl) ty27 rfl (Ss' := [_, _, _]) rfl)) (.s [] rfl rfl rfl (.o rfl (.mv (.t rfl))) (.s [] rfl rfl rfl (.o rfl (.mv (.t rfl))) (.fin (n := 7) mixed (by kernel_rfl) (by kernel_rfl) (by kernel_rfl) (.cv (Cv.wk (.l [6, 10, 11, 12, 13] rfl)) (st (.call (by first | exact zmat_get (i := i) (k := k) hxm hp | exact zmat_get (i := i) (k := k) hym hq) (.cons (.t rfl) (.cons (.t rfl) (.cons (.t rfl) .nil)))) rfl (st (.call (zint_Add (by omega) (by omega)) (.cons (.t rfl) (.cons (.t rfl) .nil))) rfl (.store (.t rfl) (.t rfl) (i := 0) rfl ty36 rfl rfl (Ss' := [_, _]) rfl (M' := [(some _, cellM [_, _])]) rfl (nl (.thn (k2 _ _ (.cv (Cv.wk (.l [6] rfl)) (.ret (rt1 (.inl rfl) Tryz.results99 rfl (.cell rfl (i := 0) rfl ty36 rfl ?_ .nil)))))))))))))))))))))))
 all_goals (exact isZ_eq (by rw [cf_vals, cf_vals]))
theorem zmat_Add {n K : Nat} {xs ys : List (Bool × List Nat)} (hx : Bd (vals xs) K) (hy : Bd (vals ys) K) (hK : K ≤ 400000000) (hn : n ≤ 64) (hl : xs.length = n * n) (hyl : ys.length = n * n) : Ctr Tryz.prog 66 [isM (n : Int) (n : Int) xs, isM (n : Int) (n : Int) ys] (isTup [isMz n n (sumL n (vals xs) (vals ys)), isI 0]) := by
 refine Ctr.intro Tryz.func66 rfl (by kernel_rfl) Tryz.ntmps66 rfl fun w0 F0 => .cv (Cv.wk (.l [0, 1] rfl)) ?_
 have hRC := side_le hn hn
 have hfa := formB_true hn hn hl
 have hfb := formB_true hn hn hyl
 refine .seq fun _ k1 => .region (.box (.t rfl) rfl fun b1 => .box (.t rfl) rfl fun b2 => .alloc [isI 0, isI 0, nilS] zero27 (fun _ _ => ⟨⟨rfl, by decide, by decide⟩, ⟨rfl, by decide, by decide⟩, rfl, trivial⟩) rfl fun b3 => st (.as (.cI 0 rfl)) rfl (nl (.thn (k1 _ _ (.seq fun _ k2 => .seq fun _ k3 => .region (st (.load (.t rfl) (i := 2) rfl ty27 rfl (Ss' := [_, _, _]) rfl) rfl (st (.load (.t rfl) (i := 1) rfl ty27 rfl (Ss' := [_, _, _]) rfl) rfl (st (.eq (.call (zmat_alike) (.cons (.t rfl) (.cons (.t rfl) .nil))) ((show isB _ = isB true from isB_eq (by rw [hfa, hfb]; simp)))) rfl ?_))))))))
 refine st (.not (.t rfl)) rfl (nl (.thn (k3 _ _ (.cv (Cv.wk (.l [2, 3, 4, 5, 9] rfl)) (.cond (.t rfl) (fun hc1 => ?_) (fun hc1 => ?_))))))
 ·have hc1 := BP.t hc1
  exfalso; simp at hc1
 ·have hc1 := BP.f hc1
  refine .skip (.thn (k2 _ _ (.seq fun _ k4 => .region (st (.fieldAddr (.t rfl) fld27_0 ty3) rfl (st (.load1 (.t rfl) (i := 2) rfl ty3 rfl) rfl (st (.fieldAddr (.t rfl) fld27_1 ty3) rfl (st (.load1 (.t rfl) (i := 2) rfl ty3 rfl) rfl (.cv (Cv.freezeBox (t := 2) (i := 2) rfl rfl rfl) (.memEq (M' := [_, _]) rfl (.cv (Cv.wk (.l [2, 3, 4, 5, 9, 12, 14] rfl)) (.cv (Cv.freezeBox (t := 3) (i := 1) rfl rfl rfl) (.memEq (M' := [_]) rfl (.cv (Cv.wk (.l [2, 3, 4, 5, 9, 12, 14] rfl)) (st (.makeFn (ι := PI n n) (As := fun p => [isI (p.1.1 : Int), isI (p.1.2 : Int)]) (R := fun p => Flat (zc (nz (cf (vals xs) (p.1.1 * n + p.1.2) + cf (vals ys) (p.1.1 * n + p.1.2))))) (fun p => zmat_Add_1 hx hy hK (by omega) (by have := place_lt p.2.1 p.2.2; omega) (by omega) (by have := place_lt p.2.1 p.2.2; omega)) .nil (.cons (.t rfl) (.cons (.t rfl) .nil))) rfl ?_))))))))))))))
  refine st (.call (zmat_made (f := fun i k => nz (cf (vals xs) (i * n + k) + cf (vals ys) (i * n + k))) hn hn (fun i k _ _ => by rw [val_words]; have h1 := nz_add (cf (vals xs) (i * n + k)) (cf (vals ys) (i * n + k)); have h2 := hx (i * n + k); have h3 := hy (i * n + k); omega)) (.cons (.t rfl) (.cons (.t rfl) (.cons (.t rfl) .nil)))) rfl ?_
  refine .store (.t rfl) (.t rfl) (i := 0) rfl ty27 rfl rfl (Ss' := [_, _, _]) rfl (M' := [(some _, cellM [_, _, _])]) rfl (st (.as (.cI 0 rfl)) rfl (nl (.thn (k4 _ _ (.cv (Cv.wk (.l [4, 5] rfl)) (.ret (rtN (.inl rfl) Tryz.results66 rfl rfl (.cell rfl (i := 0) rfl ty27 rfl ?_ (.tmp (Has.t' rfl ?_) .nil)))))))))
  ·exact isMz_eq (by rw [zvz fun i k => cf (vals xs) (i * n + k) + cf (vals ys) (i * n + k)]; rfl)
  ·rfl
theorem zM_nil {b : Nat} {x : Int} {M : Mem} (h : x = 0) : ((some b, cellM [isB false, SlM isU []]) :: M : Mem) = zM b x :: M := by
 subst h
 show _ = (some b, cellM [isB (decide ((0 : Int) < 0)), SlM isU (words (0 : Int).natAbs)]) :: M
 rw [Int.natAbs_zero, words_zero]; rfl
theorem zchar_square {r c : Int} {xs : List (Bool × List Nat)} : Ctr Tryz.prog 35 [isM r c xs] (isB (formB r c xs.length && decide (r = c))) := by
 refine Ctr.intro Tryz.func35 rfl (by kernel_rfl) Tryz.ntmps35 rfl fun w0 F0 => .cv (Cv.wk (.l [0] rfl)) (.seq fun _ k1 => .region (.box (.t rfl) rfl fun b1 => st (.as (.cB false)) rfl (nl (.thn (k1 _ _ (.seq fun _ k2 => .region (st (.load (.t rfl) (i := 0) rfl ty27 rfl (Ss' := [_, _, _]) rfl) rfl (st (.call (zmat_Formed) (.cons (.t rfl) .nil)) rfl (st (.mv (.t rfl)) rfl (stT rfl rfl (fun hg => .fieldAddr (.t rfl) fld27_0 ty3) rfl (stT rfl rfl (fun hg => .load1 (Has.g rfl hg) (i := 0) rfl ty3 rfl) rfl (stT rfl rfl (fun hg => .fieldAddr (.t rfl) fld27_1 ty3) rfl (stT rfl rfl (fun hg => .load1 (Has.g rfl hg) (i := 0) rfl ty3 rfl) rfl (stT rfl rfl (fun hg => .eqI (Has.g rfl hg) (Has.g rfl hg)) rfl (st (.pickAnd (.t rfl) (fun h => Has.g rfl h)) rfl (st (.as (.t rfl)) rfl (nl (.thn (k2 _ _ (.cv (Cv.wk (.l [2] rfl)) (.ret (rt1 (.inl rfl) Tryz.results35 rfl (.tmp (Has.t' rfl ?_) .nil)))))))))))))))))))))))
 all_goals (rfl)
theorem zchar_must {r c e : Int} {xs : List (Bool × List Nat)} : Ctr Tryz.prog 29 [isM r c xs, isI e] (isM r c xs) := by
 refine Ctr.intro Tryz.func29 rfl (by kernel_rfl) Tryz.ntmps29 rfl fun w0 F0 => .cv (Cv.wk (.l [0, 1] rfl)) (.fact (Has.rngI (Has.t (t := 1) rfl)) fun lt1 => .seq fun _ k1 => .region (.box (.t rfl) rfl fun b1 => .alloc [isI 0, isI 0, nilS] zero27 (fun _ _ => ⟨⟨rfl, by decide, by decide⟩, ⟨rfl, by decide, by decide⟩, rfl, trivial⟩) rfl fun b2 => nl (.thn (k1 _ _ (.seq fun _ k2 => .region (st (.load (.t rfl) (i := 1) rfl ty27 rfl (Ss' := [_, _, _]) rfl) rfl (.store (.t rfl) (.t rfl) (i := 0) rfl ty27 rfl rfl (Ss' := [_, _, _]) rfl (M' := [(some _, cellM [_, _, _]), _]) rfl (nl (.thn (k2 _ _ (.ret (rt1 (.inl rfl) Tryz.results29 rfl (.cell rfl (i := 0) rfl ty27 rfl ?_ .nil)))))))))))))
 all_goals (rfl)
theorem zchar_trace {n K : Nat} {xs : List (Bool × List Nat)} (hx : Bd (vals xs) K) (hK : K ≤ 400000000) (hn : n ≤ 64) (hl : xs.length = n * n) : Ctr Tryz.prog 65 [isM (n : Int) (n : Int) xs] (isZ (trcL n (vals xs) n)) := by
 refine Ctr.intro Tryz.func65 rfl (by kernel_rfl) Tryz.ntmps65 rfl fun w0 F0 => .cv (Cv.wk (.l [0] rfl)) ?_
 have hRC := side_le hn hn
 have htn : ∀ k, (List.length (words (trcL n (vals xs) k).natAbs)) ≤ K + k := fun k => sm_nw (fun i => hx _) k
 refine .seq fun _ k1 => .region (.box (.t rfl) rfl fun b1 => .alloc [isB false, SlM isU []] zero36 (fun _ _ => ⟨rfl, nilM _ _, trivial⟩) rfl fun b2 => nl (.thn (k1 _ _ (.seq fun _ k2 => .region (.alloc [isB false, SlM isU []] zero36 (fun _ _ => ⟨rfl, nilM _ _, trivial⟩) rfl fun b3 => nl (.thn (k2 _ _ (.seq fun _ k3 => .seq fun _ k4 => .region (st (.fieldAddr (.t rfl) fld27_0 ty3) rfl (st (.load1 (.t rfl) (i := 2) rfl ty3 rfl) rfl (st (.mv (.cI 0 rfl)) rfl (nl (.thn (k4 _ _ (.block (.loopF [1, 2, 3, 6] (fun (z : { k : Nat // k ≤ n }) => match z with | ⟨k, hk⟩ => [(7, isI (k : Int))]) (fun M => fun (z : { k : Nat // k ≤ n }) => match z with | ⟨k, hk⟩ => [zM b3 (trcL n (vals xs) k), (some b2, cellM [isB false, SlM isU []]), (some b1, cellM [isI (n : Int), isI (n : Int), SlK 2 zc xs])]) (fun (z : { k : Nat // k ≤ n }) => match z with | ⟨k, hk⟩ => n - k) (⟨0, Nat.zero_le _⟩) (Cv.mem (.c 7 rfl ?_ (.l [1, 2, 3, 6] rfl)) ?_) ?_))))))))))))))))
 ·rfl
 ·exact zM_nil rfl
 rintro ⟨k, hk⟩ K5 hK5
 refine .cv (Cv.wk (.l [7, 1, 2, 3, 6] rfl)) (.memEq (M' := [zM b3 (trcL n (vals xs) k), (some b2, cellM [isB false, SlM isU []]), (some b1, cellM [isI (n : Int), isI (n : Int), SlK 2 zc xs])]) rfl ?_)
 have htk := htn k
 refine .seq fun _ k6 => .region (st (.ltI (.t rfl) (.t rfl)) rfl (nl (.thn (k6 _ _ (.seq fun _ k7 => .cond (.t rfl) (fun hc1 => ?_) (fun hc1 => ?_))))))
 ·have hc1 := BP.t hc1
  have hpl := place_lt (show k < n by omega) (show k < n by omega)
  have hxk := hx (k * n + k)
  refine .skip (.thn (k7 _ _ (.seq fun _ k8 => .block (.seq fun _ k9 => .region (st (.mv (.t rfl)) rfl (st (.as (.t rfl)) rfl (nl (.thn (k9 _ _ (.dr (.s [] rfl rfl rfl (.o rfl (.load (.t rfl) (i := 0) rfl ty36 rfl (Ss' := [_, _]) rfl)) (.s [] rfl rfl rfl (.o rfl (.load (.t rfl) (i := 2) rfl ty27 rfl (Ss' := [_, _, _]) rfl)) (.s [] rfl rfl rfl (.o rfl (.mv (.t rfl))) (.s [] rfl rfl rfl (.o rfl (.mv (.t rfl))) (.s [11, 12, 13] rfl rfl rfl (.o rfl (.call (zmat_At (i := k) (k := k) hx (by omega) hn hn hl (by omega) (by omega)) (.cons (.t rfl) (.cons (.t rfl) (.cons (.t rfl) .nil))))) (.fin (n := 5) mixed (by kernel_rfl) (by kernel_rfl) (by kernel_rfl) (.cv (Cv.wk (.l [1, 2, 3, 6, 7, 8, 9, 4, 10, 11, 12, 13, 14] rfl)) (st (.eq (.call (zint_Add (by rw [val_words]; omega) (by rw [val_words]; omega)) (.cons (.t rfl) (.cons (.t rfl) .nil))) ((show isZ _ = isZ (trcL n (vals xs) (k + 1)) from isZ_eq (by simp only [zv_nf, zv_nz]; rfl)))) rfl ?_))))))))))))))))))
  refine .store (.t rfl) (.t rfl) (i := 0) rfl ty36 rfl rfl (Ss' := [_, _]) rfl (M' := [(some _, cellM [_, _]), _, _]) rfl (nl (.bln (.thn (k8 _ _ (.region (st (.addI (.t rfl) (.cI 1 rfl) (by first | omega | assumption) (by first | omega | assumption)) rfl (st (.mv (.t rfl)) rfl (nl (.thn (hK5 (⟨k + 1, by omega⟩) _ _ ?_ (Cv.mem (.c 7 rfl ?_ (.l [1, 2, 3, 6] rfl)) ?_)))))))))))
  ·show n - (k + 1) < n - k; omega
  ·exact isI_eq (by omega)
  ·rfl
 ·have hc1 := BP.f hc1
  skip
  refine .exit (.the (.the (.blh (.thn (k3 _ _ (.seq fun _ k10 => .region (st (.load (.t rfl) (i := 0) rfl ty36 rfl (Ss' := [_, _]) rfl) rfl (.store (.t rfl) (.t rfl) (i := 1) rfl ty36 rfl rfl (Ss' := [_, _]) rfl (M' := [_, (some _, cellM [_, _]), _]) rfl (nl (.thn (k10 _ _ (.cv (Cv.wk (.l [2] rfl)) (.ret (rt1 (.inl rfl) Tryz.results65 rfl (.cell rfl (i := 1) rfl ty36 rfl ?_ .nil)))))))))))))))
  all_goals (rw [show k = n by omega])
end Go.Proofs.YtcfobalbkhgdmaaGreat
namespace Go.En
open Go.RowKit Go.Nt Go.Pz
abbrev isQ (q : Rat) : VP := Flat [isB (decide (q.num < 0)), SlM isU (words q.num.natAbs), isB (decide ((q.den : Int) < 0)), SlM isU (words ((q.den : Int)).natAbs)]
theorem isQ_eq {p q : Rat} (h : p = q) : isQ p = isQ q := h ▸ rfl
def qs (q : Rat) : Nat := max ((List.length (words q.num.natAbs))) ((List.length (words q.den)))
theorem qs_num {q : Rat} {K : Nat} (h : qs q ≤ K) : (List.length (words q.num.natAbs)) ≤ K := Nat.le_trans (Nat.le_max_left _ _) h
theorem qs_den {q : Rat} {K : Nat} (h : qs q ≤ K) : (List.length (words q.den)) ≤ K := Nat.le_trans (Nat.le_max_right _ _) h
theorem qs_dn {q : Rat} {K : Nat} (h : qs q ≤ K) : (List.length (words ((q.den : Int)).natAbs)) ≤ K := by rw [Int.natAbs_natCast]; exact qs_den h
theorem qs_le {q : Rat} {K : Nat} (h1 : (List.length (words q.num.natAbs)) ≤ K) (h2 : (List.length (words q.den)) ≤ K) : qs q ≤ K := Nat.max_le.2 ⟨h1, h2⟩
theorem mk_num {N D : Int} (hD : 0 < D) {q : Rat} (hq : q = Rat.divInt N D) : (((Nat.gcd N.natAbs D.natAbs : Nat) : Int) ≠ 0 ∧ N.tmod ((Nat.gcd N.natAbs D.natAbs : Nat) : Int) = 0) ∧ N.tdiv ((Nat.gcd N.natAbs D.natAbs : Nat) : Int) = q.num ∧
  (((Nat.gcd N.natAbs D.natAbs : Nat) : Int) ≠ 0 ∧ D.tmod ((Nat.gcd N.natAbs D.natAbs : Nat) : Int) = 0) ∧ D.tdiv ((Nat.gcd N.natAbs D.natAbs : Nat) : Int) = (q.den : Int) := by
 have hg : 0 < Nat.gcd N.natAbs D.natAbs := Nat.gcd_pos_of_pos_right _ (by omega)
 have h1 : ((Nat.gcd N.natAbs D.natAbs : Nat) : Int) ∣ N := Int.ofNat_dvd_left.2 (Nat.gcd_dvd_left _ _)
 have h2 : ((Nat.gcd N.natAbs D.natAbs : Nat) : Int) ∣ D := Int.ofNat_dvd_left.2 (Nat.gcd_dvd_right _ _)
 have e : (Int.gcd D N) = Nat.gcd N.natAbs D.natAbs := by rw [Int.gcd_comm]; rfl
 refine ⟨⟨by omega, Int.tmod_eq_zero_of_dvd h1⟩, ?_, ⟨by omega, Int.tmod_eq_zero_of_dvd h2⟩, ?_⟩
 ·rw [hq, Rat.num_divInt, Int.sign_eq_one_of_pos hD, Int.one_mul, e, Int.tdiv_eq_ediv_of_dvd h1]
 ·rw [hq, Rat.den_divInt, if_neg (by omega), e, Int.tdiv_eq_ediv_of_dvd h2, Int.natCast_ediv, Int.natAbs_of_nonneg (by omega)]
theorem qs_divInt {N D : Int} {K : Nat} (hD : D ≠ 0) (h1 : (List.length (words N.natAbs)) ≤ K) (h2 : (List.length (words D.natAbs)) ≤ K) : qs (Rat.divInt N D) ≤ K := by
 refine qs_le ?_ ?_
 ·rw [Rat.num_divInt]
  refine Nat.le_trans (nw_mono ?_) h1
  have hg : 0 < Int.gcd D N := Int.gcd_pos_of_ne_zero_left _ hD
  rw [Int.natAbs_ediv_of_dvd (Int.dvd_trans (Int.gcd_dvd_right _ _) ⟨D.sign, Int.mul_comm _ _⟩), Int.natAbs_natCast, Int.natAbs_mul, Int.natAbs_sign_of_ne_zero hD, Nat.one_mul]
  exact Nat.div_le_self _ _
 ·rw [Rat.den_divInt, if_neg hD]
  exact Nat.le_trans (nw_mono (Nat.div_le_self _ _)) h2
theorem qs_int (x : Int) {K : Nat} (hK : 1 ≤ K) (h : (List.length (words x.natAbs)) ≤ K) : qs (x : Rat) ≤ K := qs_le (by show (List.length (words ((x : Rat).num).natAbs)) ≤ _; rw [Rat.num_intCast]; exact h) (by rw [Rat.den_intCast]; exact Nat.le_trans (nw_small' (by decide)) hK)
theorem den_ne (q : Rat) : ((q.den : Nat) : Int) ≠ 0 := by have := q.den_nz; omega
theorem den_pos (q : Rat) : 0 < ((q.den : Nat) : Int) := by have := q.den_nz; omega
theorem add_divInt (p q : Rat) : Rat.divInt (p.num * q.den + q.num * p.den) (p.den * q.den) = p + q := by
 rw [← Rat.divInt_add_divInt _ _ (den_ne p) (den_ne q), Rat.num_divInt_den, Rat.num_divInt_den]
theorem mul_divInt (p q : Rat) : Rat.divInt (p.num * q.num) (p.den * q.den) = p * q := by
 rw [← Rat.divInt_mul_divInt, Rat.num_divInt_den, Rat.num_divInt_den]
theorem quo_divInt (p q : Rat) : Rat.divInt (p.num * q.den) (p.den * q.num) = p / q := by
 rw [← Rat.divInt_mul_divInt, Rat.num_divInt_den, Rat.div_def, ← Rat.inv_divInt, Rat.num_divInt_den]
theorem qs_add {p q : Rat} {A B : Nat} (hp : qs p ≤ A) (hq : qs q ≤ B) : qs (p + q) ≤ A + B + 1 := by
 have h1 := nz_add (p.num * q.den) (q.num * p.den)
 have h2 := nz_mul p.num q.den
 have h3 := nz_mul q.num p.den
 have h4 := nz_mul p.den q.den
 have g1 := qs_num hp
 have g2 := qs_dn hp
 have g3 := qs_num hq
 have g4 := qs_dn hq
 rw [← add_divInt]
 exact qs_divInt (Int.mul_ne_zero (den_ne p) (den_ne q)) (by omega) (by omega)
theorem qs_mul {p q : Rat} {A B : Nat} (hp : qs p ≤ A) (hq : qs q ≤ B) : qs (p * q) ≤ A + B := by
 have h2 := nz_mul p.num q.num
 have h4 := nz_mul p.den q.den
 have g1 := qs_num hp
 have g2 := qs_dn hp
 have g3 := qs_num hq
 have g4 := qs_dn hq
 rw [← mul_divInt]
 exact qs_divInt (Int.mul_ne_zero (den_ne p) (den_ne q)) (by omega) (by omega)
theorem qs_neg {p : Rat} {A : Nat} (hp : qs p ≤ A) : qs (-p) ≤ A := qs_le (by rw [Rat.neg_num, Int.natAbs_neg]; exact qs_num hp) (by rw [Rat.neg_den]; exact qs_den hp)
theorem qs_sub {p q : Rat} {A B : Nat} (hp : qs p ≤ A) (hq : qs q ≤ B) : qs (p - q) ≤ A + B + 1 := by rw [Rat.sub_eq_add_neg]; exact qs_add hp (qs_neg hq)
theorem num_ne {q : Rat} (h : q ≠ 0) : q.num ≠ 0 := fun e => h (Rat.num_eq_zero.1 e)
theorem qs_quo {p q : Rat} {A B : Nat} (hp : qs p ≤ A) (hq : qs q ≤ B) : qs (p / q) ≤ A + B := by
 by_cases h0 : q = 0
 ·subst h0
  rw [show p / (0 : Rat) = 0 by rw [Rat.div_def]; show p * (0 : Rat)⁻¹ = 0; rw [show (0 : Rat)⁻¹ = 0 by (rw [Rat.inv_def]; exact Rat.divInt_zero _), Rat.mul_zero]]
  refine qs_le (by rw [Rat.zero_num, Int.natAbs_zero, words_zero]; exact Nat.zero_le _) ?_
  have := qs_den hp
  have hd : 1 ≤ (List.length (words p.den)) := by rw [nw_pos p.den_nz]; omega
  rw [Rat.zero_den]
  exact Nat.le_trans (nw_small' (by decide)) (by omega)
 ·have h2 := nz_mul p.num q.den
  have h4 := nz_mul p.den q.num
  have g1 := qs_num hp
  have g2 := qs_dn hp
  have g3 := qs_num hq
  have g4 := qs_dn hq
  rw [← quo_divInt]
  exact qs_divInt (Int.mul_ne_zero (den_ne p) (num_ne h0)) (by omega) (by omega)
/-! ### signs, order -/
end Go.En
namespace Go.En
open Go.RowKit Go.Nt Go.Pz Go.Mz
section
variable {E : Env} {P : Program} {Γ : Ctx} {M M' : Mem}
theorem fin_retXD {fn : Func} {R : VP → Mem → Prop} {S : VP} {W : List Nat} {e : Exit} {a : Act} {w : World} {F : Blk} (hs : M'.Sublist M) (he : e = .ret ∨ e = .normal) (s : Sat E Γ M a w F) (hw : E.W = W) {v : Value} (hv : (results fn a.tmps).run P w = .ok v w) (hS : S.h w F v) (hR : R S M') :
  bodyPost P fn (RetX E.w0 E.F0 W R) e a w := fin_retX he (s.sub hs) hw hv hS hR
theorem rtX1D {fn : Func} {r : ResultVar} {R : VP → Mem → Prop} {S : VP} {W : List Nat} {e : Exit} (hs : M'.Sublist M) (he : e = .ret ∨ e = .normal) (hr : fn.results = #[r]) (hw : E.W = W) (h : ResL E P Γ M [r] [S]) (hR : R S M') : At E Γ M (bodyPost P fn (RetX E.w0 E.F0 W R)) e := by
 intro a w F s
 obtain ⟨vs, h1, h2⟩ := run_results hr h s
 match vs, h2 with
 | [v], h2 => exact fin_retXD hs he s hw (by simpa using h1) h2.1 hR
 | [], h2 => exact h2.elim
 | _ :: _ :: _, h2 => exact h2.2.elim
end
section
variable {E : Env} {P : Program} {Γ : Ctx} {M : Mem} {ty : TypeId} {pos : String} {after : Array Edge} {gd : Option (Nat × Bool)} {d : Option Tmp}
 {ops : Array Oper} {Q : Exit → Act → World → Prop} {rest : List Oper} {T T' : TypeId} {x y : Operand} {α : Type} {fk : α → List VP} {xs : List α} {k : Nat}
theorem DrB.cv {Γ' : Ctx} {l : List Oper} {bs : List Nat} (c : Cv E Γ M Γ' M) (h : DrB E P l Γ' M Q bs) : DrB E P l Γ M Q bs := fun a w F s => by
 obtain ⟨F', s'⟩ := c a w F s
 exact h a w F' s'
end
theorem isPl_eq {L L' : List Int} (h : L = L') : isP L = isP L' := h ▸ rfl
end Go.En
namespace Go.En
open Go.RowKit Go.Nt Go.Pz
abbrev rc (p : (Bool × List Nat) × Bool × List Nat) : List VP := [isB p.1.1, isWords p.1.2, isB p.2.1, isWords p.2.2]
theorem rc_len : ∀ p, (rc p).length = 4 := fun _ => rfl
abbrev nq (q : Rat) : (Bool × List Nat) × Bool × List Nat := (nz q.num, nz (q.den : Int))
abbrev isQs (L : List Rat) : VP := SlK 4 rc (L.map nq)
theorem isQs_eq {L L' : List Rat} (h : L = L') : isQs L = isQs L' := h ▸ rfl
def qf (L : List Rat) (i : Nat) : Rat := L.getD i 0
theorem qf_at {L : List Rat} {i : Nat} (h : i < L.length) : L[i]? = some (qf L i) := by unfold qf; rw [List.getD, List.getElem?_eq_getElem h]; rfl
theorem qf_out {L : List Rat} {i : Nat} (h : L.length ≤ i) : qf L i = 0 := by unfold qf; rw [List.getD, List.getElem?_eq_none h]; rfl
theorem getQ {L : List Rat} {i : Nat} (h : i < L.length) : (L.map nq)[i]? = some (nq (qf L i)) := by rw [List.getElem?_map, qf_at h]; rfl
theorem qf_map {f : Nat → Rat} {n i : Nat} (h : i < n) : qf ((List.range n).map f) i = f i := by unfold qf; rw [List.getD, List.getElem?_map, List.getElem?_range h]; rfl
def QB (L : List Rat) (K : Nat) : Prop := ∀ i, qs (qf L i) ≤ K
theorem qs_zero : qs 0 ≤ 1 := qs_le (by rw [Rat.zero_num]; exact nw_small' (by decide)) (by rw [Rat.zero_den]; exact nw_small' (by decide))
theorem QB.of {L : List Rat} {K : Nat} (hK : 1 ≤ K) (h : ∀ i, i < L.length → qs (qf L i) ≤ K) : QB L K := fun i => by
 rcases Nat.lt_or_ge i L.length with h1 | h1
 ·exact h i h1
 ·rw [qf_out h1]; exact Nat.le_trans qs_zero hK
theorem QB.mono {L : List Rat} {K K' : Nat} (h : QB L K) (hk : K ≤ K') : QB L K' := fun i => Nat.le_trans (h i) hk
theorem QB.raw {L : List Rat} {K : Nat} (h : QB L K) (i : Nat) : (List.length (words (val ((L.map nq).getD i ((false, []), (false, []))).1.2))) ≤ max K 1 := by
 rcases Nat.lt_or_ge i L.length with h1 | h1
 ·rw [List.getD_eq_getElem?_getD, getQ h1]
  show (List.length (words (val (words (qf L i).num.natAbs)))) ≤ _
  rw [val_words]; exact Nat.le_trans (qs_num (h i)) (Nat.le_max_left _ _)
 ·rw [List.getD_eq_getElem?_getD, List.getElem?_eq_none (by rw [List.length_map]; exact h1)]
  show (List.length (words (val []))) ≤ _
  rw [show val [] = 0 from rfl, words_zero]; exact Nat.zero_le _
def dotQ (f g : Nat → Rat) : Nat → Rat
 | 0 => 0
 | n + 1 => dotQ f g n + f n * g n
def lsQ (X Y : List Rat) (c : Rat) : List Rat := (List.range X.length).map fun i => qf X i - c * qf Y i
theorem lsQ_len (X Y : List Rat) (c : Rat) : (lsQ X Y c).length = X.length := by unfold lsQ; rw [List.length_map, List.length_range]
theorem lsQ_at {X Y : List Rat} {c : Rat} {i : Nat} (h : i < X.length) : qf (lsQ X Y c) i = qf X i - c * qf Y i := qf_map h
theorem lsQ_qb {X Y : List Rat} {c : Rat} {A B D : Nat} (hx : QB X A) (hy : QB Y B) (hc : qs c ≤ D) : QB (lsQ X Y c) (A + D + B + 1) := QB.of (by omega) fun i hi => by
 rw [lsQ_len] at hi
 rw [lsQ_at hi]
 have := qs_sub (hx i) (qs_mul hc (hy i))
 omega
theorem set_nq {L : List Rat} {n : Nat} {q : Rat} : (L.map nq).set n (nq q) = (L.set n q).map nq := by rw [List.map_set]
section
variable {E : Env} {P : Program} {Γ : Ctx} {M : Mem} {ty : TypeId} {pos : String} {after : Array Edge} {gd : Option (Nat × Bool)} {d : Option Tmp}
 {ops : Array Oper} {Q : Exit → Act → World → Prop} {rest : List Oper} {T T' : TypeId} {x y : Operand} {α : Type} {fk : α → List VP} {xs : List α} {k : Nat}
end
end Go.En
namespace Go.Mu
open Go.Mz
def ixn {α : Type} (q : α → Bool) : List α → Nat
 | [] => 0
 | x :: l => if q x = true then 0 else ixn q l + 1
def ixf {α : Type} (q : α → Bool) (xs : List α) : Int := if ixn q xs < xs.length then (ixn q xs : Int) else -1
theorem ixn_at {α : Type} {q : α → Bool} {d : α} : ∀ {xs : List α} {i : Nat}, i ≤ xs.length → (∀ j, j < i → q (xs.getD j d) = false) → (i = xs.length ∨ q (xs.getD i d) = true) → ixn q xs = i
  | [], i, h, _, _ => by simp at h; exact h.symm
  | x :: l, 0, _, _, h => by
    rcases h with h | h
    · cases h
    · show (if q x = true then 0 else _) = 0
      exact if_pos h
  | x :: l, i + 1, h1, h2, h3 => by
    have h4 : q x = false := h2 0 (by omega)
    show (if q x = true then 0 else _) = _
    rw [h4, if_neg (by decide)]
    refine congrArg (· + 1) (ixn_at (d := d) (by simpa using h1) (fun j hj => h2 (j + 1) (by omega)) ?_)
    rcases h3 with h3 | h3
    · left; simpa using h3
    · right; exact h3
theorem ixn_le {α : Type} (q : α → Bool) : ∀ xs : List α, ixn q xs ≤ xs.length
  | [] => Nat.le_refl _
  | x :: l => by
    have := ixn_le q l
    show (if q x = true then 0 else ixn q l + 1) ≤ l.length + 1
    split <;> omega
theorem ixn_before {α : Type} {q : α → Bool} {d : α} : ∀ {xs : List α} {j : Nat}, j < ixn q xs → q (xs.getD j d) = false
  | [], j, h => by simp [ixn] at h
  | x :: l, j, h => by
    unfold ixn at h
    cases hx : q x with
    | true => rw [if_pos hx] at h; omega
    | false =>
      rw [hx, if_neg (by decide)] at h
      cases j with
      | zero => exact hx
      | succ j => exact ixn_before (xs := l) (by omega)
theorem ixn_yes {α : Type} {q : α → Bool} {d : α} : ∀ {xs : List α}, ixn q xs < xs.length → q (xs.getD (ixn q xs) d) = true
  | [], h => by simp at h
  | x :: l, h => by
    unfold ixn at h ⊢
    cases hx : q x with
    | true => rw [if_pos rfl]; exact hx
    | false =>
      rw [hx, if_neg (by decide)] at h
      rw [if_neg (by decide)]
      exact ixn_yes (xs := l) (by simpa using h)
theorem ixf_at {α : Type} {q : α → Bool} {d : α} {xs : List α} {i : Nat} (h : i < xs.length) (h2 : ∀ j, j < i → q (xs.getD j d) = false) (h3 : q (xs.getD i d) = true) : (i : Int) = ixf q xs := by
 have := ixn_at (d := d) (Nat.le_of_lt h) h2 (.inr h3)
 unfold ixf; rw [this, if_pos h]
theorem ixf_none {α : Type} {q : α → Bool} {d : α} {xs : List α} {i : Nat} (h : i = xs.length) (h2 : ∀ j, j < i → q (xs.getD j d) = false) : -1 = ixf q xs := by
 have := ixn_at (d := d) (Nat.le_of_eq h) h2 (.inl h)
 unfold ixf; rw [this, if_neg (by omega)]
end Go.Mu
namespace Go.En
open Go.Mz Go.Mu
end Go.En
namespace Go.Qe
open Go.En Go.Mu
def mxQ (new old : List Rat) (k : Nat) : List Rat := new.take k ++ old.drop k
theorem mxQ_len {new old : List Rat} (h : new.length = old.length) {k : Nat} (hk : k ≤ old.length) : (mxQ new old k).length = old.length := by
 unfold mxQ; rw [List.length_append, List.length_take, List.length_drop]; omega
theorem mxQ_zero (new old : List Rat) : mxQ new old 0 = old := by unfold mxQ; rw [List.take_zero, List.drop_zero]; rfl
theorem mxQ_all {new old : List Rat} (h : new.length = old.length) : mxQ new old old.length = new := by
 unfold mxQ; rw [List.take_of_length_le (by omega), List.drop_length, List.append_nil]
theorem mxQ_at {new old : List Rat} (h : new.length = old.length) {k : Nat} (hk : k < old.length) : ((mxQ new old k).map nq)[k]? = some (nq (qf old k)) := by
 unfold mxQ
 rw [List.getElem?_map, List.getElem?_append_right (by rw [List.length_take]; omega), List.length_take, Nat.min_eq_left (by omega), Nat.sub_self, List.getElem?_drop, Nat.add_zero, qf_at hk]; rfl
theorem mxQ_set {new old : List Rat} (h : new.length = old.length) {k : Nat} (hk : k < old.length) : (mxQ new old k).set k (qf new k) = mxQ new old (k + 1) := by
 unfold mxQ
 rw [List.set_append_right _ _ (by rw [List.length_take]; omega), List.length_take, Nat.min_eq_left (by omega), Nat.sub_self, List.take_add_one, qf_at (by omega), List.append_assoc, List.drop_eq_getElem_cons hk]
 rfl
def scQ (X : List Rat) (c : Rat) : List Rat := (List.range X.length).map fun i => qf X i * c
theorem scQ_len (X : List Rat) (c : Rat) : (scQ X c).length = X.length := by unfold scQ; rw [List.length_map, List.length_range]
theorem scQ_at {X : List Rat} {c : Rat} {i : Nat} (h : i < X.length) : qf (scQ X c) i = qf X i * c := qf_map h
theorem scQ_qb {X : List Rat} {c : Rat} {A D : Nat} (hx : QB X A) (hc : qs c ≤ D) : QB (scQ X c) (A + D + 1) := QB.of (by omega) fun i hi => by
 rw [scQ_len] at hi
 rw [scQ_at hi]
 exact Nat.le_trans (qs_mul (hx i) hc) (Nat.le_succ _)
theorem scQ_val (X : List Rat) (c : Rat) (i : Nat) : qf (scQ X c) i = qf X i * c := by
 rcases Nat.lt_or_ge i X.length with h | h
 ·exact scQ_at h
 ·rw [qf_out (by rw [scQ_len]; exact h), qf_out h, Rat.zero_mul]
theorem lsQ_val {X Y : List Rat} (h : Y.length = X.length) (c : Rat) (i : Nat) : qf (lsQ X Y c) i = qf X i - c * qf Y i := by
 rcases Nat.lt_or_ge i X.length with h1 | h1
 ·exact lsQ_at h1
 ·rw [qf_out (by rw [lsQ_len]; exact h1), qf_out h1, qf_out (by omega), Rat.mul_zero, Rat.sub_self]
structure QS where
 rows : List (List Rat)
 ps : List Nat
abbrev nzQ (c : Nat) : List Rat → Bool := fun r => decide (qf r c ≠ 0)
def swQ (l : List (List Rat)) (t i : Nat) : List (List Rat) := (l.set t (l.getD (t + i) [])).set (t + i) (l.getD t [])
def qcol (s : QS) (c : Nat) : QS :=
 if ixn (nzQ c) (s.rows.drop s.ps.length) < (s.rows.drop s.ps.length).length then
  let sw := swQ s.rows s.ps.length (ixn (nzQ c) (s.rows.drop s.ps.length))
  let b := sw.getD s.ps.length []
  let b' := scQ b (1 / qf b c)
  ⟨(List.range sw.length).map (fun r => if r = s.ps.length then b' else lsQ (sw.getD r []) b' (qf (sw.getD r []) c)), s.ps ++ [c]⟩
 else s
def qred (s : QS) : Nat → QS
 | 0 => s
 | c + 1 => qcol (qred s c) c
theorem qred_full {s : QS} {c : Nat} (h : (qred s c).rows.length ≤ (qred s c).ps.length) : ∀ d, qred s (c + d) = qred s c
  | 0 => rfl
  | d + 1 => by
    show qcol (qred s (c + d)) (c + d) = _
    rw [qred_full h d]
    unfold qcol
    rw [if_neg (by rw [List.length_drop]; omega)]
theorem qred_stop {C c : Nat} {s : QS} (hc : c ≤ C) (h : C ≤ c ∨ (qred s c).rows.length ≤ (qred s c).ps.length) : qred s C = qred s c := by
 rcases h with h | h
 ·obtain rfl : C = c := Nat.le_antisymm h hc
  rfl
 ·have := qred_full h (C - c)
  rwa [show c + (C - c) = C by omega] at this
def rowsQ (R C D : Nat) (xs ys : List Rat) : List (List Rat) := (List.range R).map fun i => ((List.range C).map fun k => qf xs (i * C + k)) ++ (List.range D).map fun k => qf ys (i * D + k)
theorem rowsQ_len (R C D : Nat) (xs ys : List Rat) : (rowsQ R C D xs ys).length = R := by unfold rowsQ; rw [List.length_map, List.length_range]
theorem rowsQ_row {R C D : Nat} {xs ys : List Rat} {r : List Rat} (h : r ∈ rowsQ R C D xs ys) : r.length = C + D := by
 unfold rowsQ at h
 obtain ⟨i, _, rfl⟩ := List.mem_map.1 h
 rw [List.length_append, List.length_map, List.length_map, List.length_range, List.length_range]
theorem rowsQ_succ (R C D : Nat) (xs ys : List Rat) : rowsQ (R + 1) C D xs ys = rowsQ R C D xs ys ++ [((List.range C).map fun k => qf xs (R * C + k)) ++ (List.range D).map fun k => qf ys (R * D + k)] := by unfold rowsQ; rw [List.range_succ, List.map_append]; rfl
theorem rowsQ_qb {R C D K : Nat} {xs ys : List Rat} (hx : QB xs K) (hy : QB ys K) (hK : 1 ≤ K) {r : List Rat} (h : r ∈ rowsQ R C D xs ys) : QB r K := by
 unfold rowsQ at h
 obtain ⟨i, _, rfl⟩ := List.mem_map.1 h
 refine QB.of hK fun k hk => ?_
 unfold qf
 rw [List.getD_eq_getElem?_getD, List.getElem?_append, List.length_map, List.length_range]
 split
 ·rw [List.getElem?_map, List.getElem?_range (by assumption)]; exact hx _
 ·rename_i h1
  rw [List.length_append, List.length_map, List.length_map, List.length_range, List.length_range] at hk
  rw [List.getElem?_map, List.getElem?_range (by omega)]; exact hy _
def redQ (R C D : Nat) (xs ys : List Rat) : QS := qred ⟨rowsQ R C D xs ys, []⟩ C
def enq (s : QS) (i k : Nat) : Rat := qf (s.rows.getD i []) k
def pwQ (ps : List Nat) : List Int := ps.map fun (n : Nat) => (n : Int)
def idxQ (ps : List Nat) (i : Nat) : Nat := ixn (fun x => decide ((i : Int) = x)) (pwQ ps)
def solQ (s : QS) (C i k : Nat) : Rat := if idxQ s.ps i < s.ps.length then enq s (idxQ s.ps i) (C + k) else 0
abbrev nzr : Rat → Bool := fun x => decide (x ≠ 0)
def badQ (s : QS) (C : Nat) : Prop := ∃ r ∈ s.rows.drop s.ps.length, ixn nzr (r.drop C) < (r.drop C).length
/-! ### shape -/
theorem swQ_len (l : List (List Rat)) (t i : Nat) : (swQ l t i).length = l.length := by unfold swQ; rw [List.length_set, List.length_set]
theorem getD_at {α : Type} {l : List α} {i : Nat} {d : α} (h : i < l.length) : l[i]? = some (l.getD i d) := by rw [List.getD, List.getElem?_eq_getElem h]; rfl
theorem swQ_at {l : List (List Rat)} {t i : Nat} (h : t + i < l.length) {u : Nat} (hu : u < l.length) : (swQ l t i).getD u [] = l.getD (if u = t + i then t else if u = t then t + i else u) [] := by
 unfold swQ
 rw [List.getD_eq_getElem?_getD]
 by_cases e : u = t + i
 ·subst e
  rw [List.getElem?_set_self (by rw [List.length_set]; exact h), if_pos rfl]; rfl
 ·rw [List.getElem?_set_ne (fun h => e h.symm), if_neg e]
  by_cases e2 : u = t
  ·subst e2
   rw [List.getElem?_set_self hu, if_pos rfl]; rfl
  ·rw [List.getElem?_set_ne (fun h => e2 h.symm), if_neg e2, List.getD_eq_getElem?_getD]
theorem getD_mem {l : List (List Rat)} {i : Nat} (h : i < l.length) : l.getD i [] ∈ l := by rw [List.getD, List.getElem?_eq_getElem h]; exact List.getElem_mem _
theorem swQ_mem {l : List (List Rat)} {t i : Nat} (h : t + i < l.length) {u : Nat} (hu : u < l.length) : (swQ l t i).getD u [] ∈ l := by
 rw [swQ_at h hu]
 refine getD_mem ?_
 split
 ·omega
 ·split <;> omega
structure QI (s : QS) (c W R : Nat) : Prop where
 len : s.rows.length = R
 row : ∀ r ∈ s.rows, r.length = W
 ps : s.ps.length ≤ R
 lt : ∀ t, t < s.ps.length → s.ps.getD t 0 < c
 piv : ∀ t u, t < s.ps.length → u < R → enq s u (s.ps.getD t 0) = if u = t then 1 else 0
 zer : ∀ u k, s.ps.length ≤ u → u < R → k < c → enq s u k = 0
theorem QI.start {rows : List (List Rat)} {W R : Nat} (h1 : rows.length = R) (h2 : ∀ r ∈ rows, r.length = W) : QI ⟨rows, []⟩ 0 W R :=
 ⟨h1, h2, Nat.zero_le _, fun t h => absurd h (Nat.not_lt_zero _), fun t u h => absurd h (Nat.not_lt_zero _), fun u k _ _ h => absurd h (Nat.not_lt_zero _)⟩
theorem qcol_yes {s : QS} {c W R : Nat} (h : QI s c W R) (hi : ixn (nzQ c) (s.rows.drop s.ps.length) < (s.rows.drop s.ps.length).length) :
    ∃ (i : Nat) (b : List Rat) (sw : List (List Rat)), s.ps.length + i < R ∧ sw = swQ s.rows s.ps.length i ∧ sw.length = R ∧ b = s.rows.getD (s.ps.length + i) [] ∧ qf b c ≠ 0 ∧ b.length = W ∧ sw.getD s.ps.length [] = b ∧
      (qcol s c).ps = s.ps ++ [c] ∧ (qcol s c).rows.length = R ∧ (∀ u, u < R → (qcol s c).rows.getD u [] = if u = s.ps.length then scQ b (1 / qf b c) else lsQ (sw.getD u []) (scQ b (1 / qf b c)) (qf (sw.getD u []) c)) ∧ (∀ u, u < R → (sw.getD u []).length = W) := by
  obtain ⟨i, hi0⟩ : ∃ i, i = ixn (nzQ c) (s.rows.drop s.ps.length) := ⟨_, rfl⟩
  have hin : s.ps.length + i < R := by rw [List.length_drop, ← hi0, h.len] at hi; omega
  have hsl : (swQ s.rows s.ps.length i).length = R := by rw [swQ_len, h.len]
  have hsb : (swQ s.rows s.ps.length i).getD s.ps.length [] = s.rows.getD (s.ps.length + i) [] := by
    rw [swQ_at (by rw [h.len]; exact hin) (by rw [h.len]; omega)]
    split
    · rename_i e; rw [← e]
    · rw [if_pos rfl]
  have hbW : (s.rows.getD (s.ps.length + i) []).length = W := h.row _ (getD_mem (by rw [h.len]; exact hin))
  have hnz : qf (s.rows.getD (s.ps.length + i) []) c ≠ 0 := by
    have := ixn_yes (q := nzQ c) (d := []) hi
    rw [← hi0, List.getD_eq_getElem?_getD, List.getElem?_drop, ← List.getD_eq_getElem?_getD] at this
    simpa using this
  have hq : qcol s c = ⟨(List.range (swQ s.rows s.ps.length i).length).map (fun r => if r = s.ps.length then scQ (s.rows.getD (s.ps.length + i) []) (1 / qf (s.rows.getD (s.ps.length + i) []) c) else lsQ ((swQ s.rows s.ps.length i).getD r []) (scQ (s.rows.getD (s.ps.length + i) []) (1 / qf (s.rows.getD (s.ps.length + i) []) c)) (qf ((swQ s.rows s.ps.length i).getD r []) c)), s.ps ++ [c]⟩ := by
    unfold qcol
    rw [if_pos hi, ← hi0]
    simp only [hsb]
  refine ⟨i, _, _, hin, rfl, hsl, rfl, hnz, hbW, hsb, by rw [hq], by rw [hq, List.length_map, List.length_range, hsl], fun u hu => ?_, fun u hu => h.row _ (swQ_mem (by rw [h.len]; exact hin) (by rw [h.len]; exact hu))⟩
  rw [hq]
  show List.getD (List.map _ _) u [] = _
  rw [List.getD_eq_getElem?_getD, List.getElem?_map, List.getElem?_range (by rw [hsl]; exact hu)]; rfl
theorem qcol_no {s : QS} {c : Nat} (h : ¬ ixn (nzQ c) (s.rows.drop s.ps.length) < (s.rows.drop s.ps.length).length) : qcol s c = s := by
 unfold qcol; rw [if_neg h]
end Go.Qe
namespace Go.Qe
open Go.En Go.Mu
theorem rat_inv {x : Rat} (h : x ≠ 0) : x * (1 / x) = 1 := by
 rw [Rat.div_def, Rat.one_mul]; exact Rat.mul_inv_cancel x h
theorem dotQ_congr {f f' g g' : Nat → Rat} : ∀ {n : Nat}, (∀ i, i < n → f i = f' i) → (∀ i, i < n → g i = g' i) → dotQ f g n = dotQ f' g' n
  | 0, _, _ => rfl
  | n + 1, h, k => by
    show dotQ f g n + f n * g n = dotQ f' g' n + f' n * g' n
    rw [dotQ_congr (fun i hi => h i (by omega)) (fun i hi => k i (by omega)), h n (by omega), k n (by omega)]
theorem dotQ_scale (f g : Nat → Rat) (c : Rat) : ∀ n, dotQ (fun i => f i * c) g n = dotQ f g n * c
  | 0 => by show (0 : Rat) = 0 * c; rw [Rat.zero_mul]
  | n + 1 => by
    show dotQ (fun i => f i * c) g n + f n * c * g n = (dotQ f g n + f n * g n) * c
    rw [dotQ_scale f g c n]; grind
theorem dotQ_less (f h g : Nat → Rat) (c : Rat) : ∀ n, dotQ (fun i => f i - c * h i) g n = dotQ f g n - c * dotQ h g n
  | 0 => by show (0 : Rat) = 0 - c * 0; rw [Rat.mul_zero, Rat.sub_self]
  | n + 1 => by
    show dotQ (fun i => f i - c * h i) g n + (f n - c * h n) * g n = dotQ f g n + f n * g n - c * (dotQ h g n + h n * g n)
    rw [dotQ_less f h g c n]; grind
theorem dotQ_zero {f g : Nat → Rat} : ∀ {n : Nat}, (∀ i, i < n → f i * g i = 0) → dotQ f g n = 0
  | 0, _ => rfl
  | n + 1, h => by
    show dotQ f g n + f n * g n = 0
    rw [dotQ_zero (fun i hi => h i (by omega)), h n (by omega), Rat.add_zero]
theorem dotQ_one {f g : Nat → Rat} {k : Nat} : ∀ {n : Nat}, k < n → (∀ i, i < n → i ≠ k → f i * g i = 0) → dotQ f g n = f k * g k
  | 0, h, _ => absurd h (Nat.not_lt_zero _)
  | n + 1, h, h2 => by
    show dotQ f g n + f n * g n = f k * g k
    by_cases e : k = n
    · subst e
      rw [dotQ_zero (fun i hi => h2 i (by omega) (by omega)), Rat.zero_add]
    · rw [dotQ_one (k := k) (by omega) (fun i hi hne => h2 i (by omega) hne), h2 n (by omega) (fun e2 => e e2.symm), Rat.add_zero]
theorem dotQ_app {f g : Nat → Rat} (n : Nat) : ∀ m, dotQ f g (n + m) = dotQ f g n + dotQ (fun i => f (n + i)) (fun i => g (n + i)) m
  | 0 => by show dotQ f g n = dotQ f g n + 0; rw [Rat.add_zero]
  | m + 1 => by
    show dotQ f g (n + m) + f (n + m) * g (n + m) = dotQ f g n + (dotQ (fun i => f (n + i)) (fun i => g (n + i)) m + f (n + m) * g (n + m))
    rw [dotQ_app n m, Rat.add_assoc]
theorem QI.step {s : QS} {c W R : Nat} (h : QI s c W R) (hc : c < W) : QI (qcol s c) (c + 1) W R := by
 by_cases hi : ixn (nzQ c) (s.rows.drop s.ps.length) < (s.rows.drop s.ps.length).length
 ·obtain ⟨i, b, sw, hin, hsw, hsl, hb, hnz, hbW, hsb, hps, hrl, hrow, hswW⟩ := qcol_yes h hi
  have hbb : ∀ u, u < R → (qcol s c).rows.getD u [] = if u = s.ps.length then scQ b (1 / qf b c) else lsQ (sw.getD u []) (scQ b (1 / qf b c)) (qf (sw.getD u []) c) := hrow
  have hval : ∀ u k, u < R → enq (qcol s c) u k = if u = s.ps.length then qf b k * (1 / qf b c) else qf (sw.getD u []) k - qf (sw.getD u []) c * (qf b k * (1 / qf b c)) := fun u k hu => by
   unfold enq
   rw [hbb u hu]
   split
   ·exact scQ_val _ _ _
   ·rw [lsQ_val (by rw [scQ_len, hbW, hswW u hu]), scQ_val]
  have hswat : ∀ u, u < R → sw.getD u [] = s.rows.getD (if u = s.ps.length + i then s.ps.length else if u = s.ps.length then s.ps.length + i else u) [] := fun u hu => by
   rw [hsw]; exact swQ_at (by rw [h.len]; exact hin) (by rw [h.len]; exact hu)
  -- rows from the first without a pivot on have noughts ahead of the column
  have hz : ∀ u k, s.ps.length ≤ u → u < R → k < c → qf (sw.getD u []) k = 0 := fun u k h1 h2 h3 => by
   rw [hswat u h2]
   exact h.zer _ _ (by split; omega; split <;> omega) (by split; omega; split <;> omega) h3
  have hbz : ∀ k, k < c → qf b k = 0 := fun k hk => by rw [hb]; exact h.zer _ _ (by omega) hin hk
  have h1c := rat_inv hnz
  refine ⟨hrl, fun r hr => ?_, by rw [hps, List.length_append, List.length_singleton]; omega, fun t ht => ?_, fun t u ht hu => ?_, fun u k h1 h2 h3 => ?_⟩
  ·obtain ⟨u, hu⟩ := List.mem_iff_getElem?.1 hr
   have hul : u < R := by rw [← hrl]; exact (List.getElem?_eq_some_iff.1 hu).1
   have e : r = (qcol s c).rows.getD u [] := by rw [List.getD_eq_getElem?_getD, hu]; rfl
   rw [e, hbb u hul]
   split
   ·rw [scQ_len]; exact hbW
   ·rw [lsQ_len]; exact hswW u hul
  ·rw [hps, List.length_append, List.length_singleton] at ht
   rw [hps, List.getD_eq_getElem?_getD, List.getElem?_append]
   split
   ·rename_i h4
    have := h.lt t h4
    rw [List.getD_eq_getElem?_getD] at this
    omega
   ·rw [show t - s.ps.length = 0 by omega]; exact Nat.lt_succ_self c
  ·rw [hps, List.length_append, List.length_singleton] at ht
   have hpt : (qcol s c).ps.getD t 0 = if t < s.ps.length then s.ps.getD t 0 else c := by
    rw [hps, List.getD_eq_getElem?_getD, List.getElem?_append]
    split
    ·rw [List.getD_eq_getElem?_getD]
    ·rw [show t - s.ps.length = 0 by omega]; rfl
   rw [hpt, hval u _ hu]
   by_cases h4 : t < s.ps.length
   ·rw [if_pos h4]
    have hpc := h.lt t h4
    rw [hbz _ hpc, Rat.zero_mul, Rat.mul_zero, Rat.sub_eq_add_neg, show -(0 : Rat) = 0 by decide, Rat.add_zero]
    split
    ·rw [if_neg (by omega)]
    ·rename_i h5
     by_cases h6 : u < s.ps.length
     ·have e : sw.getD u [] = s.rows.getD u [] := by rw [hswat u hu, if_neg (by omega), if_neg h5]
      rw [e]; exact h.piv t u h4 hu
     ·rw [if_neg (by omega)]; exact hz u _ (by omega) hu hpc
   ·obtain rfl : t = s.ps.length := by omega
    rw [if_neg h4]
    split
    ·rw [h1c]
    ·rw [h1c, Rat.mul_one, Rat.sub_self]
  ·rw [hps, List.length_append, List.length_singleton] at h1
   rw [hval u k h2, if_neg (by omega)]
   by_cases h5 : k = c
   ·subst h5
    rw [h1c, Rat.mul_one, Rat.sub_self]
   ·rw [hbz k (by omega), Rat.zero_mul, Rat.mul_zero, Rat.sub_eq_add_neg, show -(0 : Rat) = 0 by decide, Rat.add_zero]
    exact hz u k (by omega) h2 (by omega)
 ·rw [qcol_no hi]
  refine ⟨h.len, h.row, h.ps, fun t ht => Nat.lt_succ_of_lt (h.lt t ht), h.piv, fun u k h1 h2 h3 => ?_⟩
  by_cases e : k = c
  ·subst e
   have hdl : (s.rows.drop s.ps.length).length = R - s.ps.length := by rw [List.length_drop, h.len]
   have hle := ixn_le (nzQ k) (s.rows.drop s.ps.length)
   have := ixn_before (q := nzQ k) (d := []) (xs := s.rows.drop s.ps.length) (j := u - s.ps.length) (by omega)
   rw [List.getD_eq_getElem?_getD, List.getElem?_drop, show s.ps.length + (u - s.ps.length) = u by omega, ← List.getD_eq_getElem?_getD] at this
   exact Classical.byContradiction fun hne => Bool.noConfusion ((decide_eq_true (p := qf (s.rows.getD u []) k ≠ 0) hne).symm.trans this)
  ·exact h.zer u k h1 h2 (by omega)
def Ann (rows : List (List Rat)) (R W : Nat) (y : Nat → Rat) : Prop := ∀ u, u < R → dotQ (qf (rows.getD u [])) y W = 0
theorem QI.ann {s : QS} {c W R : Nat} (h : QI s c W R) (y : Nat → Rat) : Ann (qcol s c).rows R W y ↔ Ann s.rows R W y := by
 by_cases hi : ixn (nzQ c) (s.rows.drop s.ps.length) < (s.rows.drop s.ps.length).length
 ·obtain ⟨i, b, sw, hin, hsw, hsl, hb, hnz, hbW, hsb, hps, hrl, hrow, hswW⟩ := qcol_yes h hi
  have h1c := rat_inv hnz
  have hswat : ∀ u, u < R → sw.getD u [] = s.rows.getD (if u = s.ps.length + i then s.ps.length else if u = s.ps.length then s.ps.length + i else u) [] := fun u hu => by
   rw [hsw]; exact swQ_at (by rw [h.len]; exact hin) (by rw [h.len]; exact hu)
  have hd : ∀ u, u < R → dotQ (qf ((qcol s c).rows.getD u [])) y W = if u = s.ps.length then dotQ (qf b) y W * (1 / qf b c) else dotQ (qf (sw.getD u [])) y W - qf (sw.getD u []) c * (dotQ (qf b) y W * (1 / qf b c)) := fun u hu => by
   rw [hrow u hu]
   split
   ·rw [← dotQ_scale]; exact dotQ_congr (fun i _ => scQ_val _ _ _) fun _ _ => rfl
   ·rw [← dotQ_scale, ← dotQ_less]
    exact dotQ_congr (fun i _ => by rw [lsQ_val (by rw [scQ_len, hbW, hswW u hu]), scQ_val]) fun _ _ => rfl
  have key : Ann (qcol s c).rows R W y ↔ Ann sw R W y := by
   constructor
   ·intro hA
    have hb0 : dotQ (qf b) y W = 0 := by
     have := hA s.ps.length (by omega)
     rw [hd _ (by omega), if_pos rfl] at this
     rcases Rat.mul_eq_zero.1 this with h2 | h2
     ·exact h2
     ·rw [h2, Rat.mul_zero] at h1c; exact absurd h1c (by decide)
    intro u hu
    by_cases e : u = s.ps.length
    ·rw [e, hsb]; exact hb0
    ·have := hA u hu
     rw [hd u hu, if_neg e, hb0, Rat.zero_mul, Rat.mul_zero] at this
     rw [← this, Rat.sub_eq_add_neg, show -(0 : Rat) = 0 by decide, Rat.add_zero]
   ·intro hA u hu
    have hb0 : dotQ (qf b) y W = 0 := by have := hA s.ps.length (by omega); rwa [hsb] at this
    rw [hd u hu, hb0, Rat.zero_mul, Rat.mul_zero]
    split
    ·rfl
    ·rw [hA u hu, Rat.sub_self]
  rw [key]
  constructor
  ·intro hA u hu
   by_cases e : u = s.ps.length + i
   ·have := hA s.ps.length (by omega)
    rw [hswat _ (by omega)] at this
    by_cases e2 : s.ps.length = s.ps.length + i
    ·rw [if_pos e2] at this; rw [e, ← e2]; exact this
    ·rw [if_neg e2, if_pos rfl] at this; rw [e]; exact this
   ·by_cases e2 : u = s.ps.length
    ·have := hA (s.ps.length + i) hin
     rw [hswat _ hin, if_pos rfl] at this
     rw [e2]; exact this
    ·have := hA u hu
     rw [hswat _ hu, if_neg e, if_neg e2] at this
     exact this
  ·intro hA u hu
   rw [hswat u hu]
   exact hA _ (by split; omega; split <;> omega)
 ·rw [qcol_no hi]
theorem qred_QI {rows : List (List Rat)} {W R : Nat} (h1 : rows.length = R) (h2 : ∀ r ∈ rows, r.length = W) : ∀ c, c ≤ W → QI (qred ⟨rows, []⟩ c) c W R ∧ ∀ y, Ann (qred ⟨rows, []⟩ c).rows R W y ↔ Ann rows R W y
  | 0, _ => ⟨QI.start h1 h2, fun y => Iff.rfl⟩
  | c + 1, hc => by
    obtain ⟨g1, g2⟩ := qred_QI h1 h2 c (by omega)
    exact ⟨g1.step (by omega), fun y => (g1.ann y).trans (g2 y)⟩
/-! ### sizes -/
theorem qs_one : qs 1 ≤ 1 := qs_le (Go.Nt.nw_small' (n := 1) (by decide)) (Go.Nt.nw_small' (n := 1) (by decide))
theorem qcol_qb {s : QS} {c W R K : Nat} (h : QI s c W R) (hK : 1 ≤ K) (hb : ∀ r ∈ s.rows, QB r K) : ∀ r ∈ (qcol s c).rows, QB r (8 * K) := by
 by_cases hi : ixn (nzQ c) (s.rows.drop s.ps.length) < (s.rows.drop s.ps.length).length
 ·obtain ⟨i, b, sw, hin, hsw, hsl, hb0, hnz, hbW, hsb, hps, hrl, hrow, hswW⟩ := qcol_yes h hi
  intro r hr
  obtain ⟨u, hu⟩ := List.mem_iff_getElem?.1 hr
  have hul : u < R := by rw [← hrl]; exact (List.getElem?_eq_some_iff.1 hu).1
  have e : r = (qcol s c).rows.getD u [] := by rw [List.getD_eq_getElem?_getD, hu]; rfl
  have hbb : QB b K := by rw [hb0]; exact hb _ (getD_mem (by rw [h.len]; exact hin))
  have hsu : QB (sw.getD u []) K := by rw [hsw]; exact hb _ (swQ_mem (by rw [h.len]; exact hin) (by rw [h.len]; exact hul))
  have h1 := qs_quo qs_one (hbb c)
  have h2 := scQ_qb hbb h1
  rw [e, hrow u hul]
  split
  ·exact h2.mono (by omega)
  ·exact (lsQ_qb hsu h2 (hsu c)).mono (by omega)
 ·rw [qcol_no hi]; exact fun r hr => (hb r hr).mono (by omega)
theorem qred_qb {rows : List (List Rat)} {W R K : Nat} (h1 : rows.length = R) (h2 : ∀ r ∈ rows, r.length = W) (hK : 1 ≤ K) (hb : ∀ r ∈ rows, QB r K) : ∀ c, c ≤ W → ∀ r ∈ (qred ⟨rows, []⟩ c).rows, QB r (8 ^ c * K)
  | 0, _ => fun r hr => by rw [Nat.pow_zero, Nat.one_mul]; exact hb r hr
  | c + 1, hc => fun r hr => by
    have hp : 1 ≤ 8 ^ c * K := Nat.mul_pos (Nat.pow_pos (by decide)) hK
    have := qcol_qb (qred_QI h1 h2 c (by omega)).1 hp (qred_qb h1 h2 hK hb c (by omega)) r hr
    rwa [show 8 ^ (c + 1) * K = 8 * (8 ^ c * K) by rw [Nat.pow_succ]; grind]
/-! ### what is solved -/
theorem idxQ_at {s : QS} {c W R t : Nat} (h : QI s c W R) (ht : t < s.ps.length) : idxQ s.ps (s.ps.getD t 0) = t := by
 unfold idxQ
 have hpl : (pwQ s.ps).length = s.ps.length := List.length_map _
 have hg : ∀ j, j < s.ps.length → (pwQ s.ps).getD j 0 = ((s.ps.getD j 0 : Nat) : Int) := fun j hj => by
  unfold pwQ
  rw [List.getD_eq_getElem?_getD, List.getElem?_map, getD_at (d := 0) hj]; rfl
 refine ixn_at (d := 0) (by rw [hpl]; omega) (fun j hj => ?_) (.inr ?_)
 ·rw [hg j (by omega)]
  refine decide_eq_false fun e => ?_
  have e2 : s.ps.getD t 0 = s.ps.getD j 0 := by omega
  have h1 := h.piv j t (by omega) (by have := h.ps; omega)
  have h2 := h.piv t t ht (by have := h.ps; omega)
  rw [← e2, h2, if_pos rfl, if_neg (by omega)] at h1
  exact absurd h1 (by decide)
 ·rw [hg t ht]; exact decide_eq_true rfl
theorem idxQ_of {s : QS} {k : Nat} (h : idxQ s.ps k < s.ps.length) : s.ps.getD (idxQ s.ps k) 0 = k := by
 have hpl : (pwQ s.ps).length = s.ps.length := List.length_map _
 have := ixn_yes (q := fun x => decide ((k : Int) = x)) (d := 0) (xs := pwQ s.ps) (by rw [hpl]; exact h)
 have hg : (pwQ s.ps).getD (idxQ s.ps k) 0 = ((s.ps.getD (idxQ s.ps k) 0 : Nat) : Int) := by
  unfold pwQ
  rw [List.getD_eq_getElem?_getD, List.getElem?_map, getD_at (d := 0) h]; rfl
 have h2 := of_decide_eq_true this
 unfold idxQ at hg
 rw [hg] at h2
 unfold idxQ
 omega
def ext1 (x : Nat → Rat) (C : Nat) (k : Nat) : Rat := if k < C then x k else -1
theorem bad_none {s : QS} {C R : Nat} (h : QI s C (C + 1) R) (hb : badQ s C) (x : Nat → Rat) : ¬ Ann s.rows R (C + 1) (ext1 x C) := fun hA => by
 obtain ⟨r, hr, hn⟩ := hb
 obtain ⟨j, hj⟩ := List.mem_iff_getElem?.1 hr
 rw [List.getElem?_drop] at hj
 have hjl : s.ps.length + j < R := by rw [← h.len]; exact (List.getElem?_eq_some_iff.1 hj).1
 have er : s.rows.getD (s.ps.length + j) [] = r := by rw [List.getD_eq_getElem?_getD, hj]; rfl
 have hrl : r.length = C + 1 := h.row r (List.mem_of_getElem? hj)
 have h1 := ixn_yes (q := nzr) (d := 0) hn
 rw [List.length_drop, hrl] at hn
 have h0 : ixn nzr (r.drop C) = 0 := by omega
 rw [h0, List.getD_eq_getElem?_getD, List.getElem?_drop, Nat.add_zero, ← List.getD_eq_getElem?_getD] at h1
 have h2 : qf r C ≠ 0 := by unfold qf; simpa using h1
 have h3 := hA _ hjl
 rw [er] at h3
 rw [dotQ_one (k := C) (Nat.lt_succ_self C) (fun i hi hne => by
  have := h.zer (s.ps.length + j) i (by omega) hjl (by omega)
  unfold enq at this
  rw [er] at this
  rw [this, Rat.zero_mul])] at h3
 unfold ext1 at h3
 rw [if_neg (Nat.lt_irrefl C)] at h3
 rcases Rat.mul_eq_zero.1 h3 with h4 | h4
 ·exact h2 h4
 ·exact absurd h4 (by decide)
theorem good_sol {s : QS} {C R : Nat} (h : QI s C (C + 1) R) (hb : ¬ badQ s C) : Ann s.rows R (C + 1) (ext1 (fun i => solQ s C i 0) C) := fun u hu => by
 by_cases hup : u < s.ps.length
 ·have hpc := h.lt u hup
  have hsum : dotQ (qf (s.rows.getD u [])) (ext1 (fun i => solQ s C i 0) C) C = enq s u C := by
   rw [dotQ_one (k := s.ps.getD u 0) hpc (fun i hi hne => ?_)]
   ·have h1 := h.piv u u hup hu
    unfold enq at h1
    rw [h1, if_pos rfl, Rat.one_mul]
    unfold ext1
    rw [if_pos hpc]
    show solQ s C (s.ps.getD u 0) 0 = _
    unfold solQ
    rw [idxQ_at h hup, if_pos hup]; rfl
   ·unfold ext1
    rw [if_pos hi]
    show qf (s.rows.getD u []) i * solQ s C i 0 = 0
    unfold solQ
    split
    ·rename_i h2
     have e := idxQ_of h2
     have h3 := h.piv (idxQ s.ps i) u h2 hu
     rw [e, if_neg (fun e2 => hne (by rw [e2]; exact e.symm))] at h3
     unfold enq at h3
     rw [h3, Rat.zero_mul]
    ·rw [Rat.mul_zero]
  show dotQ (qf (s.rows.getD u [])) _ C + _ = 0
  rw [hsum]
  unfold ext1 enq
  rw [if_neg (Nat.lt_irrefl C)]
  grind
 ·refine dotQ_zero fun i hi => ?_
  by_cases e : i < C
  ·have := h.zer u i (by omega) hu e
   unfold enq at this
   rw [this, Rat.zero_mul]
  ·obtain rfl : i = C := by omega
   have hm : s.rows.getD u [] ∈ s.rows.drop s.ps.length := by
    refine List.mem_iff_getElem?.2 ⟨u - s.ps.length, ?_⟩
    rw [List.getElem?_drop, show s.ps.length + (u - s.ps.length) = u by omega]
    exact getD_at (by rw [h.len]; exact hu)
   have hrl : (s.rows.getD u []).length = i + 1 := h.row _ (List.mem_of_mem_drop hm)
   have h0 : qf (s.rows.getD u []) i = 0 := by
    refine Classical.byContradiction fun hne => hb ⟨_, hm, ?_⟩
    have hle := ixn_le nzr ((s.rows.getD u []).drop i)
    have hl1 : ((s.rows.getD u []).drop i).length = 1 := by rw [List.length_drop, hrl]; omega
    refine Nat.lt_of_le_of_ne hle fun e2 => hne ?_
    have := ixn_before (q := nzr) (d := 0) (xs := (s.rows.getD u []).drop i) (j := 0) (by omega)
    rw [List.getD_eq_getElem?_getD, List.getElem?_drop, Nat.add_zero, ← List.getD_eq_getElem?_getD] at this
    unfold qf
    simpa using this
   rw [h0, Rat.zero_mul]
end Go.Qe
namespace Go.Mi
open Go.En Go.Mu Go.Qe Go.Dt Go.Pz Go.Nt Go.Mz Go.Ch
def flQ (l : List (List Int)) (N : Nat) : List Rat := (List.range N).flatMap fun i => l.map fun a => ((cf a i : Int) : Rat)
theorem flQ_succ (l : List (List Int)) (N : Nat) : flQ l (N + 1) = flQ l N ++ l.map fun a => ((cf a N : Int) : Rat) := by
 unfold flQ; rw [List.range_succ, List.flatMap_append]; simp
theorem flQ_len (l : List (List Int)) : ∀ N, (flQ l N).length = N * l.length
 | 0 => by rw [Nat.zero_mul]; rfl
 | N + 1 => by rw [flQ_succ, List.length_append, flQ_len l N, List.length_map, Nat.succ_mul]
theorem flQ_at {l : List (List Int)} {i k : Nat} (hk : k < l.length) : ∀ {N : Nat}, i < N → qf (flQ l N) (i * l.length + k) = ((cf (l.getD k []) i : Int) : Rat)
  | 0, h => absurd h (Nat.not_lt_zero _)
  | N + 1, h => by
    have hl := flQ_len l N
    rw [flQ_succ]
    unfold qf
    rw [List.getD_eq_getElem?_getD, List.getElem?_append]
    by_cases e : i = N
    · subst e
      rw [if_neg (by omega), hl, Nat.add_sub_cancel_left, List.getElem?_map, getD_at (d := []) hk]; rfl
    · have hlt : i * l.length + k < N * l.length := place_lt (show i < N by omega) hk
      rw [if_pos (by omega), ← List.getD_eq_getElem?_getD]
      exact flQ_at hk (by omega)
theorem flQ_qb {l : List (List Int)} {K : Nat} (h : ∀ a ∈ l, Bd a K) (hK : 1 ≤ K) (N : Nat) : QB (flQ l N) K := QB.of hK fun i hi => by
 have hm : qf (flQ l N) i ∈ flQ l N := by unfold qf; rw [List.getD, List.getElem?_eq_getElem hi]; exact List.getElem_mem _
 obtain ⟨u, _, hu⟩ := List.mem_flatMap.1 hm
 obtain ⟨a, ha, e⟩ := List.mem_map.1 hu
 rw [← e]; exact qs_int _ hK (h a ha u)
def Ind (P : Nat → Nat → Int) (N d : Nat) : Prop := ∀ y : Nat → Rat, (∀ u, u < N → dotQ (fun k => ((P k u : Int) : Rat)) y d = 0) → ∀ k, k < d → y k = 0
structure MinI (P : Nat → Nat → Int) (N d : Nat) (x : Nat → Int) : Prop where
 ind : Ind P N d
 eq : ∀ u, u < N → dotQ (fun k => ((P k u : Int) : Rat)) (fun k => ((x k : Int) : Rat)) d = ((P d u : Int) : Rat)
theorem rows_ann {l : List (List Int)} {m : List Int} {N : Nat} {P : Nat → Nat → Int} (hP : ∀ k u, k < l.length → u < N → cf (l.getD k []) u = P k u) (hm : ∀ u, u < N → cf m u = P l.length u) (x : Nat → Rat) :
  Ann (rowsQ N l.length 1 (flQ l N) (flQ [m] N)) N (l.length + 1) (ext1 x l.length) ↔ ∀ u, u < N → dotQ (fun k => ((P k u : Int) : Rat)) x l.length = ((P l.length u : Int) : Rat) := by
 have key : ∀ u, u < N → dotQ (qf ((rowsQ N l.length 1 (flQ l N) (flQ [m] N)).getD u [])) (ext1 x l.length) (l.length + 1) = dotQ (fun k => ((P k u : Int) : Rat)) x l.length + ((P l.length u : Int) : Rat) * -1 := fun u hu => by
  have er : (rowsQ N l.length 1 (flQ l N) (flQ [m] N)).getD u [] = ((List.range l.length).map fun k => qf (flQ l N) (u * l.length + k)) ++ (List.range 1).map fun k => qf (flQ [m] N) (u * 1 + k) := by
   unfold rowsQ
   rw [List.getD_eq_getElem?_getD, List.getElem?_map, List.getElem?_range hu]; rfl
  rw [er]
  have e1 : ∀ k, k < l.length → qf (((List.range l.length).map fun k => qf (flQ l N) (u * l.length + k)) ++ (List.range 1).map fun k => qf (flQ [m] N) (u * 1 + k)) k = ((P k u : Int) : Rat) := fun k hk => by
   rw [← hP k u hk hu, ← flQ_at hk hu]
   unfold qf
   rw [List.getD_eq_getElem?_getD, List.getElem?_append, if_pos (by rw [List.length_map, List.length_range]; exact hk), List.getElem?_map, List.getElem?_range hk]; rfl
  have e2 : qf (((List.range l.length).map fun k => qf (flQ l N) (u * l.length + k)) ++ (List.range 1).map fun k => qf (flQ [m] N) (u * 1 + k)) l.length = ((P l.length u : Int) : Rat) := by
   have h1 := flQ_at (l := [m]) (k := 0) (by simp) hu
   rw [show cf (([m] : List (List Int)).getD 0 []) u = cf m u from rfl, hm u hu] at h1
   rw [← h1]
   unfold qf
   rw [List.getD_eq_getElem?_getD, List.getElem?_append, if_neg (by rw [List.length_map, List.length_range]; omega), List.length_map, List.length_range, Nat.sub_self]; rfl
  show dotQ _ _ l.length + _ * ext1 x l.length l.length = _
  rw [e2, dotQ_congr (n := l.length) e1 (fun k hk => show ext1 x l.length k = x k from if_pos hk)]
  unfold ext1
  rw [if_neg (Nat.lt_irrefl _)]
 constructor
 ·intro hA u hu
  have := hA u hu
  rw [key u hu] at this
  grind
 ·intro hA u hu
  rw [key u hu, hA u hu]
  grind
section
variable {l : List (List Int)} {m : List Int} {N : Nat} {P : Nat → Nat → Int}
theorem red_I (l : List (List Int)) (m : List Int) (N : Nat) : QI (redQ N l.length 1 (flQ l N) (flQ [m] N)) l.length (l.length + 1) N ∧ ∀ y, Ann (redQ N l.length 1 (flQ l N) (flQ [m] N)).rows N (l.length + 1) y ↔ Ann (rowsQ N l.length 1 (flQ l N) (flQ [m] N)) N (l.length + 1) y :=
 qred_QI (rowsQ_len _ _ _ _ _) (fun _ hr => rowsQ_row hr) l.length (Nat.le_succ _)
theorem min_lt {d : Nat} {x : Nat → Int} (h : MinI P N d x) (hd : l.length < d) (hP : ∀ k u, k < l.length → u < N → cf (l.getD k []) u = P k u) (hm : ∀ u, u < N → cf m u = P l.length u) : badQ (redQ N l.length 1 (flQ l N) (flQ [m] N)) l.length := Classical.byContradiction fun hb => by
 obtain ⟨h1, h2⟩ := red_I l m N
 have h3 := (rows_ann hP hm _).1 ((h2 _).1 (good_sol h1 hb))
 have h4 := h.ind (fun k => if k < l.length then solQ (redQ N l.length 1 (flQ l N) (flQ [m] N)) l.length k 0 else if k = l.length then -1 else 0) (fun u hu => by
  obtain ⟨e, rfl⟩ : ∃ e, d = (l.length + 1) + e := ⟨d - l.length - 1, by omega⟩
  have hz : dotQ (fun i => ((P (l.length + 1 + i) u : Int) : Rat)) (fun i => if l.length + 1 + i < l.length then solQ (redQ N l.length 1 (flQ l N) (flQ [m] N)) l.length (l.length + 1 + i) 0 else if l.length + 1 + i = l.length then -1 else 0) e = 0 :=
   dotQ_zero (fun i hi => by show _ * (if l.length + 1 + i < l.length then _ else if l.length + 1 + i = l.length then (-1 : Rat) else 0) = 0; rw [if_neg (by omega), if_neg (by omega), Rat.mul_zero])
  rw [dotQ_app, hz, Rat.add_zero]
  show dotQ _ _ l.length + _ * _ = (0 : Rat)
  rw [dotQ_congr (n := l.length) (fun k _ => rfl) (fun k hk => if_pos hk), h3 u hu]
  show _ + ((P l.length u : Int) : Rat) * (if l.length < l.length then _ else if l.length = l.length then (-1 : Rat) else 0) = 0
  rw [if_neg (Nat.lt_irrefl _), if_pos rfl]
  grind) l.length hd
 have h5 : (if l.length < l.length then solQ (redQ N l.length 1 (flQ l N) (flQ [m] N)) l.length l.length 0 else if l.length = l.length then (-1 : Rat) else 0) = 0 := h4
 rw [if_neg (Nat.lt_irrefl _), if_pos rfl] at h5
 exact absurd h5 (by decide)
theorem min_eq {d : Nat} {x : Nat → Int} (h : MinI P N d x) (hd : l.length = d) (hP : ∀ k u, k < l.length → u < N → cf (l.getD k []) u = P k u) (hm : ∀ u, u < N → cf m u = P l.length u) : ¬ badQ (redQ N l.length 1 (flQ l N) (flQ [m] N)) l.length ∧
  ∀ k, k < d → solQ (redQ N l.length 1 (flQ l N) (flQ [m] N)) l.length k 0 = ((x k : Int) : Rat) := by
 subst hd
 obtain ⟨h1, h2⟩ := red_I l m N
 have hg : ¬ badQ (redQ N l.length 1 (flQ l N) (flQ [m] N)) l.length := fun hb => bad_none h1 hb _ ((h2 _).2 ((rows_ann hP hm _).2 h.eq))
 refine ⟨hg, fun k hk => ?_⟩
 have h3 := (rows_ann hP hm _).1 ((h2 _).1 (good_sol h1 hg))
 have h4 := h.ind (fun k => solQ (redQ N l.length 1 (flQ l N) (flQ [m] N)) l.length k 0 - ((x k : Int) : Rat)) (fun u hu => by
  have e := h.eq u hu
  have e2 := h3 u hu
  have key : ∀ (n : Nat) (f g g' : Nat → Rat), dotQ f (fun k => g k - g' k) n = dotQ f g n - dotQ f g' n := fun n f g g' => by
   induction n with
   | zero => show (0 : Rat) = 0 - 0; rw [Rat.sub_self]
   | succ n ih => show dotQ f (fun k => g k - g' k) n + f n * (g n - g' n) = dotQ f g n + f n * g n - (dotQ f g' n + f n * g' n); rw [ih]; grind
  rw [key, e, e2, Rat.sub_self]) k hk
 grind
end
/-! ### powers -/
def pws (n : Nat) (L : List Int) (d : Nat) : List (List Int) := (List.range d).map (pwL n L)
theorem pws_len (n : Nat) (L : List Int) (d : Nat) : (pws n L d).length = d := by unfold pws; rw [List.length_map, List.length_range]
theorem pws_succ (n : Nat) (L : List Int) (d : Nat) : pws n L (d + 1) = pws n L d ++ [pwL n L d] := by unfold pws; rw [List.range_succ, List.map_append]; rfl
theorem pws_at {n : Nat} {L : List Int} {d k : Nat} (h : k < d) : (pws n L d).getD k [] = pwL n L k := by
 unfold pws
 rw [List.getD_eq_getElem?_getD, List.getElem?_map, List.getElem?_range h]; rfl
def pe (n : Nat) (L : List Int) (k u : Nat) : Int := cf (pwL n L k) u
def mnL (x : Nat → Int) (d : Nat) : List Int := (List.range d).map (fun k => -(x k)) ++ [1]
theorem mnL_len (x : Nat → Int) (d : Nat) : (mnL x d).length = d + 1 := by unfold mnL; rw [List.length_append, List.length_map, List.length_range]; rfl
theorem mnL_at {x : Nat → Int} {d k : Nat} (h : k < d) : cf (mnL x d) k = -(x k) := by
 unfold mnL cf
 rw [List.getD_eq_getElem?_getD, List.getElem?_append, if_pos (by rw [List.length_map, List.length_range]; exact h), List.getElem?_map, List.getElem?_range h]; rfl
theorem mnL_top (x : Nat → Int) (d : Nat) : cf (mnL x d) d = 1 := by
 unfold mnL cf
 rw [List.getD_eq_getElem?_getD, List.getElem?_append, if_neg (by rw [List.length_map, List.length_range]; omega), List.length_map, List.length_range, Nat.sub_self]; rfl
end Go.Mi
namespace Go.Mi
open Go.En Go.Mu Go.Qe Go.Dt Go.Pz Go.Nt Go.Mz Go.Ch Go.Hp
def cmL (n : Nat) (q : List Int) : List Int := tab (n * n) n fun i k => (if k + 1 = i then 1 else 0) + if k + 1 = n then -(cf q i) else 0
theorem cmL_len (n : Nat) (q : List Int) : (cmL n q).length = n * n := tab_len _ _ _
theorem cmL_at {n i k : Nat} (q : List Int) (hi : i < n) (hk : k < n) : mf n (cmL n q) i k = (if k + 1 = i then 1 else 0) + if k + 1 = n then -(cf q i) else 0 := cf_tab' _ hk (place_lt hi hk)
theorem cm_comm {n : Nat} {L : List Int} (h : L.length = n * n) (k : Nat) : pwL n L (k + 1) = prdL n L (pwL n L k) := by
 have := pw_add n L 1 k
 rw [pw_one h] at this
 rw [this, Nat.add_comm]
theorem cm_col {n : Nat} (q : List Int) : ∀ {k r : Nat}, k < n → r < n → mf n (pwL n (cmL n q) k) r 0 = if r = k then 1 else 0
  | 0, r, hk, hr => by
    show mf n (oneL n) r 0 = _
    rw [oneL_at hr hk]; rfl
  | k + 1, r, hk, hr => by
    rw [cm_comm (cmL_len n q), prdL_at hr (by omega), sm_one (c := k) (by omega) (fun j hj hne => by rw [cm_col q (by omega) hj, if_neg hne, Int.mul_zero]), cm_col q (by omega) (by omega), if_pos rfl, Int.mul_one, cmL_at q hr (by omega), if_neg (show ¬ k + 1 = n by omega), Int.add_zero]
    by_cases e : r = k + 1
    · rw [if_pos e, if_pos e.symm]
    · rw [if_neg e, if_neg (fun h => e h.symm)]
theorem cm_last {n : Nat} (q : List Int) (hn : 0 < n) {r : Nat} (hr : r < n) : mf n (pwL n (cmL n q) n) r 0 = -(cf q r) := by
 obtain ⟨m, rfl⟩ : ∃ m, n = m + 1 := ⟨n - 1, by omega⟩
 rw [cm_comm (cmL_len _ q), prdL_at hr (by omega), sm_one (c := m) (by omega) (fun j hj hne => by rw [cm_col q (by omega) hj, if_neg hne, Int.mul_zero]), cm_col q (by omega) (by omega), if_pos rfl, Int.mul_one, cmL_at q hr (by omega), if_neg (by omega), if_pos rfl, Int.zero_add]
theorem dotQ_int (f g : Nat → Int) : ∀ n, dotQ (fun k => ((f k : Int) : Rat)) (fun k => ((g k : Int) : Rat)) n = ((sm n fun k => f k * g k : Int) : Rat)
  | 0 => rfl
  | n + 1 => by
    show dotQ _ _ n + _ = ((sm n (fun k => f k * g k) + f n * g n : Int) : Rat)
    rw [dotQ_int f g n, Rat.intCast_add, Rat.intCast_mul]
theorem ch_sum {n : Nat} (L : List Int) {r c : Nat} (hr : r < n) (hc : c < n) : (sm n fun m => cf (chL n L) m * mf n (pwL n L m) r c) + mf n (pwL n L n) r c = 0 := by
 have h := cay_ham n L
 have h2 := evG_at (L := L) (q := chL n L) hr hc (Nat.le_refl _)
 rw [h, zerL_at hr hc, Nat.sub_self, chL_len] at h2
 have h3 : (0 : Int) = (sm n fun m => cf (chL n L) (0 + m) * mf n (pwL n L m) r c) + cf (chL n L) (0 + n) * mf n (pwL n L n) r c := h2
 rw [Nat.zero_add, chL_at (Nat.le_refl n), cp_top, Int.one_mul] at h3
 rw [h3]
 congr 1
 exact sm_congr fun m _ => by rw [Nat.zero_add]
theorem cm_ch {n : Nat} (q : List Int) {r : Nat} (hr : r < n) : cf (chL n (cmL n q)) r = cf q r := by
 have h := ch_sum (cmL n q) hr (show 0 < n by omega)
 rw [cm_last q (by omega) hr, sm_one (c := r) hr (fun m hm hne => by rw [cm_col q hm hr, if_neg (fun e => hne e.symm), Int.mul_zero]), cm_col q hr hr, if_pos rfl, Int.mul_one] at h
 omega
theorem cm_min (n : Nat) (q : List Int) : MinI (pe n (cmL n q)) (n * n) n fun k => -(cf q k) := by
 refine ⟨fun y hy k hk => ?_, fun u hu => ?_⟩
 ·have h := hy (k * n + 0) (place_lt hk (by omega))
  rw [dotQ_one (k := k) hk (fun i hi hne => by
   show ((mf n (pwL n (cmL n q) i) k 0 : Int) : Rat) * y i = 0
   rw [cm_col q hi hk, if_neg (fun e => hne e.symm)]; exact Rat.zero_mul _)] at h
  have e : ((pe n (cmL n q) k (k * n + 0) : Int) : Rat) = 1 := by
   show ((mf n (pwL n (cmL n q) k) k 0 : Int) : Rat) = 1
   rw [cm_col q hk hk, if_pos rfl]; rfl
  rw [e, Rat.one_mul] at h
  exact h
 ·obtain ⟨r, c, hr, hc, rfl⟩ := place_of hu
  rw [dotQ_int]
  have h := ch_sum (cmL n q) hr hc
  have h2 : (sm n fun m => cf (chL n (cmL n q)) m * mf n (pwL n (cmL n q) m) r c) = sm n fun m => -1 * (pe n (cmL n q) m (r * n + c) * -(cf q m)) :=
   sm_congr fun m hm => by rw [cm_ch q hm]; show _ = -1 * (mf n (pwL n (cmL n q) m) r c * -(cf q m)); grind
  rw [h2, sm_smul] at h
  congr 1
  show _ = mf n (pwL n (cmL n q) n) r c
  omega
theorem cmL_bd {n K : Nat} {q : List Int} (h : Bd q K) (hK : 1 ≤ K) : Bd (cmL n q) (K + 1) := Bd_tab fun i k => by
 have h1 := nz_add (if k + 1 = i then 1 else 0) (if k + 1 = n then -(cf q i) else 0)
 have h2 : (List.length (words (if k + 1 = i then (1 : Int) else 0).natAbs)) ≤ 1 := by split <;> exact nw_small' (by decide)
 have h3 : (List.length (words (if k + 1 = n then -(cf q i) else 0).natAbs)) ≤ K := by
  split
  ·rw [Int.natAbs_neg]; exact h i
  ·exact Nat.le_trans (nw_small' (by decide)) hK
 omega
end Go.Mi
namespace Go.Mi
open Go.En Go.Pz Go.Nt Go.Mz Go.Ch Go.Hp
theorem tab_put {N C i k : Nat} (g : Nat → Nat → Int) {v : Int} (hk : k < C) (hN : i * C + k < N) : (tab N C g).set (i * C + k) v = tab N C fun r s => if r = i ∧ s = k then v else g r s := by
 apply List.ext_getElem?
 intro j
 rw [List.getElem?_set, tab_len]
 unfold tab
 rw [List.getElem?_map, List.getElem?_map]
 rcases Nat.lt_or_ge j N with hj | hj
 ·rw [List.getElem?_range hj]
  by_cases e : i * C + k = j
  ·subst e
   rw [if_pos rfl, if_pos hN]
   show some v = some (if (i * C + k) / C = i ∧ (i * C + k) % C = k then v else _)
   rw [if_pos ⟨(divmod hk).1, (divmod hk).2⟩]
  ·rw [if_neg e]
   show some _ = some (if j / C = i ∧ j % C = k then v else _)
   rw [if_neg fun h => e (by rw [← h.1, ← h.2]; exact Nat.div_add_mod' j C)]
 ·rw [List.getElem?_eq_none (by rw [List.length_range]; exact hj), if_neg (by omega)]; rfl
def cmS (n : Nat) (q : List Int) (i : Nat) : List Int := tab (n * n) n fun r k => if r < i then (if k + 1 = r then 1 else 0) + (if k + 1 = n then -(cf q r) else 0) else 0
theorem cmS_len (n : Nat) (q : List Int) (i : Nat) : (cmS n q i).length = n * n := tab_len _ _ _
theorem cmS_all (n : Nat) (q : List Int) : cmS n q n = cmL n q := by
 unfold cmS cmL tab
 refine List.map_congr_left fun j hj => ?_
 have h := List.mem_range.1 hj
 have h2 : j / n < n := Nat.div_lt_of_lt_mul h
 exact if_pos h2
def cmT (n : Nat) (q : List Int) (i : Nat) : List Int := if 0 < i then (cmS n q i).set (i * n + (i - 1)) 1 else cmS n q i
theorem cmT_len (n : Nat) (q : List Int) (i : Nat) : (cmT n q i).length = n * n := by
 unfold cmT
 split
 ·rw [List.length_set, cmS_len]
 ·exact cmS_len _ _ _
theorem cmT_tab {n : Nat} {q : List Int} {i : Nat} (hi : i < n) : cmT n q i = tab (n * n) n fun r k => if r < i then (if k + 1 = r then 1 else 0) + (if k + 1 = n then -(cf q r) else 0) else if r = i ∧ k + 1 = i then 1 else 0 := by
 unfold cmT cmS
 split
 ·rename_i h
  rw [tab_put _ (by omega) (place_lt hi (by omega))]
  congr 1
  funext r k
  by_cases e : r = i ∧ k = i - 1
  ·rw [if_pos e, if_neg (by omega), if_pos ⟨e.1, by omega⟩]
  ·rw [if_neg e]
   split
   ·rfl
   ·rw [if_neg (by omega)]
 ·congr 1
  funext r k
  split
  ·rfl
  ·rw [if_neg (by omega)]
theorem cmT_last {n : Nat} {q : List Int} {i : Nat} (hi : i < n) : cf (cmT n q i) (i * n + (n - 1)) = if n = i then 1 else 0 := by
 rw [cmT_tab hi, cf_tab' _ (by omega) (place_lt hi (by omega)), if_neg (by omega)]
 by_cases e : n = i
 ·omega
 ·rw [if_neg (by omega), if_neg e]
theorem cmT_nw {n : Nat} {q : List Int} {i : Nat} (hi : i < n) : (List.length (words (cf (cmT n q i) (i * n + (n - 1))).natAbs)) ≤ 1 := by
 rw [cmT_last hi, if_neg (by omega)]; exact nw_small' (by decide)
theorem cmS_next {n : Nat} {q : List Int} {i : Nat} (hi : i < n) : (cmT n q i).set (i * n + (n - 1)) (cf (cmT n q i) (i * n + (n - 1)) - cf q i) = cmS n q (i + 1) := by
 rw [cmT_last hi, if_neg (by omega), cmT_tab hi, tab_put _ (by omega) (place_lt hi (by omega))]
 unfold cmS tab
 refine List.map_congr_left fun j hj => ?_
 have h := List.mem_range.1 hj
 have hn : 0 < n := by omega
 have h3 : j % n < n := Nat.mod_lt _ hn
 generalize j / n = r, j % n = k at *
 show (if r = i ∧ k = n - 1 then (0 : Int) - cf q i else if r < i then (if k + 1 = r then 1 else 0) + (if k + 1 = n then -(cf q r) else 0) else if r = i ∧ k + 1 = i then 1 else 0) = if r < i + 1 then (if k + 1 = r then 1 else 0) + (if k + 1 = n then -(cf q r) else 0) else 0
 by_cases e : r = i
 ·subst e
  repeat' split
  all_goals omega
 ·repeat' split
  all_goals omega
theorem memC_eq {g : Gr (Bool × List Nat)} {x : Option Nat × MP} {a c : List (Bool × List Nat)} {r : Mem} (h : a = c) : (x :: grMK zc g a :: r : Mem) = x :: grMK zc g c :: r := by subst h; rfl
theorem memC_end {b m : Nat} {A B : VP} {g : Gr (Bool × List Nat)} {a c : List (Bool × List Nat)} {r : Mem} (h : a = c) (hn : m = c.length) : ((some b, cellM [A, B, isGr g m]) :: grMK zc g a :: r : Mem) = (some b, cellM [A, B, isGr g c.length]) :: grMK zc g c :: r := by subst h; subst hn; rfl
end Go.Mi
namespace Go.En
open Go.RowKit
section
variable {E : Env} {P : Program} {Γ : Ctx} {M : Mem} {ty : TypeId} {pos : String} {after : Array Edge} {gd : Option (Nat × Bool)} {d : Option Tmp}
 {ops : Array Oper} {Q : Exit → Act → World → Prop} {rest : List Oper} {T T' : TypeId} {x y : Operand} {α : Type} {f : α → VP} {xs : List α}
theorem OKY.eq {o : Oper} {S S' : VP} (h : OKY E P Γ M o S) (e : S = S') : OKY E P Γ M o S' := e ▸ h
theorem OKY.addI {d : Option Tmp} {i j : Int} (hx : Has E Γ M x (isI i)) (hy : Has E Γ M y (isI j)) (h1 : -9223372036854775808 ≤ i + j) (h2 : i + j < 9223372036854775808) : OKY E P Γ M ⟨d, .binOp .add T x y T', ty, pos, after, none⟩ (isI (i + j)) := fun a w F s => by
 refine ⟨.int .i64 (i + j), fun w' => ?_, isI_of h1 h2 w F⟩
 have g1 := evI hx a w F s
 have g2 := evI hy a w F s
 have g3 := run_add (P := P) (T := T) .i64 i j w'
 simp only [execOp, g1, g2]
 simp [go_sem, g3]
 exact wrap_i64 h1 h2
def lent (M : Mem) (F : Blk) : Blk := fun k => F k ∨ k ∈ blks M
def HasB (E : Env) (Γ : Ctx) (M : Mem) (x : Operand) (S : VP) : Prop := ∀ a w F, Sat E Γ M a w F → S.h w (lent M F) (a.eval x)
theorem HasB.of {S : VP} (h : Has E Γ M x S) : HasB E Γ M x S := fun a w F s => S.mono _ _ _ _ _ (h a w F s) (fun _ _ => rfl) fun _ h => .inl h
inductive HasBL (E : Env) (Γ : Ctx) (M : Mem) : List Operand → List VP → Prop
 | nil : HasBL E Γ M [] []
 | cons {x : Operand} {S : VP} {xs : List Operand} {Ss : List VP} : HasB E Γ M x S → HasBL E Γ M xs Ss → HasBL E Γ M (x :: xs) (S :: Ss)
theorem HasBL.all {xs : List Operand} {Ss : List VP} (h : HasBL E Γ M xs Ss) {a : Act} {w : World} {F : Blk} (s : Sat E Γ M a w F) : All2 Ss w (lent M F) (xs.map a.eval) := by
 induction h with
 | nil => trivial
 | cons h1 _ ih => exact ⟨h1 a w F s, ih⟩
theorem OK1.callB {g : FuncId} {xs : List Operand} {ts : Array TypeId} {Ss : List VP} {p : Value → Prop} (hf : Ctr P g Ss (.pure p)) (hx : HasBL E Γ M xs Ss) :
  OK1 E P Γ M ⟨d, .call ⟨.value (.func g), xs.toArray, ts⟩, ty, pos, after, gd⟩ (.pure p) := by
 intro a w F s K Q hK
 unfold Oper.wp
 have hr : (execOp a.eval (⟨d, .call ⟨.value (.func g), xs.toArray, ts⟩, ty, pos, after, gd⟩ : Oper)).run P w = .ok (.enter g (xs.map a.eval).toArray) w := by
  have := run_enter hf.1 (xs.map a.eval).toArray w
  simpa [go_sem] using this
 rw [hr]
 have hlt : ∀ k, lent M F k → k < w.heap.size := fun k hk => by
  rcases hk with hk | hk
  ·exact s.flt k hk
  ·obtain ⟨C, hC⟩ := mem_blks.1 hk
   exact (s.mem.each k C hC).2.1
 refine (hf.2 w (lent M F) _ hlt (hx.all s)).mono ?_
 rintro e w' ⟨v, rfl, hk, hv⟩
 exact hK v w' F ⟨hk, fun _ h => h, fun _ h => .inl h⟩ hv
theorem Cv.freezeBoxX {t b : Nat} {Ss : List VP} {M0 : Mem} (hW : E.W = blks M0) (ht : look Γ t = some (isPtr b 0)) (hM : M = (some b, cellM Ss) :: M0) : Cv E Γ M ((t, PtrL Ss) :: Γ) M0 := by
  subst hM
  intro a w F s
  obtain ⟨h1, h2, h3, ob, h4, vs, T', rfl, hv⟩ := s.mem.each b _ List.mem_cons_self
  have hp := List.pairwise_cons.1 s.mem.apart
  have hne : ∀ (k : Nat) (C : MP), (some k, C) ∈ M0 → k ≠ b := fun k C hk e => by
    subst e
    rcases hp.1 _ hk with h | h
    · cases h
    · exact h rfl
  refine ⟨fun k => F k ∨ k = b, ?_⟩
  have hsub : ∀ k, F k → (F k ∨ k = b) := fun k hk => .inl hk
  have hbW : E.w0.heap.size ≤ b := h1.resolve_right (by
    rw [hW]; intro hb
    obtain ⟨C, hC⟩ := mem_blks.1 hb
    exact hne b C hC rfl)
  have e1 : a.tmps.getD t undef = .pointer (some ⟨b, 0, none⟩) := s.slots t _ ht
  refine { defers := s.defers, size := s.size, keep := s.keep, f0 := fun k hk => .inl (s.f0 k hk), fnew := ?_, flt := ?_, slots := ?_, mem := ⟨hp.2, ?_⟩ }
  · rintro k (hk | rfl)
    · exact s.fnew k hk
    · exact .inr ⟨hbW, h2⟩
  · rintro k (hk | rfl)
    · exact s.flt k hk
    · exact h2
  · intro t' S' ht'
    simp only [look] at ht'
    cases hb : Nat.beq t t' with
    | false => rw [hb] at ht'; exact S'.mono _ _ _ _ _ (s.slots t' S' ht') (fun _ _ => rfl) hsub
    | true =>
      rw [hb] at ht'
      obtain rfl : PtrL Ss = S' := by simpa using ht'
      obtain rfl := Nat.eq_of_beq_eq_true hb
      refine ⟨b, 0, e1, .inr rfl, vs, All2.mono (fun _ _ => rfl) hsub _ _ hv, fun j u hj => ?_⟩
      simp [World.cell?, h4, hj]
  · intro k C hk
    obtain ⟨g1, g2, g3, o2, g4, g5⟩ := s.mem.each k C (List.mem_cons_of_mem _ hk)
    exact ⟨g1, g2, fun h => h.elim g3 (hne k C hk), o2, g4, C.mono _ _ _ _ _ g5 (fun _ _ => rfl) hsub⟩
def isGrP {α : Type} (g : Gr α) (n lo : Nat) : VP := .pure fun v => ∃ a cap, v = .slice a (n - lo) cap ∧ n - lo ≤ cap ∧ cap ≤ maxLen ∧ (n - lo = 0 ∨ ∃ b, g.ob = some b ∧ a = some ⟨b, lo, none⟩)
instance {α : Type} {g : Gr α} {n lo : Nat} : IsSl (isGrP g n lo) (n - lo) := ⟨fun w F v ⟨a, c, e, h1, h2, _⟩ => ⟨a, c, e, h1, h2⟩⟩
theorem OK1.slGrL {e : TypeId} {n : Nat} {g0 : Bool} {g : Gr α} {z : Int} (hT : slB P T = some e) (ht : tyB P e = some (1, g0)) (hx : Has E Γ M x (isGr g n)) (hy : Has E Γ M y (isI z)) (h : 0 ≤ z ∧ z ≤ n) :
  OK1 E P Γ M ⟨d, .slice T x (some y) none none, ty, pos, after, gd⟩ (isGrP g n z.toNat) :=
 .run fun a w F s => by
  have hb : ∀ c : Nat, (Instr.sliceBounds true n c (some (.int .i64 z)) none none).run P w = .ok (z.toNat, n, c) w := fun c => by
   simp only [Instr.sliceBounds, Sem.run_bind, Sem.run_pure, Result.andThen_ok, run_bound h.1 h.2]
  rcases hx a w F s with ⟨hob, rfl, he⟩ | ⟨b, hob, he, hc, hm⟩
  ·refine ⟨_, ?_, none, 0, rfl, by omega, by rw [maxLen_eq]; omega, .inl (by omega)⟩
   have := run_slice (P := P) (a := none) hT ht w (hb 0)
   have hz : z.toNat = 0 := by omega
   rw [hz] at this
   simp only [execOp, he, evI hy a w F s, Option.map_some, Option.map_none, Sem.run_bind, this, Result.andThen_ok, Sem.run_pure, hz]
   rfl
  ·refine ⟨_, ?_, (if g.c = z.toNat then some ⟨b, 0, none⟩ else some ⟨b, z.toNat, none⟩), g.c - z.toNat, rfl, by omega, by omega, ?_⟩
   ·have := run_slice (P := P) (a := some ⟨b, 0, none⟩) hT ht w (hb g.c)
    simp only [execOp, he, evI hy a w F s, Option.map_some, Option.map_none, Sem.run_bind, this, Result.andThen_ok, Sem.run_pure, add_mk, Nat.zero_add, Nat.mul_one]
   ·by_cases h0 : n - z.toNat = 0
    ·exact .inl h0
    ·exact .inr ⟨b, hob, by rw [if_neg (by omega)]⟩
theorem All2.convB {α : Type} {f g : α → VP} {w : World} {F F' : Blk} : ∀ {xs : List α} {vs : List Value}, (∀ x ∈ xs, ∀ v, (f x).h w F v → (g x).h w F' v) → All2 (xs.map f) w F vs → All2 (xs.map g) w F' vs
 | [], [], _, _ => trivial
 | [], _ :: _, _, h => h.elim
 | x :: xs, v :: vs, hc, h => ⟨hc x (by simp) v h.1, All2.convB (fun y hy => hc y (by simp [hy])) h.2⟩
 | _ :: _, [], _, h => h.elim
end
end Go.En
namespace Go.En
open Go.RowKit Go.Dt Go.Pz Go.Nt Go.Mz
section
variable {P : Program} {α : Type} {f : α → VP}
theorem CtrX.freeze {g : FuncId} {args : List VP} {ys : List α} (h : CtrX P g args [] (fun S M => ∃ gr : Gr α, S = isGr gr ys.length ∧ M = [grM f gr ys])) : Ctr P g args (SlM f ys) :=
 ⟨h.1, fun w F vs hF hargs => (h.2 w F vs hF ⟨List.Pairwise.nil, by simp⟩ hargs).mono (by
  rintro e w' ⟨v, S', M', F', rfl, ⟨gr, rfl, rfl⟩, hk, hsub, hnew, hv, _, heach⟩
  refine ⟨v, rfl, hk, ?_⟩
  rcases hv with ⟨h1, h2, rfl⟩ | ⟨b, hob, rfl, h1, h2⟩
  ·obtain rfl : ys = [] := List.eq_nil_of_length_eq_zero h2
   exact nilM _ _
  ·obtain ⟨g1, g2, g3, o, g4, us, T, rfl, hu⟩ := heach b (cellM ((ys ++ gr.sp).map f)) (by unfold grM; rw [hob]; simp)
   have hb : fresh F w w' b := by
    rcases g1 with g1 | g1
    ·exact .inr ⟨g1, g2⟩
    ·exact absurd g1 (by simp [blks])
   rw [List.map_append] at hu
   have hu2 := hu.take ys.length
   rw [List.take_left' (by simp)] at hu2
   refine ⟨_, _, rfl, by omega, h2, by simp, .inr ⟨b, 0, rfl, hb, us.take ys.length, All2.mono (fun _ _ => rfl) hnew _ _ hu2, fun j u hj => ?_⟩⟩
   rw [Nat.zero_add]
   have hj2 : j < ys.length := by
    rcases Nat.lt_or_ge j ys.length with h | h
    ·exact h
    ·rw [List.getElem?_take_eq_none h] at hj; cases hj
   rw [List.getElem?_take_of_lt hj2] at hj
   simp [World.cell?, g4, hj])⟩
end
theorem rtXND {E : Env} {P : Program} {Γ : Ctx} {M M' : Mem} {fn : Func} {rs : List ResultVar} {Rs : List VP} {R : VP → Mem → Prop} {W : List Nat} {e : Exit} (hs : M'.Sublist M) (he : e = .ret ∨ e = .normal) (hr : fn.results = rs.toArray) (hn : Nat.beq rs.length 1 = false) (hw : E.W = W) (h : ResL E P Γ M rs Rs) (hR : R (isTup Rs) M') : At E Γ M (bodyPost P fn (RetX E.w0 E.F0 W R)) e := by
 intro a w F s
 obtain ⟨vs, h1, h2⟩ := run_results hr h s
 have hl : Rs.length = rs.length := by
  clear h1 h2 s a w F vs hR
  clear hn hr
  induction h with
  | nil => rfl
  | tmp _ _ ih => simp [ih]
  | cell _ _ _ _ _ _ ih => simp [ih]
  | cell1 _ _ _ _ _ ih => simp [ih]
 have hne : vs.length ≠ 1 := by rw [← h2.len, hl]; exact Nat.ne_of_beq_eq_false hn
 rw [dif_neg hne] at h1
 exact fin_retXD (S := isTup Rs) hs he s hw h1 ⟨vs, rfl, h2⟩ hR
end Go.En
namespace Go.Proofs.YtcfobalbkhgdmaaGreat
open Go.En Go.RowKit
set_option maxRecDepth 10000
set_option maxHeartbeats 4000000
open Go.Nt
open Go.Pz
open Go.Mz
open Go.Hn
open Go.Hp
open Go.Dt
open Go.Ch
open Go.Mi
theorem zmat_madeX {R C : Nat} {f : Nat → Nat → Bool × List Nat} (hR : R ≤ 64) (hC : C ≤ 64) (hf : ∀ i k, i < R → k < C → (List.length (words (val (f i k).2))) ≤ 4294967296) : CtrX Tryz.prog 60 [isI (R : Int), isI (C : Int), isAt Tryz.prog R C f] ([]) (fun S M => ∃ g : Gr (Bool × List Nat), S = Flat [isI (R : Int), isI (C : Int), isGr g (R * C)] ∧ M = [grMK zc g ((tab (R * C) C fun i k => zv (f i k).1 (f i k).2).map nz)]) := by
 refine CtrX.intro Tryz.func60 rfl (by kernel_rfl) Tryz.ntmps60 rfl fun w0 F0 => .cv (Cv.wk (.l [0, 1, 2] rfl)) (.fact (Has.rngI (Has.t (t := 0) rfl)) fun lt0 => .fact (Has.rngI (Has.t (t := 1) rfl)) fun lt1 => ?_)
 have hRC := side_le hR hC
 obtain ⟨G, hG⟩ : ∃ G : Nat → Nat → Int, G = fun i k => zv (f i k).1 (f i k).2 := ⟨_, rfl⟩
 rw [← hG]
 refine .seq fun _ k1 => .region (.alloc [isI 0, isI 0, nilS] zero27 (fun _ _ => ⟨⟨rfl, by decide, by decide⟩, ⟨rfl, by decide, by decide⟩, rfl, trivial⟩) rfl fun b1 => nl (.thn (k1 _ _ (.seq fun _ k2 => .region (st (.mv (.t rfl)) rfl (st (.mv (.t rfl)) rfl (st (.build [isI 0, isI 0, nilS] pl27 zero27 (fun _ _ => ⟨⟨rfl, by decide, by decide⟩, ⟨rfl, by decide, by decide⟩, rfl, trivial⟩) (.cons (.t rfl) rfl rfl rfl (.cons (.t rfl) rfl rfl rfl .nil)) (Z'' := [_, _, _]) rfl) rfl (.alloc [isI 0, isI 0, nilS] zero27 (fun _ _ => ⟨⟨rfl, by decide, by decide⟩, ⟨rfl, by decide, by decide⟩, rfl, trivial⟩) rfl fun b2 => .store (.t rfl) (.t rfl) (i := 0) rfl ty27 rfl rfl (Ss' := [_, _, _]) rfl (M' := [(some _, cellM [_, _, _]), _]) rfl (nl (.thn (k2 _ _ (.seq fun _ k3 => .seq fun _ k4 => .cv (Cv.growF (Bool × List Nat) (i := 0) (o := 2) rfl rfl rfl) (.memEq (M' := [grMK zc Gr.nil [], _, _]) rfl (.region (st (.mv (.t rfl)) rfl (st (.mv (.cI 0 rfl)) rfl (nl (.thn (k4 _ _ (.block (.loopF [1, 2, 6, 7, 14] (fun (z : { z : Nat × Gr (Bool × List Nat) // z.1 ≤ R }) => match z with | ⟨(i, g), hI⟩ => [(15, isI (i : Int))]) (fun M => fun (z : { z : Nat × Gr (Bool × List Nat) // z.1 ≤ R }) => match z with | ⟨(i, g), hI⟩ => [grMK zc g ((tab (i * C + 0) C G).map nz), (some b2, cellM [isI (R : Int), isI (C : Int), isGr g ((tab (i * C + 0) C G).map nz).length]), (some b1, cellM [isI 0, isI 0, nilS])]) (fun (z : { z : Nat × Gr (Bool × List Nat) // z.1 ≤ R }) => match z with | ⟨(i, g), hI⟩ => R - i) (⟨(0, Gr.nil), Nat.zero_le _⟩) (Cv.mem (.c 15 rfl ?_ (.l [1, 2, 6, 7, 14] rfl)) ?_) ?_)))))))))))))))))))))
 ·rfl
 ·exact grF_eq (n := 0) (ys := []) (by rw [List.length_map, tab_len, Nat.zero_mul]) (show [] = (tab (0 * C + 0) C G).map nz by rw [Nat.zero_mul]; rfl)
 rintro ⟨⟨i, g⟩, hI⟩ K5 hK5
 refine .cv (Cv.wk (.l [15, 1, 2, 6, 7, 14] rfl)) (.memEq (M' := [grMK zc g ((tab (i * C + 0) C G).map nz), (some b2, cellM [isI (R : Int), isI (C : Int), isGr g ((tab (i * C + 0) C G).map nz).length]), (some b1, cellM [isI 0, isI 0, nilS])]) rfl ?_)
 simp only [] at hI
 refine .seq fun _ k6 => .region (st (.ltI (.t rfl) (.t rfl)) rfl (nl (.thn (k6 _ _ (.seq fun _ k7 => .cond (.t rfl) (fun hc1 => ?_) (fun hc1 => ?_))))))
 ·have hc1 := BP.t hc1
  refine .skip (.thn (k7 _ _ (.seq fun _ k8 => .block (.seq fun _ k9 => .region (st (.mv (.t rfl)) rfl (st (.as (.t rfl)) rfl (nl (.thn (k9 _ _ (.seq fun _ k10 => .region (st (.mv (.t rfl)) rfl (st (.mv (.cI 0 rfl)) rfl (nl (.thn (k10 _ _ (.block (.loopF [1, 2, 6, 7, 14, 15, 16, 17, 8, 18] (fun (z : { z : Nat × Gr (Bool × List Nat) // z.1 ≤ C }) => match z with | ⟨(k, g2), hK⟩ => [(19, isI (k : Int))]) (fun M => fun (z : { z : Nat × Gr (Bool × List Nat) // z.1 ≤ C }) => match z with | ⟨(k, g2), hK⟩ => [grMK zc g2 ((tab (i * C + k) C G).map nz), (some b2, cellM [isI (R : Int), isI (C : Int), isGr g2 ((tab (i * C + k) C G).map nz).length]), (some b1, cellM [isI 0, isI 0, nilS])]) (fun (z : { z : Nat × Gr (Bool × List Nat) // z.1 ≤ C }) => match z with | ⟨(k, g2), hK⟩ => C - k) (⟨(0, g), Nat.zero_le _⟩) (Cv.mem (.c 19 rfl ?_ (.l [1, 2, 6, 7, 14, 15, 16, 17, 8, 18] rfl)) ?_) ?_)))))))))))))))))
  ·rfl
  ·rfl
  rintro ⟨⟨k, g2⟩, hK⟩ K11 hK11
  refine .cv (Cv.wk (.l [19, 1, 2, 6, 7, 14, 15, 16, 17, 8, 18] rfl)) (.memEq (M' := [grMK zc g2 ((tab (i * C + k) C G).map nz), (some b2, cellM [isI (R : Int), isI (C : Int), isGr g2 ((tab (i * C + k) C G).map nz).length]), (some b1, cellM [isI 0, isI 0, nilS])]) rfl ?_)
  simp only [] at hK
  refine .seq fun _ k12 => .region (st (.ltI (.t rfl) (.t rfl)) rfl (nl (.thn (k12 _ _ (.seq fun _ k13 => .cond (.t rfl) (fun hc2 => ?_) (fun hc2 => ?_))))))
  ·have hc2 := BP.t hc2
   refine .skip (.thn (k13 _ _ (.seq fun _ k14 => .block (.seq fun _ k15 => .region (st (.mv (.t rfl)) rfl (st (.as (.t rfl)) rfl (nl (.thn (k15 _ _ (.seq fun _ k16 => .region (st (.mv (.t rfl)) rfl (st (.mv (.t rfl)) rfl (st (.mv (.t rfl)) rfl (st (.callV ⟨(i, k), by omega, by omega⟩ (.t rfl) (.cons (.t rfl) (.cons (.t rfl) .nil))) rfl (.alloc [isB false, SlM isU []] zero36 (fun _ _ => ⟨rfl, nilM _ _, trivial⟩) rfl fun b3 => .store (.t rfl) (.t rfl) (i := 0) rfl ty36 rfl rfl (Ss' := [_, _]) rfl (M' := [(some _, cellM [_, _]), _, _, _]) rfl (nl (.thn (k16 _ _ (.dr (.s [] rfl rfl rfl (.o rfl (.fieldAddr (.t rfl) fld27_2 ty22)) (.s [26] rfl rfl rfl (.o rfl (.load1 (.t rfl) (i := 2) rfl ty22 rfl)) (.s [] rfl rfl rfl (.o rfl (.fieldAddr (.t rfl) fld36_1 ty34)) (.s [28] rfl rfl rfl (.o rfl (.load1 (.t rfl) (i := 0) rfl ty34 rfl)) (.s [] rfl rfl rfl (.o rfl (.fieldAddr (.t rfl) fld36_0 ty4)) (.s [30] rfl rfl rfl (.o rfl (.load1 (.t rfl) (i := 0) rfl ty4 rfl)) (.s [29, 31] rfl rfl rfl (.o rfl (.eq (.call (zint_From (hf i k (by omega) (by omega))) (.cons (.t rfl) (.cons (.t rfl) .nil))) ((show isZ _ = Flat (zc (nz (G i k))) from isZ_eq (by rw [hG]))))) (.s [32] rfl rfl rfl (.o rfl (.buildS [isB false, SlM isU []] sl22 ty36 zero36 (fun _ _ => ⟨rfl, nilM _ _, trivial⟩) rfl rfl (.cons (.t rfl) rfl rfl rfl .nil) rfl (S := SlK 2 zc [nz (G i k)]) rfl)) (.fin (n := 8) mixed (by kernel_rfl) (by kernel_rfl) (by kernel_rfl) (.cv (Cv.wk (.l [1, 2, 6, 7, 14, 15, 16, 17, 8, 18, 19, 20, 21, 9, 22, 23, 24, 25, 10, 26, 27, 28, 29, 30, 31, 32, 33] rfl)) (.appendGK (fk := zc) (u := (false, [])) zc_len (by decide) (fun _ => inferInstance) sl22 ty36 zero36 (fun _ _ => ⟨rfl, nilM _ _, trivial⟩) by36 (.t rfl) (i := 1) rfl (.t rfl) (by have hpl := place_lt (show i < R by omega) (show k < C by omega); rw [List.length_map, tab_len]; show i * C + k + 1 ≤ _; omega) (by simp) rfl fun gr1 => ?_))))))))))))))))))))))))))))))
   refine .memEq (M' := [_, grMK _ _ _, _, _]) rfl (st (.fieldAddr (.t rfl) fld27_2 ty22) rfl (.store (.t rfl) (.t rfl) (i := 2) rfl ty22 rfl rfl (Ss' := [_, _, _]) rfl (M' := [_, _, (some _, cellM [_, _, _]), _]) rfl (nl (.bln (.thn (k14 _ _ (.region (st (.addI (.t rfl) (.cI 1 rfl) (by first | omega | assumption) (by first | omega | assumption)) rfl (st (.mv (.t rfl)) rfl (nl (.thn ?_)))))))))))
   have hpl := place_lt (show i < R by omega) (show k < C by omega)
   refine hK11 (⟨(k + 1, gr1), by show k + 1 ≤ C; omega⟩) _ _ ?_ (Cv.trans (Cv.drop ((.cons _ (.cons_cons _ (.cons_cons _ (.cons_cons _ .slnil)))))) (Cv.mem (.c 19 rfl ?_ (.l [1, 2, 6, 7, 14, 15, 16, 17, 8, 18] rfl)) ?_))
   ·show C - (k + 1) < C - k; omega
   ·exact isI_eq (by omega)
   ·exact grF_eq (by rw [← tab_succ G (show k < C by omega), List.map_append, List.length_append]; rfl) (by rw [← tab_succ G (show k < C by omega), List.map_append]; rfl)
  ·have hc2 := BP.f hc2
   refine .exit (.the (.the (.blh (.bln (.thn (k8 _ _ (.region (st (.addI (.t rfl) (.cI 1 rfl) (by first | omega | assumption) (by first | omega | assumption)) rfl (st (.mv (.t rfl)) rfl (nl (.thn ?_)))))))))))
   have hkC : k = C := by omega
   subst hkC
   refine hK5 (⟨(i + 1, g2), by show i + 1 ≤ R; omega⟩) _ _ ?_ (Cv.mem (.c 15 rfl ?_ (.l [1, 2, 6, 7, 14] rfl)) ?_)
   ·show R - (i + 1) < R - i; omega
   ·exact isI_eq (by omega)
   ·exact grF_eq (by rw [tab_next]) (by rw [tab_next])
 ·have hc1 := BP.f hc1
  refine .exit (.the (.the (.blh (.thn (k3 _ _ (.cv (Cv.wk (.l [6, 7] rfl)) (.seq fun _ k17 => .region (st (.load (.t rfl) (i := 1) rfl ty27 rfl (Ss' := [_, _, _]) rfl) rfl (.store (.t rfl) (.t rfl) (i := 2) rfl ty27 rfl rfl (Ss' := [_, _, _]) rfl (M' := [_, _, (some _, cellM [_, _, _])]) rfl (nl (.thn (k17 _ _ (.ret (rtX1D (.cons_cons _ (.cons _ (.cons _ .slnil))) (.inl rfl) Tryz.results60 rfl (.cell rfl (i := 2) rfl ty27 rfl rfl .nil) ?_))))))))))))))
  obtain rfl : i = R := by omega
  rw [Nat.add_zero]
  exact ⟨g, by rw [List.length_map, tab_len], rfl⟩
theorem zmat_NewX {n : Nat} (hn : n ≤ 64) : CtrX Tryz.prog 30 [isI (n : Int), isI (n : Int)] ([]) (fun S M => ∃ g : Gr (Bool × List Nat), S = isTup [Flat [isI (n : Int), isI (n : Int), isGr g (n * n)], isI 0] ∧ M = [grMK zc g ((zerL n).map nz)]) := by
 refine CtrX.intro Tryz.func30 rfl (by kernel_rfl) Tryz.ntmps30 rfl fun w0 F0 => .cv (Cv.wk (.l [0, 1] rfl)) (.fact (Has.rngI (Has.t (t := 0) rfl)) fun lt0 => .fact (Has.rngI (Has.t (t := 1) rfl)) fun lt1 => .seq fun _ k1 => .region (.alloc [isI 0, isI 0, nilS] zero27 (fun _ _ => ⟨⟨rfl, by decide, by decide⟩, ⟨rfl, by decide, by decide⟩, rfl, trivial⟩) rfl fun b1 => st (.as (.cI 0 rfl)) rfl (nl (.thn (k1 _ _ (.seq fun _ k2 => .seq fun _ k3 => .region (st (.mv (.t rfl)) rfl (st (.eq (.call (zmat_side) (.cons (.t rfl) .nil)) ((show isB _ = isB true from isB_eq (by simp; omega)))) rfl ?_))))))))
 refine st (.not (.t rfl)) rfl (st (.mv (.t rfl)) rfl (stF rfl rfl (fun hg => .mv (.t rfl)) rfl ?_))
 refine stF rfl rfl (fun hg => have hg' := BP.t hg; OK1.eq (.call (zmat_side) (.cons (Has.g rfl hg) .nil)) ((show isB _ = isB true from isB_eq (by simp; omega)))) rfl ?_
 refine stF rfl rfl (fun hg => .not (Has.g rfl hg)) rfl (st (.pickOr (.t rfl) (fun h => Has.g rfl (ng h))) rfl (nl (.thn (k3 _ _ (.cv (Cv.wk (.l [0, 1, 4, 5, 13] rfl)) (.cond (.t rfl) (fun hc1 => ?_) (fun hc1 => ?_)))))))
 ·have hc1 := BP.t hc1
  exfalso; simp at hc1
 ·have hc1 := BP.f hc1
  refine .skip (.thn (k2 _ _ (.seq fun _ k4 => .region (st (.mv (.t rfl)) rfl (st (.mv (.t rfl)) rfl ?_)))))
  refine .callX (zmat_madeX (f := fun _ _ => nz 0) hn hn (fun i k _ _ => by rw [val_words, Int.natAbs_zero, words_zero]; decide)) (List.Perm.refl _) (.cons (.t rfl) (.cons (.t rfl) (.cons (Has.fn (fun p => zmat_New_1)) .nil))) rfl ?_
  rintro _ _ ⟨gm, rfl, rfl⟩
  rw [zvz fun _ _ => 0]
  refine .memEq (M' := [grMK zc gm ((zerL n).map nz), _]) rfl (.store (.t rfl) (.t rfl) (i := 1) rfl ty27 rfl rfl (Ss' := [_, _, _]) rfl (M' := [_, (some _, cellM [_, _, _])]) rfl (st (.as (.cI 0 rfl)) rfl (nl (.thn (k4 _ _ (.cv (Cv.wk (.l [4, 5] rfl)) (.ret (rtXND (.cons_cons _ (.cons _ .slnil)) (.inl rfl) Tryz.results30 rfl rfl (.cell rfl (i := 1) rfl ty27 rfl rfl (.tmp (.t rfl) .nil)) (⟨gm, rfl, rfl⟩)))))))))
theorem zchar_mustG {r c e : Int} {k : Nat} {g : Gr (Bool × List Nat)} {ys : List (Bool × List Nat)} : CtrX Tryz.prog 29 [Flat [isI r, isI c, isGr g k], isI e] ([grMK zc g ys]) (fun S M => S = Flat [isI r, isI c, isGr g k] ∧ M = [grMK zc g ys]) := by
 refine CtrX.intro Tryz.func29 rfl (by kernel_rfl) Tryz.ntmps29 rfl fun w0 F0 => .cv (Cv.wk (.l [0, 1] rfl)) (.fact (Has.rngI (Has.t (t := 1) rfl)) fun lt1 => .seq fun _ k1 => .region (.box (.t rfl) rfl fun b1 => .alloc [isI 0, isI 0, nilS] zero27 (fun _ _ => ⟨⟨rfl, by decide, by decide⟩, ⟨rfl, by decide, by decide⟩, rfl, trivial⟩) rfl fun b2 => nl (.thn (k1 _ _ (.seq fun _ k2 => .region (st (.load (.t rfl) (i := 1) rfl ty27 rfl (Ss' := [_, _, _]) rfl) rfl (.store (.t rfl) (.t rfl) (i := 0) rfl ty27 rfl rfl (Ss' := [_, _, _]) rfl (M' := [(some _, cellM [_, _, _]), _, _]) rfl (nl (.thn (k2 _ _ (.ret (rtX1D (.cons _ (.cons _ (.cons_cons _ .slnil))) (.inl rfl) Tryz.results29 rfl (.cell rfl (i := 0) rfl ty27 rfl rfl .nil) (⟨rfl, rfl⟩)))))))))))))
end Go.Proofs.YtcfobalbkhgdmaaGreat
namespace Go.Proofs.YtcfobalbkhgdmaaGreat
open Go.En Go.RowKit
set_option maxRecDepth 10000
set_option maxHeartbeats 4000000
open Go.Nt
open Go.Pz
theorem zpoly_at {xs : List (Bool × List Nat)} {i : Nat} : Ctr Tryz.prog 54 [SlK 2 zc xs, isI (i : Int)] (Flat (zc (xs.getD i (false, [])))) := by
 refine Ctr.intro Tryz.func54 rfl (by kernel_rfl) Tryz.ntmps54 rfl fun w0 F0 => .cv (Cv.wk (.l [0, 1] rfl)) (.fact (Has.lenLt (Has.t (t := 0) rfl)) fun lt0 => .fact (Has.rngI (Has.t (t := 1) rfl)) fun lt1 => .seq fun _ k1 => .region (.alloc [isB false, SlM isU []] zero36 (fun _ _ => ⟨rfl, nilM _ _, trivial⟩) rfl fun b1 => nl (.thn (k1 _ _ (.seq fun _ k2 => .seq fun _ k3 => .region (st (.mv (.t rfl)) rfl (st (.mv (.t rfl)) rfl (st (.len sl23 (.t rfl)) rfl (st (.ltI (.t rfl) (.t rfl)) rfl (nl (.thn (k3 _ _ (.cond (.t rfl) (fun hc1 => ?_) (fun hc1 => ?_))))))))))))))
 ·have hc1 := BP.t hc1
  refine .seq fun _ k4 => .region (st (.mv (.t rfl)) rfl (st (.mv (.t rfl)) rfl (st (.ixK sl23 ty36 (.t rfl) (.t rfl) zc_len ⟨by omega, by omega⟩ (getD_some (d := (false, [])) (by omega))) rfl (st (.loadP (.t rfl) ty36 rfl (Ss' := [_, _]) rfl) rfl (.store (.t rfl) (.t rfl) (i := 0) rfl ty36 rfl rfl (Ss' := [_, _]) rfl (M' := [(some _, cellM [_, _])]) rfl (nl (.thn (k4 _ _ (.cv (Cv.wk (.l [4] rfl)) (.ret (.thr (rt1 (.inl rfl) Tryz.results54 rfl (.cell rfl (i := 0) rfl ty36 rfl ?_ .nil)))))))))))))
  all_goals (rfl)
 ·have hc1 := BP.f hc1
  refine .skip (.thn (k2 _ _ (.cv (Cv.wk (.l [4] rfl)) (.seq fun _ k5 => .region (st (.build [isB false, SlM isU []] pl36 zero36 (fun _ _ => ⟨rfl, nilM _ _, trivial⟩) .nil (Z'' := [_, _]) rfl) rfl (.store (.t rfl) (.t rfl) (i := 0) rfl ty36 rfl rfl (Ss' := [_, _]) rfl (M' := [(some _, cellM [_, _])]) rfl (nl (.thn (k5 _ _ (.ret (rt1 (.inl rfl) Tryz.results54 rfl (.cell rfl (i := 0) rfl ty36 rfl ?_ .nil))))))))))))
  all_goals (exact congrArg Flat (show zc (false, []) = _ by rw [List.getD, List.getElem?_eq_none (by omega)]; rfl))
theorem zpoly_Norm {xs : List (Bool × List Nat)} {K : Nat} (hx : Bd (vals xs) K) (hK : K ≤ 4000000000) (hn : xs.length ≤ 1000000) : Ctr Tryz.prog 28 [SlK 2 zc xs] (isP (pnorm (vals xs))) := by
 refine Ctr.intro Tryz.func28 rfl (by kernel_rfl) Tryz.ntmps28 rfl fun w0 F0 => .cv (Cv.wk (.l [0] rfl)) (.fact (Has.lenLt (Has.t (t := 0) rfl)) fun lt0 => .seq fun _ k1 => .region (st (.as (.cWK (k := 2) (fk := zc))) rfl (nl (.thn (k1 _ _ (.seq fun _ k2 => .region (st (.mv (.t rfl)) rfl (st (.len sl23 (.t rfl)) rfl (st (.as (.t rfl)) rfl (nl (.thn (k2 _ _ (.seq fun _ k3 => .block (.loopF [0, 2] (fun (z : { n : Nat // n ≤ xs.length ∧ ∀ i, n ≤ i → cf (vals xs) i = 0 }) => match z with | ⟨n, hI⟩ => [(3, isI (n : Int))]) (fun M => fun (z : { n : Nat // n ≤ xs.length ∧ ∀ i, n ≤ i → cf (vals xs) i = 0 }) => match z with | ⟨n, hI⟩ => M) (fun (z : { n : Nat // n ≤ xs.length ∧ ∀ i, n ≤ i → cf (vals xs) i = 0 }) => match z with | ⟨n, hI⟩ => n) (⟨xs.length, Nat.le_refl _, fun i hi => cf_high (by rw [vals_len]; exact hi)⟩) (Cv.mem (.c 3 rfl ?_ (.l [0, 2] rfl)) ?_) ?_))))))))))))))
 ·rfl
 ·rfl
 rintro ⟨n, hk, hz⟩ K4 hK4
 refine .cv (Cv.wk (.l [3, 0, 2] rfl)) ?_
 have ek : ((n : Int) - 1).toNat = n - 1 := by omega
 refine .seq fun _ k5 => .seq fun _ k6 => .region (st (.mv (.t rfl)) rfl (st (.gtI (.t rfl) (.cI 0 rfl)) rfl (st (.mv (.t rfl)) rfl (stT rfl rfl (fun hg => .mv (.t rfl)) rfl (stT rfl rfl (fun hg => .mv (.t rfl)) rfl ?_)))))
 refine stT rfl rfl (fun hg => have hg' := BP.t hg; OK1.subI (Has.g rfl hg) (.cI 1 rfl) (by omega) (by omega)) rfl ?_
 refine stT rfl rfl (fun hg => have hg' := BP.t hg; OK1.ixK sl23 ty36 (Has.g rfl hg) (Has.g rfl hg) zc_len ⟨by omega, by omega⟩ (getD_some (d := (false, [])) (by omega))) rfl ?_
 refine stT rfl rfl (fun hg => .loadP (Has.g rfl hg) ty36 rfl (Ss' := [_, _]) rfl) rfl ?_
 refine stT rfl rfl (fun hg => have hg' := BP.t hg; OK1.call (zint_Sign (by have := hx.raw ((n : Int) - 1).toNat; omega)) (.cons (Has.g rfl hg) .nil)) rfl ?_
 refine stT rfl rfl (fun hg => .eqI (Has.g rfl hg) (.cI 0 rfl)) rfl (st (.pickAnd (.t rfl) (fun h => Has.g rfl h)) rfl (nl (.thn (k6 _ _ (.cond (.t rfl) (fun hc1 => ?_) (fun hc1 => ?_))))))
 ·have hc1 := BP.t hc1
  have HA1 := hc1
  refine .skip (.thn (k5 _ _ (.block (.region (st (.mv (.t rfl)) rfl (st (.subI (.t rfl) (.cI 1 rfl) (by omega) (by omega)) rfl (st (.as (.t rfl)) rfl (nl (.bln (.thn ?_))))))))))
  refine hK4 (⟨n - 1, by omega, fun i hi => by rcases Nat.lt_or_ge i n with h | h; (have e : i = n - 1 := by omega); (have := (sgn_eq0 _).1 HA1.2; rw [← cf_vals, ek] at this; rw [e]; exact this); exact hz i h⟩) _ _ ?_ (Cv.mem (.c 3 rfl ?_ (.l [0, 2] rfl)) ?_)
  ·show n - 1 < n; omega
  ·exact isI_eq (by omega)
  ·rfl
 ·have hc1 := BP.f hc1
  have HA2 := hc1
  refine .exit (.the (.the (.blh (.thn (k3 _ _ (.cv (Cv.wk (.l [0, 2, 3] rfl)) (.seq fun _ k7 => .region (.cv (Cv.grow0K (α := Bool × List Nat) zc) (st (.as (Has.cGr (α := Bool × List Nat))) rfl (nl (.thn (k7 _ _ (.seq fun _ k8 => .seq fun _ k9 => .region (st (.mv (.t rfl)) rfl (st (.mv (.t rfl)) rfl (st (.slHK sl23 ty36 zc_len (.t rfl) (.t rfl) ⟨by omega, by omega⟩) rfl (st (.len sl23 (.t rfl)) rfl (st (.mv (.cI 0 rfl)) rfl (nl (.thn (k9 _ _ (.block (.loopF [2, 24, 25] (fun (z : { z : Nat × Gr (Bool × List Nat) // z.1 ≤ n }) => match z with | ⟨(i, g), hI⟩ => [(26, isI (i : Int)), (4, isGr g (((vals xs).take i).map nz).length)]) (fun M => fun (z : { z : Nat × Gr (Bool × List Nat) // z.1 ≤ n }) => match z with | ⟨(i, g), hI⟩ => [grMK zc g (((vals xs).take i).map nz)]) (fun (z : { z : Nat × Gr (Bool × List Nat) // z.1 ≤ n }) => match z with | ⟨(i, g), hI⟩ => n - i) (⟨(0, Gr.nil), Nat.zero_le _⟩) (Cv.mem (.c 26 rfl ?_ (.c 4 rfl ?_ (.l [2, 24, 25] rfl))) ?_) ?_)))))))))))))))))))))))
  ·rfl
  ·rfl
  ·rfl
  rintro ⟨⟨i, g⟩, hI⟩ K10 hK10
  refine .cv (Cv.wk (.l [26, 4, 2, 24, 25] rfl)) (.memEq (M' := [grMK zc g (((vals xs).take i).map nz)]) rfl ?_)
  simp only [] at hI
  have htl : (xs.take ((n : Int)).toNat).length = n := by rw [Int.toNat_natCast, List.length_take]; omega
  have hvl := vals_len xs
  have hyl : (((vals xs).take i).map nz).length = i := by rw [List.length_map, List.length_take]; omega
  refine .seq fun _ k11 => .region (st (.ltI (.t rfl) (.t rfl)) rfl (nl (.thn (k11 _ _ (.seq fun _ k12 => .cond (.t rfl) (fun hc2 => ?_) (fun hc2 => ?_))))))
  ·have hc2 := BP.t hc2
   refine .skip (.thn (k12 _ _ (.seq fun _ k13 => .block (.seq fun _ k14 => .region (st (.ixK sl23 ty36 (.t rfl) (.t rfl) zc_len ⟨by omega, by omega⟩ (getD_some (d := (false, [])) (by omega))) rfl (st (.loadP (.t rfl) ty36 rfl (Ss' := [_, _]) rfl) rfl (.alloc [isB false, SlM isU []] zero36 (fun _ _ => ⟨rfl, nilM _ _, trivial⟩) rfl fun b1 => .store (.t rfl) (.t rfl) (i := 0) rfl ty36 rfl rfl (Ss' := [_, _]) rfl (M' := [(some _, cellM [_, _]), _]) rfl (nl (.thn (k14 _ _ (.region (st (.mv (.t rfl)) rfl (st (.fieldAddr (.t rfl) fld36_1 ty34) rfl (st (.load1 (.t rfl) (i := 0) rfl ty34 rfl) rfl (st (.fieldAddr (.t rfl) fld36_0 ty4) rfl (st (.load1 (.t rfl) (i := 0) rfl ty4 rfl) rfl (st (.eq (.call (zint_From (by simp only [Int.toNat_natCast]; rw [getD_takeZ (by omega)]; have := hx.raw i; omega)) (.cons (.t rfl) (.cons (.t rfl) .nil))) ((show isZ _ = Flat (zc (nz (cf (vals xs) i))) from isZ_eq (by rw [cf_vals]; simp only [Int.toNat_natCast]; rw [getD_takeZ (by omega)])))) rfl ?_)))))))))))))))))
   refine st (.buildS [isB false, SlM isU []] sl23 ty36 zero36 (fun _ _ => ⟨rfl, nilM _ _, trivial⟩) rfl rfl (.cons (.t rfl) rfl rfl rfl .nil) rfl (S := SlK 2 zc [nz (cf (vals xs) i)]) rfl) rfl (.appendGK (fk := zc) (u := (false, [])) zc_len (by decide) (fun _ => inferInstance) sl23 ty36 zero36 (fun _ _ => ⟨rfl, nilM _ _, trivial⟩) by36 (.t rfl) (i := 1) rfl (.t rfl) (by rw [hyl]; show i + 1 ≤ _; omega) (by simp) rfl fun gr1 => ?_)
   refine .memEq (M' := [_, grMK _ _ _]) rfl (st (.as (.t rfl)) rfl (nl (.bln (.thn (k13 _ _ (.region (st (.addI (.t rfl) (.cI 1 rfl) (by omega) (by omega)) rfl (st (.mv (.t rfl)) rfl (nl (.thn ?_))))))))))
   refine hK10 (⟨(i + 1, gr1), by show i + 1 ≤ _; omega⟩) _ _ ?_ (Cv.trans (Cv.drop ((.cons _ (.cons_cons _ .slnil)))) (Cv.mem (.c 26 rfl ?_ (.c 4 rfl ?_ (.l [2, 24, 25] rfl))) ?_))
   ·show n - (i + 1) < n - i; omega
   ·exact isI_eq (by omega)
   ·exact isGr_eq (by rw [← take_map_succ _ _ (by omega), List.length_append])
   ·exact grMK_eq (take_map_succ _ _ (by omega))
  ·have hc2 := BP.f hc2
   refine .exit (.the (.the (.blh (.thn (k8 _ _ (.seq fun _ k15 => .cv (Cv.freezeGK (t := 4) (i := 0) (ys := ((vals xs).take i).map nz) zc_len rfl rfl rfl) (.memEq (M' := []) rfl (.cv (Cv.wk (.l [2, 24, 25, 26, 4, 27] rfl)) (.region (st (.mv (.t rfl)) rfl (st (.as (.t rfl)) rfl (nl (.thn (k15 _ _ (.cv (Cv.wk (.l [2] rfl)) (.ret (rt1 (.inl rfl) Tryz.results28 rfl (.tmp (Has.t' rfl ?_) .nil))))))))))))))))))
   all_goals (exact isP_eq (by obtain rfl : i = n := (by omega); exact take_norm (by rcases HA2 with h | h; left; omega; right; rw [cf_vals, ← ek]; exact fun e => h ((sgn_eq0 _).2 e)) hz))
theorem zpoly_Degree {xs : List (Bool × List Nat)} {K : Nat} (hx : Bd (vals xs) K) (hK : K ≤ 4000000000) (hn : xs.length ≤ 1000000) : Ctr Tryz.prog 8 [SlK 2 zc xs] (isI (((pnorm (vals xs)).length : Int) - 1)) := by
 refine Ctr.intro Tryz.func8 rfl (by kernel_rfl) Tryz.ntmps8 rfl fun w0 F0 => .cv (Cv.wk (.l [0] rfl)) (.fact (Has.lenLt (Has.t (t := 0) rfl)) fun lt0 => ?_)
 have hnl := norm_len (vals xs)
 rw [vals_len] at hnl
 refine .seq fun _ k1 => .region (st (.as (.cI 0 rfl)) rfl (nl (.thn (k1 _ _ (.seq fun _ k2 => .region (st (.mv (.t rfl)) rfl (st (.call (zpoly_Norm hx hK hn) (.cons (.t rfl) .nil)) rfl (st (.eq (.len sl23 (.t rfl)) ((show isI _ = isI ((pnorm (vals xs)).length : Int) from isI_eq (by rw [List.length_map])))) rfl (st (.subI (.t rfl) (.cI 1 rfl) (by omega) (by omega)) rfl (st (.as (.t rfl)) rfl (nl (.thn (k2 _ _ (.cv (Cv.wk (.l [2] rfl)) (.ret (rt1 (.inl rfl) Tryz.results8 rfl (.tmp (Has.t' rfl ?_) .nil)))))))))))))))))
 all_goals (rfl)
end Go.Proofs.YtcfobalbkhgdmaaGreat
namespace Go.Proofs.YtcfobalbkhgdmaaGreat
open Go.En Go.RowKit
set_option maxRecDepth 10000
set_option maxHeartbeats 4000000
open Go.Nt
open Go.Pz
open Go.Mz
open Go.Hn
open Go.Hp
open Go.Dt
open Go.Ch
open Go.Mi
theorem zchar_Companion {K n : Nat} {xs : List (Bool × List Nat)} {qs : List Int} (hx : Bd (vals xs) K) (hK : K ≤ 1000) (hxl : xs.length ≤ 1000) (hq : pnorm (vals xs) = qs) (hn : qs.length = n + 1) (h1 : cf qs n = 1) (hn64 : n ≤ 64) : Ctr Tryz.prog 7 [SlK 2 zc xs] (isTup [isMz n n (cmL n qs), isI 0]) := by
 refine Ctr.intro Tryz.func7 rfl (by kernel_rfl) Tryz.ntmps7 rfl fun w0 F0 => .cv (Cv.wk (.l [0] rfl)) (.fact (Has.lenLt (Has.t (t := 0) rfl)) fun lt0 => ?_)
 have h11 : (List.length (words (1 : Int).natAbs)) ≤ 1 := nw_small' (by decide)
 have hRC := side_le hn64 hn64
 have hqb : Bd qs K := by rw [← hq]; exact hx.norm
 have hql : (qs.map nz).length = n + 1 := by rw [List.length_map, hn]
 have h1w : (List.length (words (cf qs n).natAbs)) ≤ 1 := by rw [h1]; exact nw_small' (by decide)
 refine .seq fun _ k1 => .region (.alloc [isI 0, isI 0, nilS] zero27 (fun _ _ => ⟨⟨rfl, by decide, by decide⟩, ⟨rfl, by decide, by decide⟩, rfl, trivial⟩) rfl fun b1 => st (.as (.cI 0 rfl)) rfl (nl (.thn (k1 _ _ (.seq fun _ k2 => .region (st (.mv (.t rfl)) rfl (st (.eq (.call (zpoly_Norm hx (by omega) (by omega)) (.cons (.t rfl) .nil)) ((show isP _ = isP qs from isP_eq hq))) rfl (st (.as (.t rfl)) rfl (nl (.thn (k2 _ _ (.seq fun _ k3 => .region (st (.mv (.t rfl)) rfl (st (.eq (.len sl23 (.t rfl)) ((show isI _ = isI ((n + 1 : Nat) : Int) from isI_eq (by rw [hql])))) rfl (st (.eq (.subI (.t rfl) (.cI 1 rfl) (by first | omega | assumption) (by first | omega | assumption)) ((show isI _ = isI (n : Int) from isI_eq (by omega)))) rfl (st (.as (.t rfl)) rfl (nl (.thn (k3 _ _ (.cv (Cv.wk (.l [0, 2, 3, 4] rfl)) (.seq fun _ k4 => .block (.seq fun _ k5 => .dr (.s [] rfl rfl rfl (.o rfl (.mv (.t rfl))) (.s [13] rfl rfl rfl (.o rfl (.ltI (.t rfl) (.cI 0 rfl))) (.s [14] rfl rfl rfl (.o rfl (.mv (.t rfl))) (.s [15] rfl rfl rfl (.F rfl rfl rfl (fun hg => .mv (.t rfl))) (.s [15] rfl rfl rfl (.F rfl rfl rfl (fun hg => .mv (.t rfl))) ?_)))))))))))))))))))))))))))
 refine .s [15, 16, 17] rfl rfl rfl (.F rfl rfl rfl (fun hg => have hg' := BP.t hg; OK1.ixK sl23 ty36 (Has.g rfl hg) (Has.g rfl hg) zc_len ⟨by omega, by omega⟩ (getZ (l := qs) (i := n) (by omega)))) ?_
 refine .s [15, 18] rfl rfl rfl (.F rfl rfl rfl (fun hg => .loadP (Has.g rfl hg) ty36 rfl (Ss' := [_, _]) rfl)) (.s [15] rfl rfl rfl (.F rfl rfl rfl (fun hg => .call (zint_Of) (.cons (.cI 1 rfl) .nil))) (.fin (n := 8) mixed (by kernel_rfl) (by kernel_rfl) (by kernel_rfl) (.cv (Cv.wk (.l [0, 2, 3, 4, 15, 19, 20] rfl)) ?_)))
 refine stF rfl rfl (fun hg => have hg' := BP.t hg; OK1.eq (.call (zint_Same (by rw [val_words]; omega) (by rw [val_words]; omega)) (.cons (Has.g rfl hg) (.cons (Has.g rfl hg) .nil))) ((show isB _ = isB true from isB_eq (decide_eq_true (by simp only [zv_nz, zv_nf]; exact h1))))) rfl ?_
 refine stF rfl rfl (fun hg => .not (Has.g rfl hg)) rfl (st (.pickOr (.t rfl) (fun h => Has.g rfl (ng h))) rfl (st (.as (.t rfl)) rfl (nl (.thn (k5 _ _ (.cv (Cv.wk (.l [0, 2, 3, 4, 12] rfl)) (.cond (.t rfl) (fun hc1 => ?_) (fun hc1 => ?_))))))))
 ·have hc1 := BP.t hc1
  exfalso; simp at hc1; omega
 ·have hc1 := BP.f hc1
  refine .seq fun _ k6 => .region (st (.mv (.t rfl)) rfl (st (.gtI (.t rfl) (.cI 64 rfl)) rfl (st (.as (.t rfl)) rfl (nl (.thn (k6 _ _ (.cond (.t rfl) (fun hc2 => ?_) (fun hc2 => ?_))))))))
  ·have hc2 := BP.t hc2
   exfalso; omega
  ·have hc2 := BP.f hc2
   refine .skip (.bln (.thn (k4 _ _ (.seq fun _ k7 => .region (st (.mv (.t rfl)) rfl (st (.mv (.t rfl)) rfl (.callX (zmat_NewX hn64) (List.Perm.refl _) (.cons (.t rfl) (.cons (.t rfl) .nil)) rfl ?_)))))))
   rintro _ _ ⟨gm, rfl, rfl⟩
   refine .memEq (M' := [grMK zc gm ((zerL n).map nz), _]) rfl (st (.ext (.t rfl) rfl) rfl (st (.ext (.t rfl) rfl) rfl (.callX (zchar_mustG (g := gm) (k := n * n) (ys := (zerL n).map nz)) (List.Perm.refl _) (.cons (.t rfl) (.cons (.t rfl) .nil)) rfl ?_)))
   rintro _ _ ⟨rfl, rfl⟩
   refine .memEq (M' := [grMK zc gm ((zerL n).map nz), _]) rfl (.alloc [isI 0, isI 0, nilS] zero27 (fun _ _ => ⟨⟨rfl, by decide, by decide⟩, ⟨rfl, by decide, by decide⟩, rfl, trivial⟩) rfl fun b2 => .store (.t rfl) (.t rfl) (i := 0) rfl ty27 rfl rfl (Ss' := [_, _, _]) rfl (M' := [(some _, cellM [_, _, _]), _, _]) rfl (nl (.thn (k7 _ _ (.cv (Cv.wk (.l [0, 2, 3, 4, 5] rfl)) (.seq fun _ k8 => .seq fun _ k9 => .region (st (.mv (.t rfl)) rfl (st (.mv (.cI 0 rfl)) rfl (nl (.thn (k9 _ _ (.block (.loopF [0, 2, 3, 4, 5, 35] (fun (z : { i : Nat // i ≤ n }) => match z with | ⟨i, hI⟩ => [(36, isI (i : Int))]) (fun M => fun (z : { i : Nat // i ≤ n }) => match z with | ⟨i, hI⟩ => [(some b2, cellM [isI (n : Int), isI (n : Int), isGr gm (n * n)]), grMK zc gm ((cmS n qs i).map nz), (some b1, cellM [isI 0, isI 0, nilS])]) (fun (z : { i : Nat // i ≤ n }) => match z with | ⟨i, hI⟩ => n - i) (⟨0, Nat.zero_le _⟩) (Cv.mem (.c 36 rfl ?_ (.l [0, 2, 3, 4, 5, 35] rfl)) ?_) ?_)))))))))))))
   ·rfl
   ·rfl
   rintro ⟨i, hI⟩ K10 hK10
   refine .cv (Cv.wk (.l [36, 0, 2, 3, 4, 5, 35] rfl)) (.memEq (M' := [(some b2, cellM [isI (n : Int), isI (n : Int), isGr gm (n * n)]), grMK zc gm ((cmS n qs i).map nz), (some b1, cellM [isI 0, isI 0, nilS])]) rfl (.seq fun _ k11 => .region (st (.ltI (.t rfl) (.t rfl)) rfl (nl (.thn (k11 _ _ (.seq fun _ k12 => .cond (.t rfl) (fun hc3 => ?_) (fun hc3 => ?_))))))))
   ·have hc3 := BP.t hc3
    have hin : i < n := (by omega)
    have hpl := place_lt hin (show n - 1 < n by omega)
    have hmn : i * n + n ≤ n * n := by have := Nat.mul_le_mul_right n (show i + 1 ≤ n by omega); rw [Nat.succ_mul] at this; exact this
    refine .skip (.thn (k12 _ _ (.seq fun _ k13 => .block (.seq fun _ k14 => .region (st (.mv (.t rfl)) rfl (st (.as (.t rfl)) rfl (nl (.thn (k14 _ _ (.seq fun _ k15 => .seq fun _ k16 => .region (st (.mv (.t rfl)) rfl (st (.gtI (.t rfl) (.cI 0 rfl)) rfl (nl (.thn (k16 _ _ (.cond (.t rfl) (fun hc4 => ?_) (fun hc4 => ?_)))))))))))))))))
    ·have hc4 := BP.t hc4
     skip
     refine .dr (.s [] rfl rfl rfl (.o rfl (.fieldAddr (.t rfl) fld27_2 ty22)) (.s [41] rfl rfl rfl (.o rfl (.load1 (.t rfl) (i := 0) rfl ty22 rfl)) (.s [] rfl rfl rfl (.o rfl (.mv (.t rfl))) (.s [] rfl rfl rfl (.o rfl (.mv (.t rfl))) (.s [43, 44] rfl rfl rfl (.o rfl (.eq (.mulI (.t rfl) (.t rfl) (by first | omega | assumption) (by first | omega | assumption)) ((show isI _ = isI ((i * n : Nat) : Int) from isI_eq (Int.natCast_mul i n).symm)))) (.s [] rfl rfl rfl (.o rfl (.mv (.t rfl))) (.s [45, 46] rfl rfl rfl (.o rfl (.addI (.t rfl) (.t rfl) (by first | omega | assumption) (by first | omega | assumption))) (.s [47] rfl rfl rfl (.o rfl (.eq (.subI (.t rfl) (.cI 1 rfl) (by first | omega | assumption) (by first | omega | assumption)) ((show isI _ = isI ((i * n + (i - 1) : Nat) : Int) from isI_eq (by omega))))) (.s [] rfl rfl rfl (.o rfl (.eq (.call (zint_Of) (.cons (.cI 1 rfl) .nil)) ((show isZ _ = Flat (zc (nz 1)) from rfl)))) (.fin (n := 9) mixed (by kernel_rfl) (by kernel_rfl) (by kernel_rfl) (.cv (Cv.wk (.l [0, 2, 3, 4, 5, 35, 36, 37, 38, 6, 39, 40, 41, 42, 43, 44, 45, 46, 47, 48, 49] rfl)) (st (.ixGr sl22 ty36 (.t rfl) (.t rfl) ⟨by omega, by omega⟩) rfl (.storeGK (z := nz 1) zc_len (.t rfl) (.t rfl) (i := 1) rfl ty36 (by simp only [Int.toNat_natCast, List.length_map, cmS_len]; omega) (M' := [_, grMK _ _ _, _]) rfl ?_)))))))))))))
     refine nl (.thn (k15 _ _ (.memEq (M' := [(some b2, cellM [isI (n : Int), isI (n : Int), isGr gm (n * n)]), grMK zc gm ((cmT n qs i).map nz), (some b1, cellM [isI 0, isI 0, nilS])]) (memC_eq (by unfold cmT; rw [if_pos (by omega), List.map_set]; rfl)) ?_)))
     refine .dr (.s [] rfl rfl rfl (.o rfl (.fieldAddr (.t rfl) fld27_2 ty22)) (.s [51] rfl rfl rfl (.o rfl (.load1 (.t rfl) (i := 0) rfl ty22 rfl)) (.s [] rfl rfl rfl (.o rfl (.mv (.t rfl))) (.s [] rfl rfl rfl (.o rfl (.mv (.t rfl))) (.s [53, 54] rfl rfl rfl (.o rfl (.eq (.mulI (.t rfl) (.t rfl) (by first | omega | assumption) (by first | omega | assumption)) ((show isI _ = isI ((i * n : Nat) : Int) from isI_eq (Int.natCast_mul i n).symm)))) (.s [] rfl rfl rfl (.o rfl (.mv (.t rfl))) (.s [55, 56] rfl rfl rfl (.o rfl (.addI (.t rfl) (.t rfl) (by first | omega | assumption) (by first | omega | assumption))) (.s [57] rfl rfl rfl (.o rfl (.eq (.subI (.t rfl) (.cI 1 rfl) (by first | omega | assumption) (by first | omega | assumption)) ((show isI _ = isI ((i * n + (n - 1) : Nat) : Int) from isI_eq (by omega))))) (.s [] rfl rfl rfl (.o rfl (.fieldAddr (.t rfl) fld27_2 ty22)) (.s [59] rfl rfl rfl (.o rfl (.load1 (.t rfl) (i := 0) rfl ty22 rfl)) (.s [] rfl rfl rfl (.o rfl (.mv (.t rfl))) (.s [] rfl rfl rfl (.o rfl (.mv (.t rfl))) (.s [61, 62] rfl rfl rfl (.o rfl (.eq (.mulI (.t rfl) (.t rfl) (by first | omega | assumption) (by first | omega | assumption)) ((show isI _ = isI ((i * n : Nat) : Int) from isI_eq (Int.natCast_mul i n).symm)))) (.s [] rfl rfl rfl (.o rfl (.mv (.t rfl))) (.s [63, 64] rfl rfl rfl (.o rfl (.addI (.t rfl) (.t rfl) (by first | omega | assumption) (by first | omega | assumption))) (.s [65] rfl rfl rfl (.o rfl (.eq (.subI (.t rfl) (.cI 1 rfl) (by first | omega | assumption) (by first | omega | assumption)) ((show isI _ = isI ((i * n + (n - 1) : Nat) : Int) from isI_eq (by omega))))) (.s [60, 66] rfl rfl rfl (.o rfl (.ixGr sl22 ty36 (.t rfl) (.t rfl) ⟨by omega, by omega⟩)) ?_)))))))))))))))))
     refine .s [67] rfl rfl rfl (.o rfl (.loadGK zc_len (.t rfl) (i := 1) rfl ty36 (getZ (l := cmT n qs i) (i := i * n + (n - 1)) (by rw [cmT_len]; omega)))) ?_
     refine .s [] rfl rfl rfl (.o rfl (.mv (.t rfl))) (.s [] rfl rfl rfl (.o rfl (.mv (.t rfl))) (.s [69, 70] rfl rfl rfl (.o rfl (.ixK sl23 ty36 (.t rfl) (.t rfl) zc_len ⟨by omega, by omega⟩ (getZ (i := i) (by omega)))) (.s [71] rfl rfl rfl (.o rfl (.loadP (.t rfl) ty36 rfl (Ss' := [_, _]) rfl)) (.s [68, 72] rfl rfl rfl (.o rfl (.eq (.call (zint_Sub (by rw [val_words]; have := cmT_nw (q := qs) hin; omega) (by rw [val_words]; have := hqb i; omega)) (.cons (.t rfl) (.cons (.t rfl) .nil))) ((show isZ _ = Flat (zc (nz (cf (cmT n qs i) (i * n + (n - 1)) - cf qs i))) from isZ_eq (by simp only [zv_nz, zv_nf]))))) ?_))))
     refine .fin (n := 23) mixed (by kernel_rfl) (by kernel_rfl) (by kernel_rfl) (.cv (Cv.wk (.l [0, 2, 3, 4, 5, 35, 36, 37, 38, 6, 39, 40, 41, 42, 43, 44, 45, 46, 47, 48, 49, 50, 51, 52, 53, 54, 55, 56, 57, 58, 59, 60, 61, 62, 63, 64, 65, 66, 67, 68, 69, 70, 71, 72, 73] rfl)) (st (.ixGr sl22 ty36 (.t rfl) (.t rfl) ⟨by omega, by omega⟩) rfl (.storeGK (z := nz (cf (cmT n qs i) (i * n + (n - 1)) - cf qs i)) zc_len (.t rfl) (.t rfl) (i := 1) rfl ty36 (by simp only [Int.toNat_natCast, List.length_map, cmT_len]; omega) (M' := [_, grMK _ _ _, _]) rfl ?_)))
     refine nl (.bln (.thn (k13 _ _ (.region (st (.addI (.t rfl) (.cI 1 rfl) (by first | omega | assumption) (by first | omega | assumption)) rfl (st (.mv (.t rfl)) rfl (nl (.thn (hK10 (⟨i + 1, by omega⟩) _ _ ?_ (Cv.mem (.c 36 rfl ?_ (.l [0, 2, 3, 4, 5, 35] rfl)) ?_))))))))))
     ·show n - (i + 1) < n - i; omega
     ·exact isI_eq (by omega)
     ·exact memC_eq (by rw [← cmS_next hin, List.map_set]; rfl)
    ·have hc4 := BP.f hc4
     skip
     refine .skip (.thn (k15 _ _ (.memEq (M' := [(some b2, cellM [isI (n : Int), isI (n : Int), isGr gm (n * n)]), grMK zc gm ((cmT n qs i).map nz), (some b1, cellM [isI 0, isI 0, nilS])]) (memC_eq (by unfold cmT; rw [if_neg (by omega)])) ?_)))
     refine .dr (.s [] rfl rfl rfl (.o rfl (.fieldAddr (.t rfl) fld27_2 ty22)) (.s [51] rfl rfl rfl (.o rfl (.load1 (.t rfl) (i := 0) rfl ty22 rfl)) (.s [] rfl rfl rfl (.o rfl (.mv (.t rfl))) (.s [] rfl rfl rfl (.o rfl (.mv (.t rfl))) (.s [53, 54] rfl rfl rfl (.o rfl (.eq (.mulI (.t rfl) (.t rfl) (by first | omega | assumption) (by first | omega | assumption)) ((show isI _ = isI ((i * n : Nat) : Int) from isI_eq (Int.natCast_mul i n).symm)))) (.s [] rfl rfl rfl (.o rfl (.mv (.t rfl))) (.s [55, 56] rfl rfl rfl (.o rfl (.addI (.t rfl) (.t rfl) (by first | omega | assumption) (by first | omega | assumption))) (.s [57] rfl rfl rfl (.o rfl (.eq (.subI (.t rfl) (.cI 1 rfl) (by first | omega | assumption) (by first | omega | assumption)) ((show isI _ = isI ((i * n + (n - 1) : Nat) : Int) from isI_eq (by omega))))) (.s [] rfl rfl rfl (.o rfl (.fieldAddr (.t rfl) fld27_2 ty22)) (.s [59] rfl rfl rfl (.o rfl (.load1 (.t rfl) (i := 0) rfl ty22 rfl)) (.s [] rfl rfl rfl (.o rfl (.mv (.t rfl))) (.s [] rfl rfl rfl (.o rfl (.mv (.t rfl))) (.s [61, 62] rfl rfl rfl (.o rfl (.eq (.mulI (.t rfl) (.t rfl) (by first | omega | assumption) (by first | omega | assumption)) ((show isI _ = isI ((i * n : Nat) : Int) from isI_eq (Int.natCast_mul i n).symm)))) (.s [] rfl rfl rfl (.o rfl (.mv (.t rfl))) (.s [63, 64] rfl rfl rfl (.o rfl (.addI (.t rfl) (.t rfl) (by first | omega | assumption) (by first | omega | assumption))) (.s [65] rfl rfl rfl (.o rfl (.eq (.subI (.t rfl) (.cI 1 rfl) (by first | omega | assumption) (by first | omega | assumption)) ((show isI _ = isI ((i * n + (n - 1) : Nat) : Int) from isI_eq (by omega))))) (.s [60, 66] rfl rfl rfl (.o rfl (.ixGr sl22 ty36 (.t rfl) (.t rfl) ⟨by omega, by omega⟩)) ?_)))))))))))))))))
     refine .s [67] rfl rfl rfl (.o rfl (.loadGK zc_len (.t rfl) (i := 1) rfl ty36 (getZ (l := cmT n qs i) (i := i * n + (n - 1)) (by rw [cmT_len]; omega)))) ?_
     refine .s [] rfl rfl rfl (.o rfl (.mv (.t rfl))) (.s [] rfl rfl rfl (.o rfl (.mv (.t rfl))) (.s [69, 70] rfl rfl rfl (.o rfl (.ixK sl23 ty36 (.t rfl) (.t rfl) zc_len ⟨by omega, by omega⟩ (getZ (i := i) (by omega)))) (.s [71] rfl rfl rfl (.o rfl (.loadP (.t rfl) ty36 rfl (Ss' := [_, _]) rfl)) (.s [68, 72] rfl rfl rfl (.o rfl (.eq (.call (zint_Sub (by rw [val_words]; have := cmT_nw (q := qs) hin; omega) (by rw [val_words]; have := hqb i; omega)) (.cons (.t rfl) (.cons (.t rfl) .nil))) ((show isZ _ = Flat (zc (nz (cf (cmT n qs i) (i * n + (n - 1)) - cf qs i))) from isZ_eq (by simp only [zv_nz, zv_nf]))))) ?_))))
     refine .fin (n := 23) mixed (by kernel_rfl) (by kernel_rfl) (by kernel_rfl) (.cv (Cv.wk (.l [0, 2, 3, 4, 5, 35, 36, 37, 38, 6, 39, 40, 51, 52, 53, 54, 55, 56, 57, 58, 59, 60, 61, 62, 63, 64, 65, 66, 67, 68, 69, 70, 71, 72, 73] rfl)) (st (.ixGr sl22 ty36 (.t rfl) (.t rfl) ⟨by omega, by omega⟩) rfl (.storeGK (z := nz (cf (cmT n qs i) (i * n + (n - 1)) - cf qs i)) zc_len (.t rfl) (.t rfl) (i := 1) rfl ty36 (by simp only [Int.toNat_natCast, List.length_map, cmT_len]; omega) (M' := [_, grMK _ _ _, _]) rfl ?_)))
     refine nl (.bln (.thn (k13 _ _ (.region (st (.addI (.t rfl) (.cI 1 rfl) (by first | omega | assumption) (by first | omega | assumption)) rfl (st (.mv (.t rfl)) rfl (nl (.thn (hK10 (⟨i + 1, by omega⟩) _ _ ?_ (Cv.mem (.c 36 rfl ?_ (.l [0, 2, 3, 4, 5, 35] rfl)) ?_))))))))))
     ·show n - (i + 1) < n - i; omega
     ·exact isI_eq (by omega)
     ·exact memC_eq (by rw [← cmS_next hin, List.map_set]; rfl)
   ·have hc3 := BP.f hc3
    refine .exit (.the (.the (.blh (.thn (k8 _ _ (.cv (Cv.wk (.l [2, 3, 5] rfl)) (.seq fun _ k17 => .memEq (M' := [(some b2, cellM [isI (n : Int), isI (n : Int), isGr gm ((cmL n qs).map nz).length]), grMK zc gm ((cmL n qs).map nz), (some b1, cellM [isI 0, isI 0, nilS])]) (memC_end (by rw [show i = n by omega, cmS_all]) (by rw [List.length_map, cmL_len])) (.cv (Cv.freezeF (k := 2) (i := 1) (j := 0) (o := 2) rfl rfl rfl rfl (gr_lenK zc_len) (gr_takeK zc_len) (Ss' := [_, _, SlK 2 zc ((cmL n qs).map nz)]) rfl) (.memEq (M' := [(some _, cellM [_, _, SlK 2 zc ((cmL n qs).map nz)]), _]) rfl (.cv (Cv.wk (.l [2, 3, 5] rfl)) (.region (st (.load (.t rfl) (i := 0) rfl ty27 rfl (Ss' := [_, _, _]) rfl) rfl (.store (.t rfl) (.t rfl) (i := 1) rfl ty27 rfl rfl (Ss' := [_, _, _]) rfl (M' := [_, (some _, cellM [_, _, _])]) rfl (st (.as (.cI 0 rfl)) rfl (nl (.thn (k17 _ _ (.ret (rtN (.inl rfl) Tryz.results7 rfl rfl (.cell rfl (i := 1) rfl ty27 rfl ?_ (.tmp (Has.t' rfl ?_) .nil)))))))))))))))))))))
    ·rfl
    ·rfl
theorem zchar_Companion_bad {K : Nat} {xs : List (Bool × List Nat)} {qs : List Int} (hx : Bd (vals xs) K) (hK : K ≤ 1000) (hxl : xs.length ≤ 1000) (hq : pnorm (vals xs) = qs) (h1 : cf qs (qs.length - 1) ≠ 1) : Ctr Tryz.prog 7 [SlK 2 zc xs] (isTup [isM0, isI 3]) := by
 refine Ctr.intro Tryz.func7 rfl (by kernel_rfl) Tryz.ntmps7 rfl fun w0 F0 => .cv (Cv.wk (.l [0] rfl)) (.fact (Has.lenLt (Has.t (t := 0) rfl)) fun lt0 => ?_)
 have h11 : (List.length (words (1 : Int).natAbs)) ≤ 1 := nw_small' (by decide)
 have hqb : Bd qs K := by rw [← hq]; exact hx.norm
 have hql : (qs.map nz).length = qs.length := List.length_map _
 have hq1 : qs.length ≤ 1000 := by rw [← hq]; exact Nat.le_trans (norm_len _) (by rw [vals_len]; exact hxl)
 refine .seq fun _ k1 => .region (.alloc [isI 0, isI 0, SlK 2 zc ([] : List (Bool × List Nat))] zero27 (fun _ _ => ⟨⟨rfl, by decide, by decide⟩, ⟨rfl, by decide, by decide⟩, nilK, trivial⟩) rfl fun b1 => st (.as (.cI 0 rfl)) rfl (nl (.thn (k1 _ _ (.seq fun _ k2 => .region (st (.mv (.t rfl)) rfl (st (.eq (.call (zpoly_Norm hx (by omega) (by omega)) (.cons (.t rfl) .nil)) ((show isP _ = isP qs from isP_eq hq))) rfl (st (.as (.t rfl)) rfl (nl (.thn (k2 _ _ (.seq fun _ k3 => .region (st (.mv (.t rfl)) rfl (st (.eq (.len sl23 (.t rfl)) ((show isI _ = isI (qs.length : Int) from isI_eq (by rw [hql])))) rfl (st (.subI (.t rfl) (.cI 1 rfl) (by first | omega | assumption) (by first | omega | assumption)) rfl (st (.as (.t rfl)) rfl (nl (.thn (k3 _ _ (.cv (Cv.wk (.l [0, 2, 3, 4] rfl)) (.seq fun _ k4 => .block (.seq fun _ k5 => .dr (.s [] rfl rfl rfl (.o rfl (.mv (.t rfl))) (.s [13] rfl rfl rfl (.o rfl (.ltI (.t rfl) (.cI 0 rfl))) (.s [14] rfl rfl rfl (.o rfl (.mv (.t rfl))) (.s [15] rfl rfl rfl (.F rfl rfl rfl (fun hg => .mv (.t rfl))) (.s [15] rfl rfl rfl (.F rfl rfl rfl (fun hg => .mv (.t rfl))) ?_)))))))))))))))))))))))))))
 refine .s [15, 16, 17] rfl rfl rfl (.F rfl rfl rfl (fun hg => have hg' := BP.t hg; OK1.ixK sl23 ty36 (Has.g rfl hg) (Has.g rfl hg) zc_len ⟨by omega, by omega⟩ (show _ = some (nz (cf qs (qs.length - 1))) from by rw [show ((qs.length : Int) - 1).toNat = qs.length - 1 by omega]; exact getZ (by omega)))) ?_
 refine .s [15, 18] rfl rfl rfl (.F rfl rfl rfl (fun hg => .loadP (Has.g rfl hg) ty36 rfl (Ss' := [_, _]) rfl)) (.s [15] rfl rfl rfl (.F rfl rfl rfl (fun hg => .call (zint_Of) (.cons (.cI 1 rfl) .nil))) (.fin (n := 8) mixed (by kernel_rfl) (by kernel_rfl) (by kernel_rfl) (.cv (Cv.wk (.l [0, 2, 3, 4, 15, 19, 20] rfl)) ?_)))
 refine stF rfl rfl (fun hg => have hg' := BP.t hg; OK1.eq (.call (zint_Same (by rw [val_words]; have := hqb (qs.length - 1); omega) (by rw [val_words]; omega)) (.cons (Has.g rfl hg) (.cons (Has.g rfl hg) .nil))) ((show isB _ = isB false from isB_eq (decide_eq_false (by simp only [zv_nz, zv_nf]; exact h1))))) rfl ?_
 refine stF rfl rfl (fun hg => .not (Has.g rfl hg)) rfl (st (.pickOr (.t rfl) (fun h => Has.g rfl (ng h))) rfl (st (.as (.t rfl)) rfl (nl (.thn (k5 _ _ (.cv (Cv.wk (.l [0, 2, 3, 4, 12] rfl)) (.cond (.t rfl) (fun hc1 => ?_) (fun hc1 => ?_))))))))
 ·have hc1 := BP.t hc1
  refine .seq fun _ k6 => .region (st (.build [isI 0, isI 0, SlK 2 zc ([] : List (Bool × List Nat))] pl27 zero27 (fun _ _ => ⟨⟨rfl, by decide, by decide⟩, ⟨rfl, by decide, by decide⟩, nilK, trivial⟩) .nil (Z'' := [_, _, _]) rfl) rfl (.store (.t rfl) (.t rfl) (i := 0) rfl ty27 rfl rfl (Ss' := [_, _, _]) rfl (M' := [(some _, cellM [_, _, _])]) rfl (st (.as (.cI 3 rfl)) rfl (nl (.thn (k6 _ _ (.ret (.blr (.thr (rtN (.inl rfl) Tryz.results7 rfl rfl (.cell rfl (i := 0) rfl ty27 rfl ?_ (.tmp (Has.t' rfl ?_) .nil))))))))))))
  ·rfl
  ·rfl
 ·have hc1 := BP.f hc1
  exfalso; simp at hc1
end Go.Proofs.YtcfobalbkhgdmaaGreat
namespace Go.Proofs.YtcfobalbkhgdmaaGreat
open Go.En Go.RowKit
set_option maxRecDepth 10000
set_option maxHeartbeats 4000000
open Go.Nt
open Go.Pz
theorem rat_Of {m : Bool} {xs : List Nat} (hx : (List.length (words (val xs))) ≤ 4000000000) : Ctr Tryz.prog 82 [Flat [isB m, isWords xs]] (isQ ((zv m xs : Int) : Rat)) := by
 refine Ctr.intro Tryz.func82 rfl (by kernel_rfl) Tryz.ntmps82 rfl fun w0 F0 => .cv (Cv.wk (.l [0] rfl)) (.fact (Has.okZ (Has.t (t := 0) rfl)) fun okz0 => .seq fun _ k1 => .region (.box (.t rfl) rfl fun b1 => .alloc [isB false, SlM isU [], isB false, SlM isU []] zero75 (fun _ _ => ⟨rfl, nilM _ _, rfl, nilM _ _, trivial⟩) rfl fun b2 => nl (.thn (k1 _ _ (.seq fun _ k2 => .region (st (.fieldAddr (.t rfl) fld36_1 ty34) rfl (st (.load1 (.t rfl) (i := 1) rfl ty34 rfl) rfl (st (.fieldAddr (.t rfl) fld36_0 ty4) rfl (st (.load1 (.t rfl) (i := 1) rfl ty4 rfl) rfl (st (.call (zint_From (by omega)) (.cons (.t rfl) (.cons (.t rfl) .nil))) rfl (st (.call (zint_Of) (.cons (.cI 1 rfl) .nil)) rfl (st (.build [isB false, SlM isU [], isB false, SlM isU []] pl75 zero75 (fun _ _ => ⟨rfl, nilM _ _, rfl, nilM _ _, trivial⟩) (.cons (.t rfl) rfl rfl rfl (.cons (.t rfl) rfl rfl rfl .nil)) (Z'' := [_, _, _, _]) rfl) rfl (.store (.t rfl) (.t rfl) (i := 0) rfl ty75 rfl rfl (Ss' := [_, _, _, _]) rfl (M' := [(some _, cellM [_, _, _, _]), _]) rfl (nl (.thn (k2 _ _ (.cv (Cv.wk (.l [2] rfl)) (.ret (rt1 (.inl rfl) Tryz.results82 rfl (.cell rfl (i := 0) rfl ty75 rfl ?_ .nil))))))))))))))))))))
 all_goals (rfl)
theorem rat_Make {m n : Bool} {xs ys : List Nat} (hx : (List.length (words (val xs))) ≤ 4000000000) (hy : (List.length (words (val ys))) ≤ 4000000000) (h0 : zv n ys ≠ 0) : Ctr Tryz.prog 109 [Flat [isB m, isWords xs], Flat [isB n, isWords ys]] (isTup [isQ (Rat.divInt (zv m xs) (zv n ys)), isB true]) := by
 refine Ctr.intro Tryz.func109 rfl (by kernel_rfl) Tryz.ntmps109 rfl fun w0 F0 => .cv (Cv.wk (.l [0, 1] rfl)) (.fact (Has.okZ (Has.t (t := 0) rfl)) fun okz0 => .fact (Has.okZ (Has.t (t := 1) rfl)) fun okz1 => ?_)
 have ha := zv_nw m xs
 have hb := zv_nw n ys
 obtain ⟨q, hqd⟩ : ∃ q, q = (Rat.divInt (zv m xs) (zv n ys)) := ⟨_, rfl⟩
 rw [← hqd]
 refine .seq fun _ k1 => .region (.box (.t rfl) rfl fun b1 => .box (.t rfl) rfl fun b2 => .alloc [isB false, SlM isU [], isB false, SlM isU []] zero75 (fun _ _ => ⟨rfl, nilM _ _, rfl, nilM _ _, trivial⟩) rfl fun b3 => st (.as (.cB false)) rfl (nl (.thn (k1 _ _ (.seq fun _ k2 => .seq fun _ k3 => .region (st (.load (.t rfl) (i := 1) rfl ty36 rfl (Ss' := [_, _]) rfl) rfl (st (.call (zint_Sign (by omega)) (.cons (.t rfl) .nil)) rfl (st (.eqI (.t rfl) (.cI 0 rfl)) rfl (nl (.thn (k3 _ _ (.cond (.t rfl) (fun hc1 => ?_) (fun hc1 => ?_)))))))))))))
 ·have hc1 := BP.t hc1
  exact absurd ((sgn_eq0 _).1 hc1) h0
 ·have hc1 := BP.f hc1
  skip
  refine .skip (.thn (k2 _ _ (.cv (Cv.wk (.l [2, 3, 4, 5] rfl)) (.seq fun _ k4 => .seq fun _ k5 => .region (st (.load (.t rfl) (i := 1) rfl ty36 rfl (Ss' := [_, _]) rfl) rfl (st (.call (zint_Sign (by omega)) (.cons (.t rfl) .nil)) rfl (st (.ltI (.t rfl) (.cI 0 rfl)) rfl (nl (.thn (k5 _ _ (.cond (.t rfl) (fun hc2 => ?_) (fun hc2 => ?_))))))))))))
  ·have hc2 := BP.t hc2
   have hc2' := (sgn_lt _).1 hc2
   obtain ⟨N, hN⟩ : ∃ N, N = -(zv m xs) := ⟨_, rfl⟩
   obtain ⟨D, hD⟩ : ∃ D, D = -(zv n ys) := ⟨_, rfl⟩
   have hZ1 : zv m xs = -N := by omega
   have hZ2 : zv n ys = -D := by omega
   have hD0 : 0 < D := by omega
   have hR1 : val xs = N.natAbs := by have := zv_abs m xs; omega
   have hR2 : val ys = D.natAbs := by have := zv_abs n ys; omega
   have hNw : (List.length (words N.natAbs)) ≤ 4000000000 := by rw [← hR1]; exact hx
   have hDw : (List.length (words D.natAbs)) ≤ 4000000000 := by rw [← hR2]; exact hy
   obtain ⟨hq1, hq2, hq3, hq4⟩ := mk_num (N := N) hD0 (q := q) (hqd.trans (by rw [hZ1, hZ2]; try exact Rat.neg_divInt_neg _ _))
   have hgw : (List.length (words (Nat.gcd N.natAbs D.natAbs))) ≤ 4000000000 := Nat.le_trans (nw_mono (Nat.le_of_dvd (by omega) (Nat.gcd_dvd_right _ _))) hDw
   obtain ⟨g, hg⟩ : ∃ g : Int, g = ((Nat.gcd N.natAbs D.natAbs : Nat) : Int) := ⟨_, rfl⟩
   have hgw2 : (List.length (words g.natAbs)) ≤ 4000000000 := by rw [hg, Int.natAbs_natCast]; exact hgw
   rw [← hg] at hq1 hq2 hq3 hq4
   refine .dr (.s [] rfl rfl rfl (.o rfl (.load (.t rfl) (i := 2) rfl ty36 rfl (Ss' := [_, _]) rfl)) (.s [14] rfl rfl rfl (.o rfl (.call (zint_Neg (by omega)) (.cons (.t rfl) .nil))) (.s [] rfl rfl rfl (.o rfl (.load (.t rfl) (i := 1) rfl ty36 rfl (Ss' := [_, _]) rfl)) (.fin (n := 3) mixed (by kernel_rfl) (by kernel_rfl) (by kernel_rfl) (.cv (Cv.wk (.l [2, 3, 4, 5, 15, 16] rfl)) (st (.call (zint_Neg (by omega)) (.cons (.t rfl) .nil)) rfl (.store (.t rfl) (.t rfl) (i := 2) rfl ty36 rfl rfl (Ss' := [_, _]) rfl (M' := [_, _, (some _, cellM [_, _])]) rfl (.store (.t rfl) (.t rfl) (i := 1) rfl ty36 rfl rfl (Ss' := [_, _]) rfl (M' := [_, (some _, cellM [_, _]), _]) rfl (nl (.thn (k4 _ _ (.seq fun _ k6 => .region (st (.load (.t rfl) (i := 2) rfl ty36 rfl (Ss' := [_, _]) rfl) rfl (st (.load (.t rfl) (i := 1) rfl ty36 rfl (Ss' := [_, _]) rfl) rfl (st (.eq (.call (zint_Gcd (by simp only [val_words, zv_nf, hZ1, hZ2, hR1, hR2, Int.neg_neg]; omega) (by simp only [val_words, zv_nf, hZ1, hZ2, hR1, hR2, Int.neg_neg]; omega)) (.cons (.t rfl) (.cons (.t rfl) .nil))) ((show isZ _ = isZ g from isZ_eq (by rw [hg]; simp only [val_words, zv_nf, hZ1, hZ2, hR1, hR2, Int.neg_neg])))) rfl ?_)))))))))))))))
   refine .alloc [isB false, SlM isU []] zero36 (fun _ _ => ⟨rfl, nilM _ _, trivial⟩) rfl fun b4 => .store (.t rfl) (.t rfl) (i := 0) rfl ty36 rfl rfl (Ss' := [_, _]) rfl (M' := [(some _, cellM [_, _]), _, _, _]) rfl (nl (.thn (k6 _ _ (.cv (Cv.wk (.l [2, 3, 4, 5, 6] rfl)) (.seq fun _ k7 => .region (st (.load (.t rfl) (i := 3) rfl ty36 rfl (Ss' := [_, _]) rfl) rfl ?_))))))
   refine st (.load (.t rfl) (i := 0) rfl ty36 rfl (Ss' := [_, _]) rfl) rfl (st (.eq (.call (zint_Exact (by simp only [val_words, zv_nf, hZ1, hZ2, hR1, hR2, Int.neg_neg]; omega) (by simp only [val_words, zv_nf, hZ1, hZ2, hR1, hR2, Int.neg_neg]; omega)) (.cons (.t rfl) (.cons (.t rfl) .nil))) ((show isTup [isZ _, isB _] = isTup [isZ (q.num), isB true] from by simp only [val_words, zv_nf, hZ1, hZ2, hR1, hR2, Int.neg_neg]; rw [if_pos hq1, decide_eq_true hq1, hq2]))) rfl ?_)
   refine st (.mv (.t rfl)) rfl (st (.ext (.t rfl) rfl) rfl (st (.ext (.t rfl) rfl) rfl (.store (.t rfl) (.t rfl) (i := 3) rfl ty36 rfl rfl (Ss' := [_, _]) rfl (M' := [_, _, _, (some _, cellM [_, _])]) rfl (nl (.thn (k7 _ _ (.cv (Cv.wk (.l [2, 3, 4, 5, 6] rfl)) (.seq fun _ k8 => .region (st (.load (.t rfl) (i := 2) rfl ty36 rfl (Ss' := [_, _]) rfl) rfl ?_)))))))))
   refine st (.load (.t rfl) (i := 0) rfl ty36 rfl (Ss' := [_, _]) rfl) rfl (st (.eq (.call (zint_Exact (by simp only [val_words, zv_nf, hZ1, hZ2, hR1, hR2, Int.neg_neg]; omega) (by simp only [val_words, zv_nf, hZ1, hZ2, hR1, hR2, Int.neg_neg]; omega)) (.cons (.t rfl) (.cons (.t rfl) .nil))) ((show isTup [isZ _, isB _] = isTup [isZ ((q.den : Nat) : Int), isB true] from by simp only [val_words, zv_nf, hZ1, hZ2, hR1, hR2, Int.neg_neg]; rw [if_pos hq3, decide_eq_true hq3, hq4]))) rfl ?_)
   refine st (.mv (.t rfl)) rfl (st (.ext (.t rfl) rfl) rfl (st (.ext (.t rfl) rfl) rfl (.store (.t rfl) (.t rfl) (i := 2) rfl ty36 rfl rfl (Ss' := [_, _]) rfl (M' := [_, _, (some _, cellM [_, _]), _]) rfl (nl (.thn (k8 _ _ (.cv (Cv.wk (.l [2, 3, 4, 5] rfl)) (.seq fun _ k9 => .region (st (.load (.t rfl) (i := 3) rfl ty36 rfl (Ss' := [_, _]) rfl) rfl (st (.load (.t rfl) (i := 2) rfl ty36 rfl (Ss' := [_, _]) rfl) rfl (st (.build [isB false, SlM isU [], isB false, SlM isU []] pl75 zero75 (fun _ _ => ⟨rfl, nilM _ _, rfl, nilM _ _, trivial⟩) (.cons (.t rfl) rfl rfl rfl (.cons (.t rfl) rfl rfl rfl .nil)) (Z'' := [_, _, _, _]) rfl) rfl (.store (.t rfl) (.t rfl) (i := 1) rfl ty75 rfl rfl (Ss' := [_, _, _, _]) rfl (M' := [_, (some _, cellM [_, _, _, _]), _, _]) rfl (st (.as (.cB true)) rfl (nl (.thn (k9 _ _ (.cv (Cv.wk (.l [4, 5] rfl)) (.ret (rtN (.inl rfl) Tryz.results109 rfl rfl (.cell rfl (i := 1) rfl ty75 rfl ?_ (.tmp (Has.t' rfl ?_) .nil)))))))))))))))))))))
   ·rfl
   ·rfl
  ·have hc2 := BP.f hc2
   have hc2' : 0 ≤ zv n ys := by rcases sgn_cases (zv n ys) with h | h | h <;> omega
   obtain ⟨N, hN⟩ : ∃ N, N = zv m xs := ⟨_, rfl⟩
   obtain ⟨D, hD⟩ : ∃ D, D = zv n ys := ⟨_, rfl⟩
   have hZ1 : zv m xs = N := by omega
   have hZ2 : zv n ys = D := by omega
   have hD0 : 0 < D := by omega
   have hR1 : val xs = N.natAbs := by have := zv_abs m xs; omega
   have hR2 : val ys = D.natAbs := by have := zv_abs n ys; omega
   have hNw : (List.length (words N.natAbs)) ≤ 4000000000 := by rw [← hR1]; exact hx
   have hDw : (List.length (words D.natAbs)) ≤ 4000000000 := by rw [← hR2]; exact hy
   obtain ⟨hq1, hq2, hq3, hq4⟩ := mk_num (N := N) hD0 (q := q) (hqd.trans (by rw [hZ1, hZ2]; try exact Rat.neg_divInt_neg _ _))
   have hgw : (List.length (words (Nat.gcd N.natAbs D.natAbs))) ≤ 4000000000 := Nat.le_trans (nw_mono (Nat.le_of_dvd (by omega) (Nat.gcd_dvd_right _ _))) hDw
   obtain ⟨g, hg⟩ : ∃ g : Int, g = ((Nat.gcd N.natAbs D.natAbs : Nat) : Int) := ⟨_, rfl⟩
   have hgw2 : (List.length (words g.natAbs)) ≤ 4000000000 := by rw [hg, Int.natAbs_natCast]; exact hgw
   rw [← hg] at hq1 hq2 hq3 hq4
   refine .skip (.thn (k4 _ _ (.seq fun _ k10 => .region (st (.load (.t rfl) (i := 2) rfl ty36 rfl (Ss' := [_, _]) rfl) rfl (st (.load (.t rfl) (i := 1) rfl ty36 rfl (Ss' := [_, _]) rfl) rfl (st (.eq (.call (zint_Gcd (by omega) (by omega)) (.cons (.t rfl) (.cons (.t rfl) .nil))) ((show isZ _ = isZ g from isZ_eq (by rw [hg]; simp only [val_words, zv_nf, hZ1, hZ2, hR1, hR2, Int.neg_neg])))) rfl ?_))))))
   refine .alloc [isB false, SlM isU []] zero36 (fun _ _ => ⟨rfl, nilM _ _, trivial⟩) rfl fun b5 => .store (.t rfl) (.t rfl) (i := 0) rfl ty36 rfl rfl (Ss' := [_, _]) rfl (M' := [(some _, cellM [_, _]), _, _, _]) rfl (nl (.thn (k10 _ _ (.cv (Cv.wk (.l [2, 3, 4, 5, 6] rfl)) (.seq fun _ k11 => .region (st (.load (.t rfl) (i := 3) rfl ty36 rfl (Ss' := [_, _]) rfl) rfl ?_))))))
   refine st (.load (.t rfl) (i := 0) rfl ty36 rfl (Ss' := [_, _]) rfl) rfl (st (.eq (.call (zint_Exact (by omega) (by simp only [val_words, zv_nf, hZ1, hZ2, hR1, hR2, Int.neg_neg]; omega)) (.cons (.t rfl) (.cons (.t rfl) .nil))) ((show isTup [isZ _, isB _] = isTup [isZ (q.num), isB true] from by simp only [val_words, zv_nf, hZ1, hZ2, hR1, hR2, Int.neg_neg]; rw [if_pos hq1, decide_eq_true hq1, hq2]))) rfl ?_)
   refine st (.mv (.t rfl)) rfl (st (.ext (.t rfl) rfl) rfl (st (.ext (.t rfl) rfl) rfl (.store (.t rfl) (.t rfl) (i := 3) rfl ty36 rfl rfl (Ss' := [_, _]) rfl (M' := [_, _, _, (some _, cellM [_, _])]) rfl (nl (.thn (k11 _ _ (.cv (Cv.wk (.l [2, 3, 4, 5, 6] rfl)) (.seq fun _ k12 => .region (st (.load (.t rfl) (i := 2) rfl ty36 rfl (Ss' := [_, _]) rfl) rfl ?_)))))))))
   refine st (.load (.t rfl) (i := 0) rfl ty36 rfl (Ss' := [_, _]) rfl) rfl (st (.eq (.call (zint_Exact (by omega) (by simp only [val_words, zv_nf, hZ1, hZ2, hR1, hR2, Int.neg_neg]; omega)) (.cons (.t rfl) (.cons (.t rfl) .nil))) ((show isTup [isZ _, isB _] = isTup [isZ ((q.den : Nat) : Int), isB true] from by simp only [val_words, zv_nf, hZ1, hZ2, hR1, hR2, Int.neg_neg]; rw [if_pos hq3, decide_eq_true hq3, hq4]))) rfl ?_)
   refine st (.mv (.t rfl)) rfl (st (.ext (.t rfl) rfl) rfl (st (.ext (.t rfl) rfl) rfl (.store (.t rfl) (.t rfl) (i := 2) rfl ty36 rfl rfl (Ss' := [_, _]) rfl (M' := [_, _, (some _, cellM [_, _]), _]) rfl (nl (.thn (k12 _ _ (.cv (Cv.wk (.l [2, 3, 4, 5] rfl)) (.seq fun _ k13 => .region (st (.load (.t rfl) (i := 3) rfl ty36 rfl (Ss' := [_, _]) rfl) rfl (st (.load (.t rfl) (i := 2) rfl ty36 rfl (Ss' := [_, _]) rfl) rfl (st (.build [isB false, SlM isU [], isB false, SlM isU []] pl75 zero75 (fun _ _ => ⟨rfl, nilM _ _, rfl, nilM _ _, trivial⟩) (.cons (.t rfl) rfl rfl rfl (.cons (.t rfl) rfl rfl rfl .nil)) (Z'' := [_, _, _, _]) rfl) rfl (.store (.t rfl) (.t rfl) (i := 1) rfl ty75 rfl rfl (Ss' := [_, _, _, _]) rfl (M' := [_, (some _, cellM [_, _, _, _]), _, _]) rfl (st (.as (.cB true)) rfl (nl (.thn (k13 _ _ (.cv (Cv.wk (.l [4, 5] rfl)) (.ret (rtN (.inl rfl) Tryz.results109 rfl rfl (.cell rfl (i := 1) rfl ty75 rfl ?_ (.tmp (Has.t' rfl ?_) .nil)))))))))))))))))))))
   ·rfl
   ·rfl
theorem rat_norm {m n : Bool} {xs ys : List Nat} (hx : (List.length (words (val xs))) ≤ 4000000000) (hy : (List.length (words (val ys))) ≤ 4000000000) (h0 : zv n ys ≠ 0) : Ctr Tryz.prog 83 [Flat [isB m, isWords xs, isB n, isWords ys]] (isQ (Rat.divInt (zv m xs) (zv n ys))) := by
 refine Ctr.intro Tryz.func83 rfl (by kernel_rfl) Tryz.ntmps83 rfl fun w0 F0 => .cv (Cv.wk (.l [0] rfl)) (.seq fun _ k1 => .region (.box (.t rfl) rfl fun b1 => .alloc [isB false, SlM isU [], isB false, SlM isU []] zero75 (fun _ _ => ⟨rfl, nilM _ _, rfl, nilM _ _, trivial⟩) rfl fun b2 => nl (.thn (k1 _ _ (.seq fun _ k2 => .region (st (.fieldAddr (.t rfl) fld75_0 ty36) rfl (st (.load (.t rfl) (i := 1) rfl ty36 rfl (Ss' := [_, _]) rfl) rfl (st (.fieldAddr (.t rfl) fld75_1 ty36) rfl (st (.load (.t rfl) (i := 1) rfl ty36 rfl (Ss' := [_, _]) rfl) rfl (st (.call (rat_Make (m := m) (n := n) (xs := xs) (ys := ys) hx hy h0) (.cons (.t rfl) (.cons (.t rfl) .nil))) rfl (st (.mv (.t rfl)) rfl (st (.ext (.t rfl) rfl) rfl (st (.ext (.t rfl) rfl) rfl (.alloc [isB false, SlM isU [], isB false, SlM isU []] zero75 (fun _ _ => ⟨rfl, nilM _ _, rfl, nilM _ _, trivial⟩) rfl fun b3 => .store (.t rfl) (.t rfl) (i := 0) rfl ty75 rfl rfl (Ss' := [_, _, _, _]) rfl (M' := [(some _, cellM [_, _, _, _]), _, _]) rfl (st (.as (.t rfl)) rfl (nl (.thn (k2 _ _ (.cv (Cv.wk (.l [2, 3] rfl)) (.seq fun _ k3 => .region (st (.load (.t rfl) (i := 0) rfl ty75 rfl (Ss' := [_, _, _, _]) rfl) rfl (.store (.t rfl) (.t rfl) (i := 1) rfl ty75 rfl rfl (Ss' := [_, _, _, _]) rfl (M' := [_, (some _, cellM [_, _, _, _]), _]) rfl (nl (.thn (k3 _ _ (.ret (rt1 (.inl rfl) Tryz.results83 rfl (.cell rfl (i := 1) rfl ty75 rfl ?_ .nil))))))))))))))))))))))))))))
 all_goals (rfl)
theorem rat_normQ {q : Rat} (hq : qs q ≤ 4000000000) : Ctr Tryz.prog 83 [isQ q] (isQ q) := by
 have h := rat_norm (m := decide (q.num < 0)) (n := decide ((q.den : Int) < 0)) (xs := words q.num.natAbs) (ys := words ((q.den : Int)).natAbs) (by rw [val_words]; exact qs_num hq) (by rw [val_words]; exact qs_dn hq) (by rw [zv_nf]; exact den_ne q)
 rw [zv_nf, zv_nf, Rat.num_divInt_den] at h
 exact h
theorem rat_normR {x y : Int} (hx : (List.length (words x.natAbs)) ≤ 4000000000) (hy : (List.length (words y.natAbs)) ≤ 4000000000) (h0 : y ≠ 0) : Ctr Tryz.prog 83 [Flat [isB (decide (x < 0)), SlM isU (words x.natAbs), isB (decide (y < 0)), SlM isU (words y.natAbs)]] (isQ (Rat.divInt x y)) := by
 have h := rat_norm (m := decide (x < 0)) (n := decide (y < 0)) (xs := words x.natAbs) (ys := words y.natAbs) (by rw [val_words]; exact hx) (by rw [val_words]; exact hy) (by rw [zv_nf]; exact h0)
 rw [zv_nf, zv_nf] at h
 exact h
theorem rat_MakeZ {x y : Int} (hx : (List.length (words x.natAbs)) ≤ 4000000000) (hy : (List.length (words y.natAbs)) ≤ 4000000000) (h0 : y ≠ 0) : Ctr Tryz.prog 109 [isZ x, isZ y] (isTup [isQ (Rat.divInt x y), isB true]) := by
 have h := rat_Make (m := decide (x < 0)) (n := decide (y < 0)) (xs := words x.natAbs) (ys := words y.natAbs) (by rw [val_words]; exact hx) (by rw [val_words]; exact hy) (by rw [zv_nf]; exact h0)
 rw [zv_nf, zv_nf] at h
 exact h
theorem rat_Add {p q : Rat} {A B : Nat} (hp : qs p ≤ A) (hq : qs q ≤ B) (hAB : A + B ≤ 1000000000) : Ctr Tryz.prog 108 [isQ p, isQ q] (isQ (p + q)) := by
 refine Ctr.intro Tryz.func108 rfl (by kernel_rfl) Tryz.ntmps108 rfl fun w0 F0 => .cv (Cv.wk (.l [0, 1] rfl)) ?_
 have g1 := qs_num hp
 have g2 := qs_dn hp
 have g3 := qs_num hq
 have g4 := qs_dn hq
 have m1 := nz_mul p.num q.den
 have m2 := nz_mul q.num p.den
 have m3 := nz_mul p.den q.den
 have m4 := nz_add (p.num * q.den) (q.num * p.den)
 refine .seq fun _ k1 => .region (.box (.t rfl) rfl fun b1 => .box (.t rfl) rfl fun b2 => .alloc [isB false, SlM isU [], isB false, SlM isU []] zero75 (fun _ _ => ⟨rfl, nilM _ _, rfl, nilM _ _, trivial⟩) rfl fun b3 => nl (.thn (k1 _ _ (.seq fun _ k2 => .dr (.s [] rfl rfl rfl (.o rfl (.load (.t rfl) (i := 2) rfl ty75 rfl (Ss' := [_, _, _, _]) rfl)) (.s [5] rfl rfl rfl (.o rfl (.call (rat_normQ (q := p) (by omega)) (.cons (.t rfl) .nil))) (.s [] rfl rfl rfl (.o rfl (.load (.t rfl) (i := 1) rfl ty75 rfl (Ss' := [_, _, _, _]) rfl)) (.fin (n := 3) mixed (by kernel_rfl) (by kernel_rfl) (by kernel_rfl) (.cv (Cv.wk (.l [2, 3, 4, 6, 7] rfl)) (st (.call (rat_normQ (q := q) (by omega)) (.cons (.t rfl) .nil)) rfl (.store (.t rfl) (.t rfl) (i := 2) rfl ty75 rfl rfl (Ss' := [_, _, _, _]) rfl (M' := [_, _, (some _, cellM [_, _, _, _])]) rfl (.store (.t rfl) (.t rfl) (i := 1) rfl ty75 rfl rfl (Ss' := [_, _, _, _]) rfl (M' := [_, (some _, cellM [_, _, _, _]), _]) rfl (nl (.thn (k2 _ _ (.seq fun _ k3 => .dr (.s [] rfl rfl rfl (.o rfl (.fieldAddr (.t rfl) fld75_0 ty36)) (.s [9] rfl rfl rfl (.o rfl (.load (.t rfl) (i := 2) rfl ty36 rfl (Ss' := [_, _]) rfl)) (.s [] rfl rfl rfl (.o rfl (.fieldAddr (.t rfl) fld75_1 ty36)) (.s [11] rfl rfl rfl (.o rfl (.load (.t rfl) (i := 1) rfl ty36 rfl (Ss' := [_, _]) rfl)) (.s [10, 12] rfl rfl rfl (.o rfl (.eq (.call (zint_Mul (by rw [val_words]; omega) (by rw [val_words]; omega)) (.cons (.t rfl) (.cons (.t rfl) .nil))) ((show isZ _ = isZ (p.num * q.den) from isZ_eq (by simp only [zv_nf]))))) ?_)))))))))))))))))))))
 refine .s [] rfl rfl rfl (.o rfl (.fieldAddr (.t rfl) fld75_0 ty36)) (.s [14] rfl rfl rfl (.o rfl (.load (.t rfl) (i := 1) rfl ty36 rfl (Ss' := [_, _]) rfl)) (.s [] rfl rfl rfl (.o rfl (.fieldAddr (.t rfl) fld75_1 ty36)) (.s [16] rfl rfl rfl (.o rfl (.load (.t rfl) (i := 2) rfl ty36 rfl (Ss' := [_, _]) rfl)) (.s [15, 17] rfl rfl rfl (.o rfl (.eq (.call (zint_Mul (by rw [val_words]; omega) (by rw [val_words]; omega)) (.cons (.t rfl) (.cons (.t rfl) .nil))) ((show isZ _ = isZ (q.num * p.den) from isZ_eq (by simp only [zv_nf]))))) ?_))))
 refine .s [13, 18] rfl rfl rfl (.o rfl (.eq (.call (zint_Add (by rw [val_words]; omega) (by rw [val_words]; omega)) (.cons (.t rfl) (.cons (.t rfl) .nil))) ((show isZ _ = isZ (p.num * q.den + q.num * p.den) from isZ_eq (by simp only [zv_nf]))))) ?_
 refine .s [] rfl rfl rfl (.o rfl (.fieldAddr (.t rfl) fld75_1 ty36)) (.s [20] rfl rfl rfl (.o rfl (.load (.t rfl) (i := 2) rfl ty36 rfl (Ss' := [_, _]) rfl)) (.s [] rfl rfl rfl (.o rfl (.fieldAddr (.t rfl) fld75_1 ty36)) (.s [22] rfl rfl rfl (.o rfl (.load (.t rfl) (i := 1) rfl ty36 rfl (Ss' := [_, _]) rfl)) (.fin (n := 15) mixed (by kernel_rfl) (by kernel_rfl) (by kernel_rfl) (.cv (Cv.wk (.l [4, 19, 21, 23] rfl)) (st (.eq (.call (zint_Mul (by rw [val_words]; omega) (by rw [val_words]; omega)) (.cons (.t rfl) (.cons (.t rfl) .nil))) ((show isZ _ = isZ (p.den * q.den) from isZ_eq (by simp only [zv_nf])))) rfl ?_))))))
 refine st (.build [isB false, SlM isU [], isB false, SlM isU []] pl75 zero75 (fun _ _ => ⟨rfl, nilM _ _, rfl, nilM _ _, trivial⟩) (.cons (.t rfl) rfl rfl rfl (.cons (.t rfl) rfl rfl rfl .nil)) (Z'' := [_, _, _, _]) rfl) rfl (st (.eq (.call (rat_normR (x := p.num * q.den + q.num * p.den) (y := p.den * q.den) (by omega) (by omega) (Int.mul_ne_zero (den_ne p) (den_ne q))) (.cons (.t rfl) .nil)) ((isQ_eq (add_divInt p q)))) rfl (.store (.t rfl) (.t rfl) (i := 0) rfl ty75 rfl rfl (Ss' := [_, _, _, _]) rfl (M' := [(some _, cellM [_, _, _, _]), _, _]) rfl (nl (.thn (k3 _ _ (.cv (Cv.wk (.l [4] rfl)) (.ret (rt1 (.inl rfl) Tryz.results108 rfl (.cell rfl (i := 0) rfl ty75 rfl ?_ .nil)))))))))
 all_goals (rfl)
theorem rat_Mul {p q : Rat} {A B : Nat} (hp : qs p ≤ A) (hq : qs q ≤ B) (hAB : A + B ≤ 1000000000) : Ctr Tryz.prog 129 [isQ p, isQ q] (isQ (p * q)) := by
 refine Ctr.intro Tryz.func129 rfl (by kernel_rfl) Tryz.ntmps129 rfl fun w0 F0 => .cv (Cv.wk (.l [0, 1] rfl)) ?_
 have g1 := qs_num hp
 have g2 := qs_dn hp
 have g3 := qs_num hq
 have g4 := qs_dn hq
 have m1 := nz_mul p.num q.num
 have m3 := nz_mul p.den q.den
 refine .seq fun _ k1 => .region (.box (.t rfl) rfl fun b1 => .box (.t rfl) rfl fun b2 => .alloc [isB false, SlM isU [], isB false, SlM isU []] zero75 (fun _ _ => ⟨rfl, nilM _ _, rfl, nilM _ _, trivial⟩) rfl fun b3 => nl (.thn (k1 _ _ (.seq fun _ k2 => .dr (.s [] rfl rfl rfl (.o rfl (.load (.t rfl) (i := 2) rfl ty75 rfl (Ss' := [_, _, _, _]) rfl)) (.s [5] rfl rfl rfl (.o rfl (.call (rat_normQ (q := p) (by omega)) (.cons (.t rfl) .nil))) (.s [] rfl rfl rfl (.o rfl (.load (.t rfl) (i := 1) rfl ty75 rfl (Ss' := [_, _, _, _]) rfl)) (.fin (n := 3) mixed (by kernel_rfl) (by kernel_rfl) (by kernel_rfl) (.cv (Cv.wk (.l [2, 3, 4, 6, 7] rfl)) (st (.call (rat_normQ (q := q) (by omega)) (.cons (.t rfl) .nil)) rfl (.store (.t rfl) (.t rfl) (i := 2) rfl ty75 rfl rfl (Ss' := [_, _, _, _]) rfl (M' := [_, _, (some _, cellM [_, _, _, _])]) rfl (.store (.t rfl) (.t rfl) (i := 1) rfl ty75 rfl rfl (Ss' := [_, _, _, _]) rfl (M' := [_, (some _, cellM [_, _, _, _]), _]) rfl (nl (.thn (k2 _ _ (.seq fun _ k3 => .dr (.s [] rfl rfl rfl (.o rfl (.fieldAddr (.t rfl) fld75_0 ty36)) (.s [9] rfl rfl rfl (.o rfl (.load (.t rfl) (i := 2) rfl ty36 rfl (Ss' := [_, _]) rfl)) (.s [] rfl rfl rfl (.o rfl (.fieldAddr (.t rfl) fld75_0 ty36)) (.s [11] rfl rfl rfl (.o rfl (.load (.t rfl) (i := 1) rfl ty36 rfl (Ss' := [_, _]) rfl)) (.s [10, 12] rfl rfl rfl (.o rfl (.eq (.call (zint_Mul (by rw [val_words]; omega) (by rw [val_words]; omega)) (.cons (.t rfl) (.cons (.t rfl) .nil))) ((show isZ _ = isZ (p.num * q.num) from isZ_eq (by simp only [zv_nf]))))) ?_)))))))))))))))))))))
 refine .s [] rfl rfl rfl (.o rfl (.fieldAddr (.t rfl) fld75_1 ty36)) (.s [14] rfl rfl rfl (.o rfl (.load (.t rfl) (i := 2) rfl ty36 rfl (Ss' := [_, _]) rfl)) (.s [] rfl rfl rfl (.o rfl (.fieldAddr (.t rfl) fld75_1 ty36)) (.s [16] rfl rfl rfl (.o rfl (.load (.t rfl) (i := 1) rfl ty36 rfl (Ss' := [_, _]) rfl)) (.fin (n := 9) mixed (by kernel_rfl) (by kernel_rfl) (by kernel_rfl) (.cv (Cv.wk (.l [4, 13, 15, 17] rfl)) (st (.eq (.call (zint_Mul (by rw [val_words]; omega) (by rw [val_words]; omega)) (.cons (.t rfl) (.cons (.t rfl) .nil))) ((show isZ _ = isZ (p.den * q.den) from isZ_eq (by simp only [zv_nf])))) rfl ?_))))))
 refine st (.build [isB false, SlM isU [], isB false, SlM isU []] pl75 zero75 (fun _ _ => ⟨rfl, nilM _ _, rfl, nilM _ _, trivial⟩) (.cons (.t rfl) rfl rfl rfl (.cons (.t rfl) rfl rfl rfl .nil)) (Z'' := [_, _, _, _]) rfl) rfl (st (.eq (.call (rat_normR (x := p.num * q.num) (y := p.den * q.den) (by omega) (by omega) (Int.mul_ne_zero (den_ne p) (den_ne q))) (.cons (.t rfl) .nil)) ((isQ_eq (mul_divInt p q)))) rfl (.store (.t rfl) (.t rfl) (i := 0) rfl ty75 rfl rfl (Ss' := [_, _, _, _]) rfl (M' := [(some _, cellM [_, _, _, _]), _, _]) rfl (nl (.thn (k3 _ _ (.cv (Cv.wk (.l [4] rfl)) (.ret (rt1 (.inl rfl) Tryz.results129 rfl (.cell rfl (i := 0) rfl ty75 rfl ?_ .nil)))))))))
 all_goals (rfl)
theorem rat_Quo {p q : Rat} {A B : Nat} (hp : qs p ≤ A) (hq : qs q ≤ B) (hAB : A + B ≤ 1000000000) (h0 : q ≠ 0) : Ctr Tryz.prog 127 [isQ p, isQ q] (isTup [isQ (p / q), isB true]) := by
 refine Ctr.intro Tryz.func127 rfl (by kernel_rfl) Tryz.ntmps127 rfl fun w0 F0 => .cv (Cv.wk (.l [0, 1] rfl)) ?_
 have g1 := qs_num hp
 have g2 := qs_dn hp
 have g3 := qs_num hq
 have g4 := qs_dn hq
 have m1 := nz_mul p.num q.den
 have m3 := nz_mul p.den q.num
 refine .seq fun _ k1 => .region (.box (.t rfl) rfl fun b1 => .box (.t rfl) rfl fun b2 => .alloc [isB false, SlM isU [], isB false, SlM isU []] zero75 (fun _ _ => ⟨rfl, nilM _ _, rfl, nilM _ _, trivial⟩) rfl fun b3 => st (.as (.cB false)) rfl (nl (.thn (k1 _ _ (.seq fun _ k2 => .dr (.s [] rfl rfl rfl (.o rfl (.load (.t rfl) (i := 2) rfl ty75 rfl (Ss' := [_, _, _, _]) rfl)) (.s [6] rfl rfl rfl (.o rfl (.call (rat_normQ (q := p) (by omega)) (.cons (.t rfl) .nil))) (.s [] rfl rfl rfl (.o rfl (.load (.t rfl) (i := 1) rfl ty75 rfl (Ss' := [_, _, _, _]) rfl)) (.fin (n := 3) mixed (by kernel_rfl) (by kernel_rfl) (by kernel_rfl) (.cv (Cv.wk (.l [2, 3, 4, 5, 7, 8] rfl)) (st (.call (rat_normQ (q := q) (by omega)) (.cons (.t rfl) .nil)) rfl (.store (.t rfl) (.t rfl) (i := 2) rfl ty75 rfl rfl (Ss' := [_, _, _, _]) rfl (M' := [_, _, (some _, cellM [_, _, _, _])]) rfl (.store (.t rfl) (.t rfl) (i := 1) rfl ty75 rfl rfl (Ss' := [_, _, _, _]) rfl (M' := [_, (some _, cellM [_, _, _, _]), _]) rfl (nl (.thn (k2 _ _ (.seq fun _ k3 => .dr (.s [] rfl rfl rfl (.o rfl (.fieldAddr (.t rfl) fld75_0 ty36)) (.s [10] rfl rfl rfl (.o rfl (.load (.t rfl) (i := 2) rfl ty36 rfl (Ss' := [_, _]) rfl)) (.s [] rfl rfl rfl (.o rfl (.fieldAddr (.t rfl) fld75_1 ty36)) (.s [12] rfl rfl rfl (.o rfl (.load (.t rfl) (i := 1) rfl ty36 rfl (Ss' := [_, _]) rfl)) (.s [11, 13] rfl rfl rfl (.o rfl (.eq (.call (zint_Mul (by rw [val_words]; omega) (by rw [val_words]; omega)) (.cons (.t rfl) (.cons (.t rfl) .nil))) ((show isZ _ = isZ (p.num * q.den) from isZ_eq (by simp only [zv_nf]))))) ?_))))))))))))))))))))))
 refine .s [] rfl rfl rfl (.o rfl (.fieldAddr (.t rfl) fld75_1 ty36)) (.s [15] rfl rfl rfl (.o rfl (.load (.t rfl) (i := 2) rfl ty36 rfl (Ss' := [_, _]) rfl)) (.s [] rfl rfl rfl (.o rfl (.fieldAddr (.t rfl) fld75_0 ty36)) (.s [17] rfl rfl rfl (.o rfl (.load (.t rfl) (i := 1) rfl ty36 rfl (Ss' := [_, _]) rfl)) (.s [16, 18] rfl rfl rfl (.o rfl (.eq (.call (zint_Mul (by rw [val_words]; omega) (by rw [val_words]; omega)) (.cons (.t rfl) (.cons (.t rfl) .nil))) ((show isZ _ = isZ (p.den * q.num) from isZ_eq (by simp only [zv_nf]))))) ?_))))
 refine .s [14, 19] rfl rfl rfl (.o rfl (.eq (.call (rat_MakeZ (x := p.num * q.den) (y := p.den * q.num) (by omega) (by omega) (Int.mul_ne_zero (den_ne p) (num_ne h0))) (.cons (.t rfl) (.cons (.t rfl) .nil))) ((show _ = isTup [isQ (p / q), isB true] from by rw [quo_divInt])))) (.s [20] rfl rfl rfl (.o rfl (.ext (.t rfl) rfl)) (.s [20] rfl rfl rfl (.o rfl (.ext (.t rfl) rfl)) (.fin (n := 13) mixed (by kernel_rfl) (by kernel_rfl) (by kernel_rfl) (.cv (Cv.wk (.l [4, 5, 21, 22] rfl)) (.store (.t rfl) (.t rfl) (i := 0) rfl ty75 rfl rfl (Ss' := [_, _, _, _]) rfl (M' := [(some _, cellM [_, _, _, _]), _, _]) rfl (st (.as (.t rfl)) rfl (nl (.thn (k3 _ _ (.ret (rtN (.inl rfl) Tryz.results127 rfl rfl (.cell rfl (i := 0) rfl ty75 rfl ?_ (.tmp (Has.t' rfl ?_) .nil)))))))))))))
 ·rfl
 ·rfl
theorem rat_Neg {q : Rat} {A : Nat} (hq : qs q ≤ A) (hA : A ≤ 1000000000) : Ctr Tryz.prog 147 [isQ q] (isQ (-q)) := by
 refine Ctr.intro Tryz.func147 rfl (by kernel_rfl) Tryz.ntmps147 rfl fun w0 F0 => .cv (Cv.wk (.l [0] rfl)) ?_
 have g3 := qs_num hq
 have g4 := qs_dn hq
 refine .seq fun _ k1 => .region (.box (.t rfl) rfl fun b1 => .alloc [isB false, SlM isU [], isB false, SlM isU []] zero75 (fun _ _ => ⟨rfl, nilM _ _, rfl, nilM _ _, trivial⟩) rfl fun b2 => nl (.thn (k1 _ _ (.seq fun _ k2 => .region (st (.load (.t rfl) (i := 1) rfl ty75 rfl (Ss' := [_, _, _, _]) rfl) rfl (st (.call (rat_normQ (q := q) (by omega)) (.cons (.t rfl) .nil)) rfl (.store (.t rfl) (.t rfl) (i := 1) rfl ty75 rfl rfl (Ss' := [_, _, _, _]) rfl (M' := [_, (some _, cellM [_, _, _, _])]) rfl (nl (.thn (k2 _ _ (.seq fun _ k3 => .dr (.s [] rfl rfl rfl (.o rfl (.fieldAddr (.t rfl) fld75_0 ty36)) (.s [5] rfl rfl rfl (.o rfl (.load (.t rfl) (i := 1) rfl ty36 rfl (Ss' := [_, _]) rfl)) (.s [6] rfl rfl rfl (.o rfl (.eq (.call (zint_Neg (by rw [val_words]; omega)) (.cons (.t rfl) .nil)) ((show isZ _ = isZ (-q.num) from isZ_eq (by simp only [zv_nf]))))) ?_))))))))))))))
 refine .s [] rfl rfl rfl (.o rfl (.fieldAddr (.t rfl) fld75_1 ty36)) (.s [8] rfl rfl rfl (.o rfl (.load (.t rfl) (i := 1) rfl ty36 rfl (Ss' := [_, _]) rfl)) (.fin (n := 5) mixed (by kernel_rfl) (by kernel_rfl) (by kernel_rfl) (.cv (Cv.wk (.l [2, 7, 9] rfl)) (st (.build [isB false, SlM isU [], isB false, SlM isU []] pl75 zero75 (fun _ _ => ⟨rfl, nilM _ _, rfl, nilM _ _, trivial⟩) (.cons (.t rfl) rfl rfl rfl (.cons (.t rfl) rfl rfl rfl .nil)) (Z'' := [_, _, _, _]) rfl) rfl (.store (.t rfl) (.t rfl) (i := 0) rfl ty75 rfl rfl (Ss' := [_, _, _, _]) rfl (M' := [(some _, cellM [_, _, _, _]), _]) rfl (nl (.thn (k3 _ _ (.ret (rt1 (.inl rfl) Tryz.results147 rfl (.cell rfl (i := 0) rfl ty75 rfl ?_ .nil)))))))))))
 all_goals (rfl)
theorem rat_Sub {p q : Rat} {A B : Nat} (hp : qs p ≤ A) (hq : qs q ≤ B) (hAB : A + B ≤ 1000000000) : Ctr Tryz.prog 141 [isQ p, isQ q] (isQ (p - q)) := by
 refine Ctr.intro Tryz.func141 rfl (by kernel_rfl) Tryz.ntmps141 rfl fun w0 F0 => .cv (Cv.wk (.l [0, 1] rfl)) (.seq fun _ k1 => .region (.box (.t rfl) rfl fun b1 => .box (.t rfl) rfl fun b2 => .alloc [isB false, SlM isU [], isB false, SlM isU []] zero75 (fun _ _ => ⟨rfl, nilM _ _, rfl, nilM _ _, trivial⟩) rfl fun b3 => nl (.thn (k1 _ _ (.seq fun _ k2 => .dr (.s [] rfl rfl rfl (.o rfl (.load (.t rfl) (i := 2) rfl ty75 rfl (Ss' := [_, _, _, _]) rfl)) (.s [] rfl rfl rfl (.o rfl (.load (.t rfl) (i := 1) rfl ty75 rfl (Ss' := [_, _, _, _]) rfl)) (.s [6] rfl rfl rfl (.o rfl (.call (rat_Neg hq (by omega)) (.cons (.t rfl) .nil))) (.fin (n := 3) mixed (by kernel_rfl) (by kernel_rfl) (by kernel_rfl) (.cv (Cv.wk (.l [4, 5, 7] rfl)) (st (.eq (.call (rat_Add hp (qs_neg hq) hAB) (.cons (.t rfl) (.cons (.t rfl) .nil))) ((isQ_eq (Rat.sub_eq_add_neg p q).symm))) rfl (.store (.t rfl) (.t rfl) (i := 0) rfl ty75 rfl rfl (Ss' := [_, _, _, _]) rfl (M' := [(some _, cellM [_, _, _, _]), _, _]) rfl (nl (.thn (k2 _ _ (.ret (rt1 (.inl rfl) Tryz.results141 rfl (.cell rfl (i := 0) rfl ty75 rfl ?_ .nil))))))))))))))))))
 all_goals (rfl)
theorem rat_Sign {q : Rat} {A : Nat} (hq : qs q ≤ A) (hA : A ≤ 2000000000) : Ctr Tryz.prog 77 [isQ q] (isI (sgn q.num)) := by
 refine Ctr.intro Tryz.func77 rfl (by kernel_rfl) Tryz.ntmps77 rfl fun w0 F0 => .cv (Cv.wk (.l [0] rfl)) ?_
 have g3 := qs_num hq
 have g4 := qs_dn hq
 have hd := den_pos q
 have hsd : sgn ((q.den : Nat) : Int) = 1 := by rcases sgn_cases ((q.den : Nat) : Int) with h | h | h <;> omega
 have hsr := sgn_range q.num
 refine .seq fun _ k1 => .region (.box (.t rfl) rfl fun b1 => st (.as (.cI 0 rfl)) rfl (nl (.thn (k1 _ _ (.seq fun _ k2 => .dr (.s [] rfl rfl rfl (.o rfl (.fieldAddr (.t rfl) fld75_0 ty36)) (.s [3] rfl rfl rfl (.o rfl (.load (.t rfl) (i := 0) rfl ty36 rfl (Ss' := [_, _]) rfl)) (.s [4] rfl rfl rfl (.o rfl (.eq (.call (zint_Sign (by rw [val_words]; omega)) (.cons (.t rfl) .nil)) ((show isI _ = isI (sgn q.num) from isI_eq (by rw [zv_nf]))))) ?_))))))))
 refine .s [] rfl rfl rfl (.o rfl (.fieldAddr (.t rfl) fld75_1 ty36)) (.s [6] rfl rfl rfl (.o rfl (.load (.t rfl) (i := 0) rfl ty36 rfl (Ss' := [_, _]) rfl)) (.fin (n := 5) mixed (by kernel_rfl) (by kernel_rfl) (by kernel_rfl) (.cv (Cv.wk (.l [2, 5, 7] rfl)) (st (.eq (.call (zint_Sign (by rw [val_words]; omega)) (.cons (.t rfl) .nil)) ((show isI _ = isI 1 from isI_eq (by rw [zv_nf, hsd])))) rfl ?_))))
 refine st (.mulI (.t rfl) (.t rfl) (by omega) (by omega)) rfl (st (.as (.t rfl)) rfl (nl (.thn (k2 _ _ (.ret (rt1 (.inl rfl) Tryz.results77 rfl (.tmp (Has.t' rfl ?_) .nil)))))))
 all_goals (exact isI_eq (Int.mul_one _))
theorem rat_Whole {q : Rat} {A : Nat} (hq : qs q ≤ A) (hA : A ≤ 1000000000) (hd : q.den = 1) : Ctr Tryz.prog 42 [isQ q] (isTup [isZ q.num, isB true]) := by
 refine Ctr.intro Tryz.func42 rfl (by kernel_rfl) Tryz.ntmps42 rfl fun w0 F0 => .cv (Cv.wk (.l [0] rfl)) ?_
 have g3 := qs_num hq
 have g4 := qs_dn hq
 have h1w : (List.length (words (1 : Int).natAbs)) ≤ 1 := nw_small' (by decide)
 refine .seq fun _ k1 => .region (.box (.t rfl) rfl fun b1 => .alloc [isB false, SlM isU []] zero36 (fun _ _ => ⟨rfl, nilM _ _, trivial⟩) rfl fun b2 => st (.as (.cB false)) rfl (nl (.thn (k1 _ _ (.seq fun _ k2 => .region (st (.load (.t rfl) (i := 1) rfl ty75 rfl (Ss' := [_, _, _, _]) rfl) rfl (st (.call (rat_normQ (q := q) (by omega)) (.cons (.t rfl) .nil)) rfl (.store (.t rfl) (.t rfl) (i := 1) rfl ty75 rfl rfl (Ss' := [_, _, _, _]) rfl (M' := [_, (some _, cellM [_, _, _, _])]) rfl (nl (.thn (k2 _ _ (.seq fun _ k3 => .seq fun _ k4 => .dr (.s [] rfl rfl rfl (.o rfl (.fieldAddr (.t rfl) fld75_1 ty36)) (.s [6] rfl rfl rfl (.o rfl (.load (.t rfl) (i := 1) rfl ty36 rfl (Ss' := [_, _]) rfl)) (.s [] rfl rfl rfl (.o rfl (.call (zint_Of) (.cons (.cI 1 rfl) .nil))) (.fin (n := 3) mixed (by kernel_rfl) (by kernel_rfl) (by kernel_rfl) (.cv (Cv.wk (.l [1, 2, 3, 7, 8] rfl)) (st (.eq (.call (zint_Same (by rw [val_words]; omega) (by rw [val_words]; omega)) (.cons (.t rfl) (.cons (.t rfl) .nil))) ((show isB _ = isB true from isB_eq (decide_eq_true (by simp only [zv_nf]; rw [hd]; rfl))))) rfl ?_))))))))))))))))))
 refine st (.not (.t rfl)) rfl (nl (.thn (k4 _ _ (.cond (.t rfl) (fun hc1 => ?_) (fun hc1 => ?_)))))
 ·have hc1 := BP.t hc1
  exfalso; simp at hc1
 ·have hc1 := BP.f hc1
  skip
  refine .skip (.thn (k3 _ _ (.seq fun _ k5 => .region (st (.fieldAddr (.t rfl) fld75_0 ty36) rfl (st (.load (.t rfl) (i := 1) rfl ty36 rfl (Ss' := [_, _]) rfl) rfl (.store (.t rfl) (.t rfl) (i := 0) rfl ty36 rfl rfl (Ss' := [_, _]) rfl (M' := [(some _, cellM [_, _]), _]) rfl (st (.as (.cB true)) rfl (nl (.thn (k5 _ _ (.cv (Cv.wk (.l [2, 3] rfl)) (.ret (rtN (.inl rfl) Tryz.results42 rfl rfl (.cell rfl (i := 0) rfl ty36 rfl ?_ (.tmp (Has.t' rfl ?_) .nil)))))))))))))))
  ·rfl
  ·rfl
end Go.Proofs.YtcfobalbkhgdmaaGreat
namespace Go.En
open Go.RowKit Go.Nt Go.Pz
section
variable {E : Env} {P : Program} {Γ : Ctx} {M : Mem}
theorem All2.conv {α : Type} {f g : α → VP} {w : World} {F : Blk} : ∀ {xs : List α} {Us : List VP} {vs : List Value}, (∀ x ∈ xs, ∀ v, (f x).h w F v → (g x).h w F v) → All2 (xs.map f ++ Us) w F vs → All2 (xs.map g ++ Us) w F vs
 | [], Us, vs, _, h => h
 | x :: xs, Us, v :: vs, hc, h => ⟨hc x (by simp) v h.1, All2.conv (fun y hy => hc y (by simp [hy])) h.2⟩
 | _ :: _, _, [], _, h => h.elim
theorem Sat.memSetO {a : Act} {w : World} {F : Blk} {i : Nat} {ob : Option Nat} {C C' : MP} (s : Sat E Γ M a w F) (hM : M[i]? = some (ob, C)) (h : ∀ o, C.h w F o → C'.h w F o) : Sat E Γ (M.set i (ob, C')) a w F := by
  cases ob with
  | some b => exact s.memSet hM h
  | none =>
    refine { s with mem := ⟨?_, fun b D hb => ?_⟩ }
    · rw [List.pairwise_iff_getElem]
      intro j k hj hk hjk
      have hp := List.pairwise_iff_getElem.1 s.mem.apart j k (by simpa using hj) (by simpa using hk) hjk
      simp only [List.getElem_set]
      have hi : i < M.length := by
        rcases Nat.lt_or_ge i M.length with h' | h'
        · exact h'
        · rw [List.getElem?_eq_none h'] at hM; cases hM
      have hMi : M[i] = (none, C) := by rw [List.getElem?_eq_getElem hi] at hM; exact Option.some.inj hM
      by_cases e1 : i = j
      · simp [e1]
      · by_cases e2 : i = k
        · subst e2
          simp only [e1, if_true, if_false]
          rw [hMi] at hp
          exact hp
        · simp only [e1, e2, if_false]; exact hp
    · obtain ⟨j, hj, he⟩ := List.mem_iff_getElem.1 hb
      simp only [List.getElem_set] at he
      by_cases e1 : i = j
      · simp only [e1, if_true] at he; cases he
      · simp only [e1, if_false] at he
        exact s.mem.each b D (he ▸ List.getElem_mem _)
end
end Go.En
namespace Go.En
open Go.Nt Go.Mz Go.Mu Go.Qe Go.RowKit
abbrev RowQ : Type := Gr ((Bool × List Nat) × Bool × List Nat) × List Rat
abbrev rowVQ (r : RowQ) : VP := isGr r.1 (r.2.map nq).length
abbrev rowMQ (r : RowQ) : Option Nat × MP := grMK rc r.1 (r.2.map nq)
theorem wkAtQ {pre : Mem} {rs : List RowQ} {i : Nat} {r : RowQ} (h : rs[i]? = some r) : (pre ++ rs.map rowMQ)[pre.length + i]? = some (rowMQ r) := by
 rw [List.getElem?_append_right (by omega), Nat.add_sub_cancel_left, List.getElem?_map, h]; rfl
theorem wkStQ {pre : Mem} {rs : List RowQ} {i j : Nat} {r : RowQ} {v : Rat} (h : rs[i]? = some r) : (pre ++ rs.map rowMQ).set (pre.length + i) (grMK rc r.1 ((r.2.map nq).set j (nq v))) = pre ++ (rs.set i (r.1, r.2.set j v)).map rowMQ := by
 rw [List.set_append_right _ _ (by omega), Nat.add_sub_cancel_left, set_nq, List.map_set (f := rowMQ)]
theorem wkStoreQ {pre : Mem} {rs : List RowQ} {X : RowQ} {i j : Nat} {v : Rat} {L : List Rat} (h : (rs.set i X)[i]? = some X) (e : X.2.set j v = L) :
  (pre ++ (rs.set i X).map rowMQ).set (pre.length + i) (grMK rc X.1 ((X.2.map nq).set j (nq v))) = pre ++ (rs.set i (X.1, L)).map rowMQ := by
 rw [wkStQ h, e, List.set_set]
theorem perm_tailQ {pre : Mem} {rs rs' : List RowQ} (h : rs'.Perm rs) : (pre ++ rs.map rowMQ).Perm (pre ++ rs'.map rowMQ) := (h.symm.map rowMQ).append_left pre
abbrev wk0Q (bw : Nat) (gp : Gr Int) (gt : Gr RowQ) (n C : Nat) (ps : List Nat) : Option Nat × MP := (some bw, cellM [isGr gt n, isI (C : Int), isGr gp (pv ps).length])
abbrev wkMQ (bw : Nat) (gp : Gr Int) (gt : Gr RowQ) (rs : List RowQ) (C : Nat) (ps : List Nat) : Mem := wk0Q bw gp gt rs.length C ps :: grM isI gp (pv ps) :: grM rowVQ gt rs :: rs.map rowMQ
theorem tab_setQ {gt : Gr RowQ} {rs : List RowQ} {i : Nat} {r : RowQ} {L : List Rat} (h : rs[i]? = some r) (hl : L.length = r.2.length) : grM rowVQ gt (rs.set i (r.1, L)) = grM rowVQ gt rs := by
 unfold grM
 have e : (rs.set i (r.1, L)).map rowVQ = rs.map rowVQ := by
  rw [List.map_set]
  refine set_same ?_
  rw [List.getElem?_map, h]
  show some (isGr r.1 (r.2.map nq).length) = some (isGr r.1 (L.map nq).length)
  rw [List.length_map, List.length_map, hl]
 rw [List.map_append, List.map_append, e]
theorem mixQ_start {pre : Mem} {rs : List RowQ} {i : Nat} {r : RowQ} {new : List Rat} (h : rs[i]? = some r) : pre ++ rs.map rowMQ = pre ++ (rs.set i (r.1, mxQ new r.2 0)).map rowMQ := by
 rw [mxQ_zero, show rs.set i (r.1, r.2) = rs from set_same h]
theorem wkQ_round {A B : Option Nat × MP} {i : Nat} {gt : Gr RowQ} {rs : List RowQ} {new : List Rat} {r : RowQ} (h : rs[i]? = some r) (hl : new.length = r.2.length) {n : Nat} (hn : n = r.2.length) :
  (A :: B :: grM rowVQ gt rs :: (rs.set i (r.1, mxQ new r.2 n)).map rowMQ : Mem) = A :: B :: grM rowVQ gt (rs.set i (r.1, new)) :: (rs.set i (r.1, new)).map rowMQ := by
 subst hn
 rw [mxQ_all hl, tab_setQ h hl]
section
variable {E : Env} {P : Program} {Γ : Ctx} {M : Mem} {x : Operand}
theorem HasB.rowsQ {gt : Gr RowQ} {rs : List RowQ} {n lo : Nat} {pre : Mem} (hx : Has E Γ M x (isGrP gt n lo)) (hn : n = rs.length) (hM : M = pre ++ grM rowVQ gt rs :: rs.map rowMQ) : HasB E Γ M x (SlM isQs ((rs.map Prod.snd).drop lo)) := by
 subst hn
 intro a w F s
 obtain ⟨ad, cap, he, h1, h2, h3⟩ := hx a w F s
 have hl : ((rs.map Prod.snd).drop lo).length = rs.length - lo := by rw [List.length_drop, List.length_map]
 refine ⟨ad, cap, by rw [he, hl], by omega, h2, by rw [List.length_map, Nat.mul_one], ?_⟩
 rcases h3 with h3 | ⟨b, hob, rfl⟩
 ·left; omega
 ·right
  have hmem : (some b, cellM ((rs ++ gt.sp).map rowVQ)) ∈ M := by
   rw [hM]; unfold grM; rw [hob]; simp
  obtain ⟨g1, g2, g3, o, g4, vs, T', rfl, hv⟩ := s.mem.each b _ hmem
  refine ⟨b, lo, rfl, .inr (mem_blks.2 ⟨_, hmem⟩), (vs.take rs.length).drop lo, ?_, fun j u hj => ?_⟩
  ·rw [List.map_append] at hv
   have h4 : All2 (rs.map rowVQ) w F (vs.take rs.length) := by
    have := hv.take rs.length
    rwa [List.take_left' (by rw [List.length_map])] at this
   have h5 : All2 (rs.map fun r => isQs r.2) w (lent M F) (vs.take rs.length) := by
    refine All2.convB (fun r hr v hv => ?_) h4
    obtain ⟨i, hi⟩ := List.mem_iff_getElem?.1 hr
    have hlf : ((r.2.map nq).flatMap rc).length = (r.2.map nq).length * 4 := flat_len rc_len _
    rcases hv with ⟨_, h6, rfl⟩ | ⟨b2, hob2, rfl, h6, h7⟩
    ·exact ⟨none, 0, by show Value.slice none 0 0 = .slice none (r.2.map nq).length 0; rw [h6], by omega, by rw [maxLen_eq]; omega, hlf, .inl h6⟩
    ·have hm2 : (some b2, cellM ((r.2.map nq ++ r.1.sp).flatMap rc)) ∈ M := by
      rw [hM]
      refine List.mem_append_right _ (List.mem_cons_of_mem _ (List.mem_map.2 ⟨r, hr, ?_⟩))
      show grMK rc r.1 (r.2.map nq) = _
      unfold grMK; rw [hob2]
     obtain ⟨k1, k2, k3, o2, k4, us, T2, rfl, hu⟩ := s.mem.each b2 _ hm2
     refine ⟨_, _, rfl, by omega, h7, hlf, .inr ⟨b2, 0, rfl, .inr (mem_blks.2 ⟨_, hm2⟩), us.take ((r.2.map nq).length * 4), ?_, fun j u hj => ?_⟩⟩
     ·have := hu.take ((r.2.map nq).length * 4)
      rw [gr_takeK (g := r.1) rc_len] at this
      exact All2.mono (fun _ _ => rfl) (fun _ h => .inl h) _ _ this
     ·rw [Nat.zero_add]
      have hj2 : j < (r.2.map nq).length * 4 := by
       rcases Nat.lt_or_ge j ((r.2.map nq).length * 4) with h | h
       ·exact h
       ·rw [List.getElem?_take_eq_none h] at hj; cases hj
      rw [List.getElem?_take_of_lt hj2] at hj
      simp [World.cell?, k4, hj]
   have h6 := h5.drop lo
   rwa [← List.map_drop, show ((rs.drop lo).map fun r => isQs r.2) = ((rs.map Prod.snd).drop lo).map isQs by rw [← List.map_drop, List.map_map]; rfl] at h6
  ·rw [List.getElem?_drop] at hj
   have hj2 : lo + j < rs.length := by
    rcases Nat.lt_or_ge (lo + j) rs.length with h | h
    ·exact h
    ·rw [List.getElem?_take_eq_none h] at hj; cases hj
   rw [List.getElem?_take_of_lt hj2] at hj
   simp [World.cell?, g4, hj]
end
/-! ### handed on -/
section
variable {E : Env} {P : Program} {Γ : Ctx} {M : Mem}
theorem Sat.freezeRowsQ {a : Act} {w : World} {A : Mem} (hW : E.W = []) : ∀ (rs : List RowQ) (F : Blk), Sat E Γ (A ++ rs.map rowMQ) a w F →
    ∃ F', (∀ b, F b → F' b) ∧ Sat E Γ A a w F' ∧ ∀ r ∈ rs, ∀ v, (rowVQ r).h w F v → (isQs r.2).h w F' v
  | [], F, s => ⟨F, fun _ h => h, by rw [List.map_nil, List.append_nil] at s; exact s, by simp⟩
  | r :: rs, F, s => by
    have hM : (A ++ (r :: rs).map rowMQ)[A.length]? = some (r.1.ob, cellM ((r.2.map nq ++ r.1.sp).flatMap rc)) := by
      rw [List.getElem?_append_right (Nat.le_refl _), Nat.sub_self]; rfl
    obtain ⟨F1, h1, s1, c1⟩ := s.freezeGr (k := 4) (g := r.1) (n := (r.2.map nq).length) hW hM (gr_lenK rc_len) (gr_takeK rc_len)
    have he : (A ++ (r :: rs).map rowMQ).eraseIdx A.length = A ++ rs.map rowMQ := by
      rw [List.eraseIdx_append_of_length_le (Nat.le_refl _), Nat.sub_self]; rfl
    rw [he] at s1
    obtain ⟨F2, h2, s2, c2⟩ := Sat.freezeRowsQ hW rs F1 s1
    refine ⟨F2, fun b hb => h2 b (h1 b hb), s2, fun q hq v hv => ?_⟩
    rcases List.mem_cons.1 hq with rfl | hq
    · exact (isQs q.2).mono _ _ _ _ _ (c1 v hv) (fun _ _ => rfl) h2
    · exact c2 q hq v hv
theorem Cv.freezeRowsQ {A : Mem} {i : Nat} {gt : Gr RowQ} {rs : List RowQ} (hW : E.W = []) (hA : A[i]? = some (grM rowVQ gt rs)) :
  Cv E Γ (A ++ rs.map rowMQ) Γ (A.set i (gt.ob, cellM (rs.map (fun r => isQs r.2) ++ gt.sp.map rowVQ))) := fun a w F s => by
 obtain ⟨F', hsub, s', hc⟩ := s.freezeRowsQ hW rs F
 refine ⟨F', s'.memSetO hA fun o ⟨vs, ty, e, h⟩ => ⟨vs, ty, e, ?_⟩⟩
 rw [List.map_append] at h
 exact All2.conv (f := rowVQ) (g := fun r => isQs r.2) (fun r hr v hv => hc r hr v hv) h
theorem rowsSlQ {rs : List RowQ} : SlL 1 rs.length (rs.map fun r => isQs r.2) = SlM isQs (rs.map Prod.snd) := by
 unfold SlM
 rw [List.length_map, List.map_map]; rfl
abbrev wkFQ (C : Nat) (s : QS) : VP := PtrL [SlM isQs s.rows, isI (C : Int), SlM isI (pv s.ps)]
theorem Cv.freezeWkQ {t bw C : Nat} {gp : Gr Int} {gt : Gr RowQ} {rs : List RowQ} {ps : List Nat} (hW : E.W = []) (ht : look Γ t = some (isPtr bw 0)) :
  Cv E Γ (wkMQ bw gp gt rs C ps) ((t, wkFQ C ⟨rs.map Prod.snd, ps⟩) :: Γ) [] := by
 have h1 := Cv.freezeRowsQ (E := E) (Γ := Γ) (A := [wk0Q bw gp gt rs.length C ps, grM isI gp (pv ps), grM rowVQ gt rs]) (i := 2) hW rfl
 refine Cv.trans h1 ?_
 have hl : rs.length * 1 ≤ (rs.map (fun r => isQs r.2) ++ gt.sp.map rowVQ).length := by rw [List.length_append, List.length_map]; omega
 have he : (rs.map (fun r => isQs r.2) ++ gt.sp.map rowVQ).take (rs.length * 1) = rs.map fun r => isQs r.2 := by rw [Nat.mul_one, List.take_left' (by rw [List.length_map])]
 have h2 := Cv.freezeF (E := E) (Γ := Γ) (M := [wk0Q bw gp gt rs.length C ps, grM isI gp (pv ps), (gt.ob, cellM (rs.map (fun r => isQs r.2) ++ gt.sp.map rowVQ))]) (k := 1) (i := 2) (j := 0) (o := 0) (g := gt) (n := rs.length) hW rfl rfl rfl hl he rfl
 refine Cv.trans h2 ?_
 have h3 := Cv.freezeF (E := E) (Γ := Γ) (M := [(some bw, cellM [SlL 1 rs.length (rs.map fun r => isQs r.2), isI (C : Int), isGr gp (pv ps).length]), grM isI gp (pv ps)]) (k := 1) (i := 1) (j := 0) (o := 2) (g := gp) (n := (pv ps).length) hW rfl rfl rfl gr_lenM gr_takeM rfl
 refine Cv.trans h3 ?_
 rw [rowsSlQ]
 exact Cv.freezeBox (i := 0) hW ht rfl
end
/-! ### what a column's step does -/
theorem wkQ_len {bw n C : Nat} {gp : Gr Int} {gt : Gr RowQ} {rs : List RowQ} {ps : List Nat} (h : n = rs.length) : (wk0Q bw gp gt n C ps :: grM isI gp (pv ps) :: grM rowVQ gt rs :: rs.map rowMQ : Mem) = wkMQ bw gp gt rs C ps := by subst h; rfl
theorem wkQ_take {bw i k C : Nat} {gp : Gr Int} {gt : Gr RowQ} {rs : List RowQ} {ps : List Nat} {r : RowQ} {new : List Rat} (h : rs[i]? = some r) (hl : new.length = r.2.length) (hk : k = r.2.length) :
  (wk0Q bw gp gt rs.length C ps :: grM isI gp (pv ps) :: grM rowVQ gt rs :: (rs.set i (r.1, mxQ new r.2 k)).map rowMQ : Mem) = wkMQ bw gp gt (rs.set i (r.1, new)) C ps :=
 (wkQ_round h hl hk).trans (wkQ_len (by rw [List.length_set]))
theorem wkQ_app {bw n m col C : Nat} {gp : Gr Int} {gt : Gr RowQ} {rs : List RowQ} {ps : List Nat} (h : n = rs.length) (h2 : m = (pv ps).length + 1) :
  ((some bw, cellM [isGr gt n, isI (C : Int), isGr gp m]) :: grM isI gp (pv ps ++ [(col : Int)]) :: grM rowVQ gt rs :: rs.map rowMQ : Mem) = wkMQ bw gp gt rs C (ps ++ [col]) := by
 subst h; subst h2
 show _ = (some bw, cellM [_, _, isGr gp (pv (ps ++ [col])).length]) :: grM isI gp (pv (ps ++ [col])) :: _
 rw [← pv_snoc, List.length_append]; rfl
theorem swQ_rows {rs : List RowQ} {ri rt : RowQ} {t n W : Nat} (hrow : ∀ r ∈ rs, r.2.length = W) (hi : rs[t + n]? = some ri) (ht : rs[t]? = some rt) : ∀ r ∈ (rs.set t ri).set (t + n) rt, r.2.length = W := fun r hr => by
 rcases List.mem_or_eq_of_mem_set hr with h1 | rfl
 ·rcases List.mem_or_eq_of_mem_set h1 with h2 | rfl
  ·exact hrow r h2
  ·exact hrow r (List.mem_of_getElem? hi)
 ·exact hrow r (List.mem_of_getElem? ht)
theorem swQ_qb {rs : List RowQ} {ri rt : RowQ} {t n K : Nat} (hrow : ∀ r ∈ rs, QB r.2 K) (hi : rs[t + n]? = some ri) (ht : rs[t]? = some rt) : ∀ r ∈ (rs.set t ri).set (t + n) rt, QB r.2 K := fun r hr => by
 rcases List.mem_or_eq_of_mem_set hr with h1 | rfl
 ·rcases List.mem_or_eq_of_mem_set h1 with h2 | rfl
  ·exact hrow r h2
  ·exact hrow r (List.mem_of_getElem? hi)
 ·exact hrow r (List.mem_of_getElem? ht)
theorem swQ_map {rs : List RowQ} {ri rt : RowQ} {t n : Nat} (hi : rs[t + n]? = some ri) (ht : rs[t]? = some rt) : ((rs.set t ri).set (t + n) rt).map Prod.snd = swQ (rs.map Prod.snd) t n := by
 unfold swQ
 rw [List.map_set, List.map_set]
 have e1 : (rs.map Prod.snd).getD (t + n) [] = ri.2 := by rw [List.getD, List.getElem?_map, hi]; rfl
 have e2 : (rs.map Prod.snd).getD t [] = rt.2 := by rw [List.getD, List.getElem?_map, ht]; rfl
 rw [e1, e2]
theorem swQ_perm {rs : List RowQ} {ri rt : RowQ} {t n : Nat} (hi : rs[t + n]? = some ri) (ht : rs[t]? = some rt) : ((rs.set t ri).set (t + n) rt).Perm rs := by
 by_cases e : n = 0
 ·subst e
  rw [Nat.add_zero] at hi ⊢
  rw [List.set_set, set_same ht]
 ·exact swap_perm ht hi (by omega)
def TakQ (rs1 : List RowQ) (top col : Nat) (b' : List Rat) (i : Nat) (rs3 : List RowQ) : Prop :=
 ∀ j : Nat, rs3[j]? = if j = top then (rs1[j]?).map (fun x => (x.1, b')) else if j < i then (rs1[j]?).map (fun x => (x.1, lsQ x.2 b' (qf x.2 col))) else rs1[j]?
theorem TakQ.start {rs1 : List RowQ} {top col : Nat} {b' : List Rat} {b : RowQ} (hb : rs1[top]? = some b) : TakQ rs1 top col b' 0 (rs1.set top (b.1, b')) := fun j => by
 by_cases e : j = top
 ·subst e
  rw [if_pos rfl, List.getElem?_set_self (List.getElem?_eq_some_iff.1 hb).1, hb]; rfl
 ·rw [if_neg e, if_neg (Nat.not_lt_zero _), List.getElem?_set_ne (fun h => e h.symm)]
theorem TakQ.len {rs1 rs3 : List RowQ} {top col i : Nat} {b' : List Rat} (h : TakQ rs1 top col b' i rs3) : rs3.length = rs1.length := by
 have hiff : ∀ j, rs3[j]? = none ↔ rs1[j]? = none := fun j => by
  rw [h j]
  split
  ·cases rs1[j]? <;> simp
  ·split
   ·cases rs1[j]? <;> simp
   ·exact Iff.rfl
 have h1 := (hiff rs1.length).2 (List.getElem?_eq_none (Nat.le_refl _))
 have h2 := (hiff rs3.length).1 (List.getElem?_eq_none (Nat.le_refl _))
 rw [List.getElem?_eq_none_iff] at h1 h2
 omega
theorem TakQ.top {rs1 rs3 : List RowQ} {top col i : Nat} {b' : List Rat} {b : RowQ} (h : TakQ rs1 top col b' i rs3) (hb : rs1[top]? = some b) : rs3[top]? = some (b.1, b') := by
 rw [h top, if_pos rfl, hb]; rfl
theorem TakQ.here {rs1 rs3 : List RowQ} {top col i j : Nat} {b' : List Rat} {x : RowQ} (h : TakQ rs1 top col b' i rs3) (hj : i ≤ j) (hx : rs3[j]? = some x) (hne : j ≠ top) : rs1[j]? = some x := by
 rw [h j, if_neg hne, if_neg (by omega)] at hx; exact hx
theorem TakQ.step {rs1 rs3 : List RowQ} {top col i : Nat} {b' : List Rat} {x : RowQ} (h : TakQ rs1 top col b' i rs3) (hi : i < rs1.length) (hx : rs3[i]? = some x) (hne : i ≠ top) : TakQ rs1 top col b' (i + 1) (rs3.set i (x.1, lsQ x.2 b' (qf x.2 col))) := fun j => by
 have h1 := h.here (Nat.le_refl _) hx hne
 by_cases e : j = i
 ·subst e
  rw [List.getElem?_set_self (by rw [h.len]; exact hi), if_neg hne, if_pos (Nat.lt_succ_self _), h1]; rfl
 ·rw [List.getElem?_set_ne (fun h => e h.symm), h j]
  by_cases e2 : j = top
  ·rw [if_pos e2, if_pos e2]
  ·rw [if_neg e2, if_neg e2]
   by_cases e3 : j < i
   ·rw [if_pos e3, if_pos (by omega)]
   ·rw [if_neg e3, if_neg (by omega)]
theorem TakQ.skip {rs1 rs3 : List RowQ} {top col i : Nat} {b' : List Rat} (h : TakQ rs1 top col b' i rs3) (hne : i = top) : TakQ rs1 top col b' (i + 1) rs3 := fun j => by
 rw [h j]
 by_cases e2 : j = top
 ·rw [if_pos e2, if_pos e2]
 ·rw [if_neg e2, if_neg e2]
  by_cases e3 : j < i
  ·rw [if_pos e3, if_pos (by omega)]
  ·rw [if_neg e3, if_neg (by omega)]
theorem TakQ.mono {rs1 rs3 : List RowQ} {top col i : Nat} {b' : List Rat} (h : TakQ rs1 top col b' i rs3) (hi : rs1.length ≤ i) : TakQ rs1 top col b' rs1.length rs3 := fun j => by
 rw [h j]
 by_cases e2 : j = top
 ·rw [if_pos e2, if_pos e2]
 ·rw [if_neg e2, if_neg e2]
  by_cases e3 : j < rs1.length
  ·rw [if_pos (by omega), if_pos e3]
  ·rw [if_neg e3, List.getElem?_eq_none (by omega)]
   split <;> rfl
theorem qcol_did {n0 col : Nat} {rs rs1 rs3 : List RowQ} {ps : List Nat} {b : RowQ} (hn0 : n0 = ixn (nzQ col) ((rs.map Prod.snd).drop ps.length)) (hn1 : n0 < rs.length - ps.length) (hm1 : rs1.map Prod.snd = swQ (rs.map Prod.snd) ps.length n0)
  (hb : rs1[ps.length]? = some b) (hT : TakQ rs1 ps.length col (scQ b.2 (1 / qf b.2 col)) rs1.length rs3) :
  qcol ⟨rs.map Prod.snd, ps⟩ col = ⟨rs3.map Prod.snd, ps ++ [col]⟩ := by
 unfold qcol
 have hlt : ixn (nzQ col) ((rs.map Prod.snd).drop ps.length) < (List.drop ps.length (rs.map Prod.snd)).length := by rw [← hn0, List.length_drop, List.length_map]; exact hn1
 rw [if_pos hlt, ← hn0, ← hm1]
 have hbt : (rs1.map Prod.snd).getD ps.length [] = b.2 := by rw [List.getD, List.getElem?_map, hb]; rfl
 simp only [hbt]
 congr 1
 refine List.ext_getElem? fun j => ?_
 rw [List.getElem?_map, List.getElem?_map, hT j]
 by_cases hj : j < rs1.length
 ·rw [List.getElem?_range (by rw [List.length_map]; exact hj)]
  have hx : rs1[j]? = some rs1[j] := List.getElem?_eq_getElem hj
  have hg : (rs1.map Prod.snd).getD j [] = rs1[j].2 := by rw [List.getD, List.getElem?_map, hx]; rfl
  simp only [Option.map_some, hg, hx, if_pos hj]
  split <;> rfl
 ·rw [List.getElem?_eq_none (by rw [List.length_range, List.length_map]; omega), List.getElem?_eq_none (show rs1.length ≤ j by omega)]
  simp
end Go.En
namespace Go.Qe
open Go.En Go.Mz
def tabQ (N C : Nat) (g : Nat → Nat → Rat) : List Rat := (List.range N).map fun j => g (j / C) (j % C)
theorem tabQ_len (N C : Nat) (g : Nat → Nat → Rat) : (tabQ N C g).length = N := by unfold tabQ; rw [List.length_map, List.length_range]
theorem tabQ_succ {C i k : Nat} (g : Nat → Nat → Rat) (hk : k < C) : tabQ (i * C + k) C g ++ [g i k] = tabQ (i * C + (k + 1)) C g := by
 unfold tabQ
 rw [← Nat.add_assoc, List.range_succ, List.map_append, List.map_singleton, (divmod hk).1, (divmod hk).2]
theorem tabQ_next {C i : Nat} (g : Nat → Nat → Rat) : tabQ (i * C + C) C g = tabQ ((i + 1) * C + 0) C g := by rw [Nat.add_zero, Nat.succ_mul]
theorem tabQ_one {N : Nat} (g : Nat → Nat → Rat) : tabQ (N * 1) 1 g = (List.range N).map fun k => g k 0 := by
 unfold tabQ
 rw [Nat.mul_one]
 exact List.map_congr_left fun j _ => by rw [Nat.div_one, Nat.mod_one]
end Go.Qe
namespace Go.En
open Go.Mz Go.Qe Go.Pz Go.Nt
abbrev isMQ (r c : Int) (L : List Rat) : VP := Flat [isI r, isI c, isQs L]
abbrev ptMQ (r c : Int) (L : List Rat) : VP := PtrL [isI r, isI c, isQs L]
abbrev isAtQ (P : Program) (R C : Nat) (f : Nat → Nat → Rat) : VP := isFun (ι := PI R C) P (fun p => [isI (p.1.1 : Int), isI (p.1.2 : Int)]) (fun p => isQ (f p.1.1 p.1.2))
theorem grFq_eq {g : Gr ((Bool × List Nat) × Bool × List Nat)} {ys ys' : List ((Bool × List Nat) × Bool × List Nat)} {n : Nat} {b : Nat} {A B : VP} {r : Mem} (hn : n = ys'.length) (h : ys = ys') : (grMK rc g ys :: (some b, cellM [A, B, isGr g n]) :: r : Mem) = grMK rc g ys' :: (some b, cellM [A, B, isGr g ys'.length]) :: r := by subst h; subst hn; rfl
abbrev mc (p : Int × Int × List Int) : List VP := [isI p.1, isI p.2.1, isP p.2.2]
theorem mc_len : ∀ p, (mc p).length = 3 := fun _ => rfl
section
variable {E : Env} {Γ : Ctx} {M : Mem} {x : Operand} {α : Type} {fk : α → List VP} {k : Nat}
end
end Go.En
namespace Go.Proofs.YtcfobalbkhgdmaaGreat
open Go.En Go.RowKit
set_option maxRecDepth 10000
set_option maxHeartbeats 4000000
open Go.Nt
open Go.Pz
open Go.Mz
open Go.Mu
open Go.Qe
theorem qmat_zero  : Ctr Tryz.prog 81 [] (isQ 0) := by
 refine Ctr.intro Tryz.func81 rfl (by kernel_rfl) Tryz.ntmps81 rfl fun w0 F0 => .cv (Cv.wk .nil) (.seq fun _ k1 => .region (.alloc [isB false, SlM isU [], isB false, SlM isU []] zero75 (fun _ _ => ⟨rfl, nilM _ _, rfl, nilM _ _, trivial⟩) rfl fun b1 => nl (.thn (k1 _ _ (.seq fun _ k2 => .region (st (.build [isB false, SlM isU []] pl36 zero36 (fun _ _ => ⟨rfl, nilM _ _, trivial⟩) .nil (Z'' := [_, _]) rfl) rfl (st (.call (rat_Of (by exact Nat.le_trans (Nat.le_of_eq (congrArg _ words_zero)) (by decide))) (.cons (.t rfl) .nil)) rfl (.store (.t rfl) (.t rfl) (i := 0) rfl ty75 rfl rfl (Ss' := [_, _, _, _]) rfl (M' := [(some _, cellM [_, _, _, _])]) rfl (nl (.thn (k2 _ _ (.ret (rt1 (.inl rfl) Tryz.results81 rfl (.cell rfl (i := 0) rfl ty75 rfl ?_ .nil))))))))))))))
 all_goals (exact isQ_eq (by rfl))
theorem qmat_one  : Ctr Tryz.prog 128 [] (isQ 1) := by
 refine Ctr.intro Tryz.func128 rfl (by kernel_rfl) Tryz.ntmps128 rfl fun w0 F0 => .cv (Cv.wk .nil) (.seq fun _ k1 => .region (.alloc [isB false, SlM isU [], isB false, SlM isU []] zero75 (fun _ _ => ⟨rfl, nilM _ _, rfl, nilM _ _, trivial⟩) rfl fun b1 => nl (.thn (k1 _ _ (.seq fun _ k2 => .region (st (.call (zint_Of) (.cons (.cI 1 rfl) .nil)) rfl (st (.call (rat_Of (by rw [val_words]; exact Nat.le_trans (nw_small' (by decide)) (by decide))) (.cons (.t rfl) .nil)) rfl ?_)))))))
 refine .store (.t rfl) (.t rfl) (i := 0) rfl ty75 rfl rfl (Ss' := [_, _, _, _]) rfl (M' := [(some _, cellM [_, _, _, _])]) rfl (nl (.thn (k2 _ _ (.ret (rt1 (.inl rfl) Tryz.results128 rfl (.cell rfl (i := 0) rfl ty75 rfl ?_ .nil))))))
 all_goals (exact isQ_eq (by rw [zv_nf]; rfl))
theorem qmat_Formed {r c : Int} {L : List Rat} : Ctr Tryz.prog 73 [isMQ r c L] (isB (formB r c (L.map nq).length)) := by
 refine Ctr.intro Tryz.func73 rfl (by kernel_rfl) Tryz.ntmps73 rfl fun w0 F0 => .cv (Cv.wk (.l [0] rfl)) (.seq fun _ k1 => .region (.box (.t rfl) rfl fun b1 => st (.as (.cB false)) rfl (nl (.thn (k1 _ _ (.seq fun _ k2 => .region (st (.fieldAddr (.t rfl) fld70_0 ty3) rfl (st (.load1 (.t rfl) (i := 0) rfl ty3 rfl) rfl (st (.geI (.t rfl) (.cI 0 rfl)) rfl (st (.mv (.t rfl)) rfl (stT rfl rfl (fun hg => .fieldAddr (.t rfl) fld70_0 ty3) rfl (stT rfl rfl (fun hg => .load1 (Has.g rfl hg) (i := 0) rfl ty3 rfl) rfl (stT rfl rfl (fun hg => .leI (Has.g rfl hg) (.cI 64 rfl)) rfl (st (.pickAnd (.t rfl) (fun h => Has.g rfl h)) rfl (st (.mv (.t rfl)) rfl (stT rfl rfl (fun hg => .fieldAddr (.t rfl) fld70_1 ty3) rfl (stT rfl rfl (fun hg => .load1 (Has.g rfl hg) (i := 0) rfl ty3 rfl) rfl (stT rfl rfl (fun hg => .geI (Has.g rfl hg) (.cI 0 rfl)) rfl (st (.pickAnd (.t rfl) (fun h => Has.g rfl h)) rfl (st (.mv (.t rfl)) rfl (stT rfl rfl (fun hg => .fieldAddr (.t rfl) fld70_1 ty3) rfl (stT rfl rfl (fun hg => .load1 (Has.g rfl hg) (i := 0) rfl ty3 rfl) rfl (stT rfl rfl (fun hg => .leI (Has.g rfl hg) (.cI 64 rfl)) rfl (st (.pickAnd (.t rfl) (fun h => Has.g rfl h)) rfl (st (.mv (.t rfl)) rfl (stT rfl rfl (fun hg => .fieldAddr (.t rfl) fld70_2 ty68) rfl (stT rfl rfl (fun hg => .load1 (Has.g rfl hg) (i := 0) rfl ty68 rfl) rfl ?_)))))))))))))))))))))))))))
 refine stT rfl rfl (fun hg => .len sl68 (Has.g rfl hg)) rfl (stT rfl rfl (fun hg => .fieldAddr (.t rfl) fld70_0 ty3) rfl (stT rfl rfl (fun hg => .load1 (Has.g rfl hg) (i := 0) rfl ty3 rfl) rfl (stT rfl rfl (fun hg => .fieldAddr (.t rfl) fld70_1 ty3) rfl (stT rfl rfl (fun hg => .load1 (Has.g rfl hg) (i := 0) rfl ty3 rfl) rfl ?_))))
 refine stT rfl rfl (fun hg => have hg' := BP.t hg; OK1.mulI (Has.g rfl hg) (Has.g rfl hg) (by have := mul_bnd (r := r) (c := c) ⟨hg'.1.1, hg'.1.2, hg'.2⟩; omega) (by have := mul_bnd (r := r) (c := c) ⟨hg'.1.1, hg'.1.2, hg'.2⟩; omega)) rfl ?_
 refine stT rfl rfl (fun hg => .eqI (Has.g rfl hg) (Has.g rfl hg)) rfl (st (.pickAnd (.t rfl) (fun h => Has.g rfl h)) rfl (st (.as (.t rfl)) rfl (nl (.thn (k2 _ _ (.cv (Cv.wk (.l [2] rfl)) (.ret (rt1 (.inl rfl) Tryz.results73 rfl (.tmp (Has.t' rfl ?_) .nil)))))))))
 all_goals (exact isB_eq (by unfold formB; simp [Bool.and_assoc]))
theorem qmat_get {r : Int} {C i k : Nat} {L : List Rat} (hx : L.length ≤ 4096) (hl : i * C + k < L.length) : Ctr Tryz.prog 140 [isMQ r (C : Int) L, isI (i : Int), isI (k : Int)] (isQ (qf L (i * C + k))) := by
 refine Ctr.intro Tryz.func140 rfl (by kernel_rfl) Tryz.ntmps140 rfl fun w0 F0 => .cv (Cv.wk (.l [0, 1, 2] rfl)) (.fact (Has.rngI (Has.t (t := 1) rfl)) fun lt1 => .fact (Has.rngI (Has.t (t := 2) rfl)) fun lt2 => ?_)
 have hcp : ((i : Int) * (C : Int)) = ((i * C : Nat) : Int) := (Int.natCast_mul i C).symm
 have hml : (L.map nq).length = L.length := List.length_map _
 refine .seq fun _ k1 => .region (.box (.t rfl) rfl fun b1 => .alloc [isB false, SlM isU [], isB false, SlM isU []] zero75 (fun _ _ => ⟨rfl, nilM _ _, rfl, nilM _ _, trivial⟩) rfl fun b2 => nl (.thn (k1 _ _ (.seq fun _ k2 => .region (st (.fieldAddr (.t rfl) fld70_2 ty68) rfl (st (.load1 (.t rfl) (i := 1) rfl ty68 rfl) rfl (st (.mv (.t rfl)) rfl (st (.fieldAddr (.t rfl) fld70_1 ty3) rfl (st (.load1 (.t rfl) (i := 1) rfl ty3 rfl) rfl (st (.eq (.mulI (.t rfl) (.t rfl) (by first | omega | (rw [hcp]; omega)) (by first | omega | (rw [hcp]; omega))) ((show isI _ = isI ((i * C : Nat) : Int) from isI_eq hcp))) rfl ?_))))))))))
 refine st (.mv (.t rfl)) rfl (st (.eq (.addI (.t rfl) (.t rfl) (by first | omega | (rw [hcp]; omega)) (by first | omega | (rw [hcp]; omega))) ((show isI _ = isI ((i * C + k : Nat) : Int) from isI_eq (by omega)))) rfl ?_)
 refine st (.ixK sl68 ty75 (.t rfl) (.t rfl) rc_len ⟨by omega, by omega⟩ (getQ hl)) rfl (st (.loadP (.t rfl) ty75 rfl (Ss' := [_, _, _, _]) rfl) rfl (.store (.t rfl) (.t rfl) (i := 0) rfl ty75 rfl rfl (Ss' := [_, _, _, _]) rfl (M' := [(some _, cellM [_, _, _, _]), _]) rfl (nl (.thn (k2 _ _ (.cv (Cv.wk (.l [6] rfl)) (.ret (rt1 (.inl rfl) Tryz.results140 rfl (.cell rfl (i := 0) rfl ty75 rfl ?_ .nil)))))))))
 all_goals (rfl)
theorem qmat_made {R C K : Nat} {f : Nat → Nat → Rat} (hR : R ≤ 64) (hC : C ≤ 64) (hf : ∀ i k, i < R → k < C → qs (f i k) ≤ K) (hK : K ≤ 900000000) : Ctr Tryz.prog 78 [isI (R : Int), isI (C : Int), isAtQ Tryz.prog R C f] (isMQ R C (tabQ (R * C) C f)) := by
 refine Ctr.intro Tryz.func78 rfl (by kernel_rfl) Tryz.ntmps78 rfl fun w0 F0 => .cv (Cv.wk (.l [0, 1, 2] rfl)) (.fact (Has.rngI (Has.t (t := 0) rfl)) fun lt0 => .fact (Has.rngI (Has.t (t := 1) rfl)) fun lt1 => ?_)
 have hRC := side_le hR hC
 refine .seq fun _ k1 => .region (.alloc [isI 0, isI 0, nilS] zero70 (fun _ _ => ⟨⟨rfl, by decide, by decide⟩, ⟨rfl, by decide, by decide⟩, rfl, trivial⟩) rfl fun b1 => nl (.thn (k1 _ _ (.seq fun _ k2 => .region (st (.mv (.t rfl)) rfl (st (.mv (.t rfl)) rfl (st (.build [isI 0, isI 0, nilS] pl70 zero70 (fun _ _ => ⟨⟨rfl, by decide, by decide⟩, ⟨rfl, by decide, by decide⟩, rfl, trivial⟩) (.cons (.t rfl) rfl rfl rfl (.cons (.t rfl) rfl rfl rfl .nil)) (Z'' := [_, _, _]) rfl) rfl (.alloc [isI 0, isI 0, nilS] zero70 (fun _ _ => ⟨⟨rfl, by decide, by decide⟩, ⟨rfl, by decide, by decide⟩, rfl, trivial⟩) rfl fun b2 => .store (.t rfl) (.t rfl) (i := 0) rfl ty70 rfl rfl (Ss' := [_, _, _]) rfl (M' := [(some _, cellM [_, _, _]), _]) rfl (nl (.thn (k2 _ _ (.seq fun _ k3 => .seq fun _ k4 => .cv (Cv.growF ((Bool × List Nat) × Bool × List Nat) (i := 0) (o := 2) rfl rfl rfl) (.memEq (M' := [grMK rc Gr.nil [], _, _]) rfl (.region (st (.mv (.t rfl)) rfl (st (.mv (.cI 0 rfl)) rfl (nl (.thn (k4 _ _ (.block (.loopF [1, 2, 6, 7, 13] (fun (z : { z : Nat × Gr ((Bool × List Nat) × Bool × List Nat) // z.1 ≤ R }) => match z with | ⟨(i, g), hI⟩ => [(14, isI (i : Int))]) (fun M => fun (z : { z : Nat × Gr ((Bool × List Nat) × Bool × List Nat) // z.1 ≤ R }) => match z with | ⟨(i, g), hI⟩ => [grMK rc g ((tabQ (i * C + 0) C f).map nq), (some b2, cellM [isI (R : Int), isI (C : Int), isGr g ((tabQ (i * C + 0) C f).map nq).length]), (some b1, cellM [isI 0, isI 0, nilS])]) (fun (z : { z : Nat × Gr ((Bool × List Nat) × Bool × List Nat) // z.1 ≤ R }) => match z with | ⟨(i, g), hI⟩ => R - i) (⟨(0, Gr.nil), Nat.zero_le _⟩) (Cv.mem (.c 14 rfl ?_ (.l [1, 2, 6, 7, 13] rfl)) ?_) ?_)))))))))))))))))))))
 ·rfl
 ·exact grFq_eq (n := 0) (ys := []) (by rw [List.length_map, tabQ_len, Nat.zero_mul]) (show [] = (tabQ (0 * C + 0) C f).map nq by rw [Nat.zero_mul]; rfl)
 rintro ⟨⟨i, g⟩, hI⟩ K5 hK5
 refine .cv (Cv.wk (.l [14, 1, 2, 6, 7, 13] rfl)) (.memEq (M' := [grMK rc g ((tabQ (i * C + 0) C f).map nq), (some b2, cellM [isI (R : Int), isI (C : Int), isGr g ((tabQ (i * C + 0) C f).map nq).length]), (some b1, cellM [isI 0, isI 0, nilS])]) rfl ?_)
 simp only [] at hI
 refine .seq fun _ k6 => .region (st (.ltI (.t rfl) (.t rfl)) rfl (nl (.thn (k6 _ _ (.seq fun _ k7 => .cond (.t rfl) (fun hc1 => ?_) (fun hc1 => ?_))))))
 ·have hc1 := BP.t hc1
  refine .skip (.thn (k7 _ _ (.seq fun _ k8 => .block (.seq fun _ k9 => .region (st (.mv (.t rfl)) rfl (st (.as (.t rfl)) rfl (nl (.thn (k9 _ _ (.seq fun _ k10 => .region (st (.mv (.t rfl)) rfl (st (.mv (.cI 0 rfl)) rfl (nl (.thn (k10 _ _ (.block (.loopF [1, 2, 6, 7, 13, 14, 15, 16, 8, 17] (fun (z : { z : Nat × Gr ((Bool × List Nat) × Bool × List Nat) // z.1 ≤ C }) => match z with | ⟨(k, g2), hK2⟩ => [(18, isI (k : Int))]) (fun M => fun (z : { z : Nat × Gr ((Bool × List Nat) × Bool × List Nat) // z.1 ≤ C }) => match z with | ⟨(k, g2), hK2⟩ => [grMK rc g2 ((tabQ (i * C + k) C f).map nq), (some b2, cellM [isI (R : Int), isI (C : Int), isGr g2 ((tabQ (i * C + k) C f).map nq).length]), (some b1, cellM [isI 0, isI 0, nilS])]) (fun (z : { z : Nat × Gr ((Bool × List Nat) × Bool × List Nat) // z.1 ≤ C }) => match z with | ⟨(k, g2), hK2⟩ => C - k) (⟨(0, g), Nat.zero_le _⟩) (Cv.mem (.c 18 rfl ?_ (.l [1, 2, 6, 7, 13, 14, 15, 16, 8, 17] rfl)) ?_) ?_)))))))))))))))))
  ·rfl
  ·rfl
  rintro ⟨⟨k, g2⟩, hK2⟩ K11 hK11
  refine .cv (Cv.wk (.l [18, 1, 2, 6, 7, 13, 14, 15, 16, 8, 17] rfl)) (.memEq (M' := [grMK rc g2 ((tabQ (i * C + k) C f).map nq), (some b2, cellM [isI (R : Int), isI (C : Int), isGr g2 ((tabQ (i * C + k) C f).map nq).length]), (some b1, cellM [isI 0, isI 0, nilS])]) rfl ?_)
  simp only [] at hK2
  refine .seq fun _ k12 => .region (st (.ltI (.t rfl) (.t rfl)) rfl (nl (.thn (k12 _ _ (.seq fun _ k13 => .cond (.t rfl) (fun hc2 => ?_) (fun hc2 => ?_))))))
  ·have hc2 := BP.t hc2
   refine .skip (.thn (k13 _ _ (.seq fun _ k14 => .block (.seq fun _ k15 => .region (st (.mv (.t rfl)) rfl (st (.as (.t rfl)) rfl (nl (.thn (k15 _ _ (.dr (.s [] rfl rfl rfl (.o rfl (.fieldAddr (.t rfl) fld70_2 ty68)) (.s [21] rfl rfl rfl (.o rfl (.load1 (.t rfl) (i := 1) rfl ty68 rfl)) (.s [] rfl rfl rfl (.o rfl (.mv (.t rfl))) (.s [] rfl rfl rfl (.o rfl (.mv (.t rfl))) (.s [] rfl rfl rfl (.o rfl (.mv (.t rfl))) (.s [23, 24, 25] rfl rfl rfl (.o rfl (.callV ⟨(i, k), by omega, by omega⟩ (.t rfl) (.cons (.t rfl) (.cons (.t rfl) .nil)))) (.s [] rfl rfl rfl (.o rfl (.call (qmat_zero) .nil)) (.s [26, 27] rfl rfl rfl (.o rfl (.eq (.call (rat_Add (hf i k (by omega) (by omega)) qs_zero (by omega)) (.cons (.t rfl) (.cons (.t rfl) .nil))) ((show isQ _ = Flat (rc (nq (f i k))) from isQ_eq (Rat.add_zero _))))) (.s [28] rfl rfl rfl (.o rfl (.buildS [isB false, SlM isU [], isB false, SlM isU []] sl68 ty75 zero75 (fun _ _ => ⟨rfl, nilM _ _, rfl, nilM _ _, trivial⟩) rfl rfl (.cons (.t rfl) rfl rfl rfl .nil) rfl (S := SlK 4 rc [nq (f i k)]) rfl)) (.fin (n := 9) mixed (by kernel_rfl) (by kernel_rfl) (by kernel_rfl) (.cv (Cv.wk (.l [1, 2, 6, 7, 13, 14, 15, 16, 8, 17, 18, 19, 20, 9, 21, 22, 23, 24, 25, 26, 27, 28, 29] rfl)) (.appendGK (fk := rc) (u := ((false, []), (false, []))) rc_len (by decide) (fun _ => inferInstance) sl68 ty75 zero75 (fun _ _ => ⟨rfl, nilM _ _, rfl, nilM _ _, trivial⟩) by75 (.t rfl) (i := 0) rfl (.t rfl) (by have hpl := place_lt (show i < R by omega) (show k < C by omega); rw [List.length_map, tabQ_len]; show i * C + k + 1 ≤ _; omega) (by simp) rfl fun gr1 => ?_))))))))))))))))))))))
   refine .memEq (M' := [grMK _ _ _, _, _]) rfl (st (.fieldAddr (.t rfl) fld70_2 ty68) rfl (.store (.t rfl) (.t rfl) (i := 1) rfl ty68 rfl rfl (Ss' := [_, _, _]) rfl (M' := [_, (some _, cellM [_, _, _]), _]) rfl (nl (.bln (.thn (k14 _ _ (.region (st (.addI (.t rfl) (.cI 1 rfl) (by first | omega | assumption) (by first | omega | assumption)) rfl (st (.mv (.t rfl)) rfl (nl (.thn ?_)))))))))))
   have hpl := place_lt (show i < R by omega) (show k < C by omega)
   refine hK11 (⟨(k + 1, gr1), by show k + 1 ≤ C; omega⟩) _ _ ?_ (Cv.mem (.c 18 rfl ?_ (.l [1, 2, 6, 7, 13, 14, 15, 16, 8, 17] rfl)) ?_)
   ·show C - (k + 1) < C - k; omega
   ·exact isI_eq (by omega)
   ·exact grFq_eq (by rw [← tabQ_succ f (show k < C by omega), List.map_append, List.length_append]; rfl) (by rw [← tabQ_succ f (show k < C by omega), List.map_append]; rfl)
  ·have hc2 := BP.f hc2
   refine .exit (.the (.the (.blh (.bln (.thn (k8 _ _ (.region (st (.addI (.t rfl) (.cI 1 rfl) (by first | omega | assumption) (by first | omega | assumption)) rfl (st (.mv (.t rfl)) rfl (nl (.thn ?_)))))))))))
   have hkC : k = C := by omega
   subst hkC
   refine hK5 (⟨(i + 1, g2), by show i + 1 ≤ R; omega⟩) _ _ ?_ (Cv.mem (.c 14 rfl ?_ (.l [1, 2, 6, 7, 13] rfl)) ?_)
   ·show R - (i + 1) < R - i; omega
   ·exact isI_eq (by omega)
   ·exact grFq_eq (by rw [tabQ_next]) (by rw [tabQ_next])
 ·have hc1 := BP.f hc1
  refine .exit (.the (.the (.blh (.thn (k3 _ _ (.cv (Cv.wk (.l [6, 7] rfl)) (.seq fun _ k16 => .cv (Cv.freezeF (k := 4) (i := 0) (j := 0) (o := 2) rfl rfl rfl rfl (gr_lenK rc_len) (gr_takeK rc_len) (Ss' := [_, _, SlK 4 rc ((tabQ (i * C + 0) C f).map nq)]) rfl) (.memEq (M' := [(some _, cellM [_, _, SlK 4 rc ((tabQ (i * C + 0) C f).map nq)]), _]) rfl (.cv (Cv.wk (.l [6, 7] rfl)) (.region (st (.load (.t rfl) (i := 0) rfl ty70 rfl (Ss' := [_, _, _]) rfl) rfl (.store (.t rfl) (.t rfl) (i := 1) rfl ty70 rfl rfl (Ss' := [_, _, _]) rfl (M' := [_, (some _, cellM [_, _, _])]) rfl (nl (.thn (k16 _ _ (.ret (rt1 (.inl rfl) Tryz.results78 rfl (.cell rfl (i := 1) rfl ty70 rfl ?_ .nil))))))))))))))))))
  all_goals (rw [Nat.add_zero, show i = R by omega])
theorem qmat_At {R C K : Nat} {L : List Rat} (hx : QB L K) (hK : K ≤ 900000000) (hR : R ≤ 64) (hC : C ≤ 64) (hl : L.length = R * C) {i k : Nat} (hi : i < R) (hk : k < C) : Ctr Tryz.prog 124 [isMQ (R : Int) (C : Int) L, isI (i : Int), isI (k : Int)] (isQ (qf L (i * C + k))) := by
 refine Ctr.intro Tryz.func124 rfl (by kernel_rfl) Tryz.ntmps124 rfl fun w0 F0 => .cv (Cv.wk (.l [0, 1, 2] rfl)) (.fact (Has.rngI (Has.t (t := 1) rfl)) fun lt1 => .fact (Has.rngI (Has.t (t := 2) rfl)) fun lt2 => ?_)
 have hRC := side_le hR hC
 have hfo := formB_true hR hC (show (L.map nq).length = R * C by rw [List.length_map]; exact hl)
 have hpl := place_lt hi hk
 refine .seq fun _ k1 => .region (.box (.t rfl) rfl fun b1 => .alloc [isB false, SlM isU [], isB false, SlM isU []] zero75 (fun _ _ => ⟨rfl, nilM _ _, rfl, nilM _ _, trivial⟩) rfl fun b2 => nl (.thn (k1 _ _ (.seq fun _ k2 => .seq fun _ k3 => .region (st (.load (.t rfl) (i := 1) rfl ty70 rfl (Ss' := [_, _, _]) rfl) rfl (st (.eq (.call (qmat_Formed) (.cons (.t rfl) .nil)) ((show isB _ = isB true from isB_eq (hfo)))) rfl (st (.not (.t rfl)) rfl (st (.mv (.t rfl)) rfl (stF rfl rfl (fun hg => .mv (.t rfl)) rfl (stF rfl rfl (fun hg => .ltI (Has.g rfl hg) (.cI 0 rfl)) rfl (st (.pickOr (.t rfl) (fun h => Has.g rfl (ng h))) rfl (st (.mv (.t rfl)) rfl (stF rfl rfl (fun hg => .mv (.t rfl)) rfl (stF rfl rfl (fun hg => .fieldAddr (.t rfl) fld70_0 ty3) rfl (stF rfl rfl (fun hg => .load1 (Has.g rfl hg) (i := 1) rfl ty3 rfl) rfl (stF rfl rfl (fun hg => .geI (Has.g rfl hg) (Has.g rfl hg)) rfl (st (.pickOr (.t rfl) (fun h => Has.g rfl (ng h))) rfl (st (.mv (.t rfl)) rfl (stF rfl rfl (fun hg => .mv (.t rfl)) rfl (stF rfl rfl (fun hg => .ltI (Has.g rfl hg) (.cI 0 rfl)) rfl (st (.pickOr (.t rfl) (fun h => Has.g rfl (ng h))) rfl (st (.mv (.t rfl)) rfl (stF rfl rfl (fun hg => .mv (.t rfl)) rfl (stF rfl rfl (fun hg => .fieldAddr (.t rfl) fld70_1 ty3) rfl (stF rfl rfl (fun hg => .load1 (Has.g rfl hg) (i := 1) rfl ty3 rfl) rfl ?_)))))))))))))))))))))))))
 refine stF rfl rfl (fun hg => .geI (Has.g rfl hg) (Has.g rfl hg)) rfl (st (.pickOr (.t rfl) (fun h => Has.g rfl (ng h))) rfl (nl (.thn (k3 _ _ (.cv (Cv.wk (.l [1, 2, 3, 6, 29] rfl)) (.cond (.t rfl) (fun hc1 => ?_) (fun hc1 => ?_)))))))
 ·have hc1 := BP.t hc1
  exfalso; simp at hc1; omega
 ·have hc1 := BP.f hc1
  refine .skip (.thn (k2 _ _ (.seq fun _ k4 => .region (st (.load (.t rfl) (i := 1) rfl ty70 rfl (Ss' := [_, _, _]) rfl) rfl (st (.mv (.t rfl)) rfl (st (.mv (.t rfl)) rfl (st (.call (qmat_get (i := i) (k := k) (by omega) (by omega)) (.cons (.t rfl) (.cons (.t rfl) (.cons (.t rfl) .nil)))) rfl (st (.call (qmat_zero) .nil) rfl (st (.eq (.call (rat_Add (hx _) qs_zero (by omega)) (.cons (.t rfl) (.cons (.t rfl) .nil))) ((isQ_eq (Rat.add_zero _)))) rfl (.store (.t rfl) (.t rfl) (i := 0) rfl ty75 rfl rfl (Ss' := [_, _, _, _]) rfl (M' := [(some _, cellM [_, _, _, _]), _]) rfl (nl (.thn (k4 _ _ (.cv (Cv.wk (.l [6] rfl)) (.ret (rt1 (.inl rfl) Tryz.results124 rfl (.cell rfl (i := 0) rfl ty75 rfl ?_ .nil)))))))))))))))))
  all_goals (rfl)
end Go.Proofs.YtcfobalbkhgdmaaGreat
namespace Go.Proofs.YtcfobalbkhgdmaaGreat
open Go.En Go.RowKit
set_option maxRecDepth 10000
set_option maxHeartbeats 4000000
open Go.Nt
open Go.Pz
open Go.Mz
open Go.Qe
open Go.Mi
theorem flQ_row {ls : List (Int × Int × List Int)} {i : Nat} : flQ (ls.map fun p => p.2.2) i ++ ((ls.map fun p => p.2.2).take ls.length).map (fun a => ((cf a i : Int) : Rat)) = flQ (ls.map fun p => p.2.2) (i + 1) := by
 rw [List.take_of_length_le (by rw [List.length_map]; exact Nat.le_refl _), flQ_succ]
theorem flQ_take {ls : List (Int × Int × List Int)} {i k : Nat} {p : Int × Int × List Int} (h : ls[k]? = some p) : ((ls.map fun p => p.2.2).take (k + 1)).map (fun a => ((cf a i : Int) : Rat)) = ((ls.map fun p => p.2.2).take k).map (fun a => ((cf a i : Int) : Rat)) ++ [((cf p.2.2 i : Int) : Rat)] := by
 rw [List.take_add_one, List.getElem?_map, h, List.map_append]; rfl
theorem zchar_flat {N K : Nat} {ls : List (Int × Int × List Int)} (hb : ∀ p ∈ ls, Bd p.2.2 K) (hl : ∀ p ∈ ls, p.2.2.length = N) (hK : K ≤ 4000000000) (hN : N ≤ 64) (hn : ls.length ≤ 64) : Ctr Tryz.prog 41 [SlK 3 mc ls, isI (N : Int)] (isMQ N ls.length (flQ (ls.map fun p => p.2.2) N)) := by
 refine Ctr.intro Tryz.func41 rfl (by kernel_rfl) Tryz.ntmps41 rfl fun w0 F0 => .cv (Cv.wk (.l [0, 1] rfl)) (.fact (Has.lenLt (Has.t (t := 0) rfl)) fun lt0 => .fact (Has.rngI (Has.t (t := 1) rfl)) fun lt1 => ?_)
 have hLl : (ls.map fun p => p.2.2).length = ls.length := List.length_map _
 refine .seq fun _ k1 => .region (.alloc [isI 0, isI 0, nilS] zero70 (fun _ _ => ⟨⟨rfl, by decide, by decide⟩, ⟨rfl, by decide, by decide⟩, rfl, trivial⟩) rfl fun b1 => nl (.thn (k1 _ _ (.seq fun _ k2 => .region (st (.mv (.t rfl)) rfl (st (.mv (.t rfl)) rfl (st (.len sl65 (.t rfl)) rfl (st (.build [isI 0, isI 0, nilS] pl70 zero70 (fun _ _ => ⟨⟨rfl, by decide, by decide⟩, ⟨rfl, by decide, by decide⟩, rfl, trivial⟩) (.cons (.t rfl) rfl rfl rfl (.cons (.t rfl) rfl rfl rfl .nil)) (Z'' := [_, _, _]) rfl) rfl (.alloc [isI 0, isI 0, nilS] zero70 (fun _ _ => ⟨⟨rfl, by decide, by decide⟩, ⟨rfl, by decide, by decide⟩, rfl, trivial⟩) rfl fun b2 => .store (.t rfl) (.t rfl) (i := 0) rfl ty70 rfl rfl (Ss' := [_, _, _]) rfl (M' := [(some _, cellM [_, _, _]), _]) rfl (nl (.thn (k2 _ _ (.seq fun _ k3 => .seq fun _ k4 => .cv (Cv.growF ((Bool × List Nat) × Bool × List Nat) (i := 0) (o := 2) rfl rfl rfl) (.memEq (M' := [grMK rc Gr.nil [], _, _]) rfl (.region (st (.mv (.t rfl)) rfl (st (.mv (.cI 0 rfl)) rfl (nl (.thn (k4 _ _ (.cv (Cv.wk (.l [0, 4, 5, 13, 14] rfl)) (.block (.loopF [0, 4, 5, 13] (fun (z : { z : Nat × Gr ((Bool × List Nat) × Bool × List Nat) // z.1 ≤ N }) => match z with | ⟨(i, g), hI⟩ => [(14, isI (i : Int))]) (fun M => fun (z : { z : Nat × Gr ((Bool × List Nat) × Bool × List Nat) // z.1 ≤ N }) => match z with | ⟨(i, g), hI⟩ => [grMK rc g ((flQ (ls.map fun p => p.2.2) i).map nq), (some b2, cellM [isI (N : Int), isI (ls.length : Int), isGr g ((flQ (ls.map fun p => p.2.2) i).map nq).length]), (some b1, cellM [isI 0, isI 0, nilS])]) (fun (z : { z : Nat × Gr ((Bool × List Nat) × Bool × List Nat) // z.1 ≤ N }) => match z with | ⟨(i, g), hI⟩ => N - i) (⟨(0, Gr.nil), Nat.zero_le _⟩) (Cv.mem (.c 14 rfl ?_ (.l [0, 4, 5, 13] rfl)) ?_) ?_)))))))))))))))))))))))
 ·rfl
 ·rfl
 rintro ⟨⟨i, g⟩, hI⟩ K5 hK5
 refine .cv (Cv.wk (.l [14, 0, 4, 5, 13] rfl)) (.memEq (M' := [grMK rc g ((flQ (ls.map fun p => p.2.2) i).map nq), (some b2, cellM [isI (N : Int), isI (ls.length : Int), isGr g ((flQ (ls.map fun p => p.2.2) i).map nq).length]), (some b1, cellM [isI 0, isI 0, nilS])]) rfl ?_)
 simp only [] at hI
 refine .seq fun _ k6 => .region (st (.ltI (.t rfl) (.t rfl)) rfl (nl (.thn (k6 _ _ (.seq fun _ k7 => .cond (.t rfl) (fun hc1 => ?_) (fun hc1 => ?_))))))
 ·have hc1 := BP.t hc1
  refine .skip (.thn (k7 _ _ (.seq fun _ k8 => .block (.seq fun _ k9 => .region (st (.mv (.t rfl)) rfl (st (.as (.t rfl)) rfl (nl (.thn (k9 _ _ (.seq fun _ k10 => .region (st (.mv (.t rfl)) rfl (st (.len sl65 (.t rfl)) rfl (st (.mv (.cI 0 rfl)) rfl (nl (.thn (k10 _ _ (.block (.loopF [0, 4, 5, 13, 14, 15, 16, 6, 17, 18] (fun (z : { z : Nat × Gr ((Bool × List Nat) × Bool × List Nat) // z.1 ≤ ls.length }) => match z with | ⟨(k, g2), hK2⟩ => [(19, isI (k : Int))]) (fun M => fun (z : { z : Nat × Gr ((Bool × List Nat) × Bool × List Nat) // z.1 ≤ ls.length }) => match z with | ⟨(k, g2), hK2⟩ => [grMK rc g2 ((flQ (ls.map fun p => p.2.2) i ++ ((ls.map fun p => p.2.2).take k).map fun a => ((cf a i : Int) : Rat)).map nq), (some b2, cellM [isI (N : Int), isI (ls.length : Int), isGr g2 ((flQ (ls.map fun p => p.2.2) i ++ ((ls.map fun p => p.2.2).take k).map fun a => ((cf a i : Int) : Rat)).map nq).length]), (some b1, cellM [isI 0, isI 0, nilS])]) (fun (z : { z : Nat × Gr ((Bool × List Nat) × Bool × List Nat) // z.1 ≤ ls.length }) => match z with | ⟨(k, g2), hK2⟩ => ls.length - k) (⟨(0, g), Nat.zero_le _⟩) (Cv.mem (.c 19 rfl ?_ (.l [0, 4, 5, 13, 14, 15, 16, 6, 17, 18] rfl)) ?_) ?_))))))))))))))))))
  ·rfl
  ·exact grFq_eq (by rw [List.take_zero, List.map_nil, List.append_nil]) (by rw [List.take_zero, List.map_nil, List.append_nil])
  rintro ⟨⟨k, g2⟩, hK2⟩ K11 hK11
  refine .cv (Cv.wk (.l [19, 0, 4, 5, 13, 14, 15, 16, 6, 17, 18] rfl)) (.memEq (M' := [grMK rc g2 ((flQ (ls.map fun p => p.2.2) i ++ ((ls.map fun p => p.2.2).take k).map fun a => ((cf a i : Int) : Rat)).map nq), (some b2, cellM [isI (N : Int), isI (ls.length : Int), isGr g2 ((flQ (ls.map fun p => p.2.2) i ++ ((ls.map fun p => p.2.2).take k).map fun a => ((cf a i : Int) : Rat)).map nq).length]), (some b1, cellM [isI 0, isI 0, nilS])]) rfl ?_)
  simp only [] at hK2
  refine .seq fun _ k12 => .region (st (.ltI (.t rfl) (.t rfl)) rfl (nl (.thn (k12 _ _ (.seq fun _ k13 => .cond (.t rfl) (fun hc2 => ?_) (fun hc2 => ?_))))))
  ·have hc2 := BP.t hc2
   obtain ⟨p, hp⟩ : ∃ p, ls[k]? = some p := ⟨_, List.getElem?_eq_getElem (by omega)⟩
   have hpm := List.mem_of_getElem? hp
   have hpb := hb p hpm
   have hpl := hl p hpm
   have hpz : (p.2.2.map nz).length = N := by rw [List.length_map]; exact hpl
   refine .skip (.thn (k13 _ _ (.seq fun _ k14 => .block (.seq fun _ k15 => .region (st (.ixK sl65 ty27 (.t rfl) (.t rfl) mc_len ⟨by omega, by omega⟩ hp) rfl (st (.loadP (.t rfl) ty27 rfl (Ss' := [_, _, _]) rfl) rfl (.alloc [isI 0, isI 0, nilS] zero27 (fun _ _ => ⟨⟨rfl, by decide, by decide⟩, ⟨rfl, by decide, by decide⟩, rfl, trivial⟩) rfl fun b3 => .store (.t rfl) (.t rfl) (i := 0) rfl ty27 rfl rfl (Ss' := [_, _, _]) rfl (M' := [(some _, cellM [_, _, _]), _, _, _]) rfl (nl (.thn (k15 _ _ (.dr (.s [] rfl rfl rfl (.o rfl (.fieldAddr (.t rfl) fld70_2 ty68)) (.s [23] rfl rfl rfl (.o rfl (.load1 (.t rfl) (i := 2) rfl ty68 rfl)) (.s [] rfl rfl rfl (.o rfl (.fieldAddr (.t rfl) fld27_2 ty22)) (.s [25] rfl rfl rfl (.o rfl (.load1 (.t rfl) (i := 0) rfl ty22 rfl)) (.s [] rfl rfl rfl (.o rfl (.mv (.t rfl))) (.s [26, 27] rfl rfl rfl (.o rfl (.ixK sl22 ty36 (.t rfl) (.t rfl) zc_len ⟨by omega, by omega⟩ (getZ (i := i) (by omega)))) (.s [28] rfl rfl rfl (.o rfl (.loadP (.t rfl) ty36 rfl (Ss' := [_, _]) rfl)) (.s [29] rfl rfl rfl (.o rfl (.eq (.call (rat_Of (by rw [val_words]; have := hpb i; omega)) (.cons (.t rfl) .nil)) ((show isQ _ = Flat (rc (nq ((cf p.2.2 i : Int) : Rat))) from isQ_eq (by rw [zv_nf]))))) ?_)))))))))))))))))))
   refine .s [30] rfl rfl rfl (.o rfl (.buildS [isB false, SlM isU [], isB false, SlM isU []] sl68 ty75 zero75 (fun _ _ => ⟨rfl, nilM _ _, rfl, nilM _ _, trivial⟩) rfl rfl (.cons (.t rfl) rfl rfl rfl .nil) rfl (S := SlK 4 rc [nq ((cf p.2.2 i : Int) : Rat)]) rfl)) (.fin (n := 9) mixed (by kernel_rfl) (by kernel_rfl) (by kernel_rfl) (.cv (Cv.wk (.l [0, 4, 5, 13, 14, 15, 16, 6, 17, 18, 19, 20, 21, 22, 8, 23, 24, 25, 26, 27, 28, 29, 30, 31] rfl)) (.appendGK (fk := rc) (u := ((false, []), (false, []))) rc_len (by decide) (fun _ => inferInstance) sl68 ty75 zero75 (fun _ _ => ⟨rfl, nilM _ _, rfl, nilM _ _, trivial⟩) by75 (.t rfl) (i := 1) rfl (.t rfl) (by simp only [List.length_map, List.length_append, flQ_len, List.length_take, List.length_singleton]; have h1 : i * ls.length ≤ 64 * 64 := Nat.mul_le_mul (by omega) hn; omega) (by simp) rfl fun gr1 => ?_)))
   refine .memEq (M' := [_, grMK _ _ _, _, _]) rfl (st (.fieldAddr (.t rfl) fld70_2 ty68) rfl (.store (.t rfl) (.t rfl) (i := 2) rfl ty68 rfl rfl (Ss' := [_, _, _]) rfl (M' := [_, _, (some _, cellM [_, _, _]), _]) rfl (nl (.bln (.thn (k14 _ _ (.region (st (.addI (.t rfl) (.cI 1 rfl) (by first | omega | assumption) (by first | omega | assumption)) rfl (st (.mv (.t rfl)) rfl (nl (.thn ?_)))))))))))
   refine hK11 (⟨(k + 1, gr1), by show k + 1 ≤ ls.length; omega⟩) _ _ ?_ (Cv.trans (Cv.drop ((.cons _ (.cons_cons _ (.cons_cons _ (.cons_cons _ .slnil)))))) (Cv.mem (.c 19 rfl ?_ (.l [0, 4, 5, 13, 14, 15, 16, 6, 17, 18] rfl)) ?_))
   ·show ls.length - (k + 1) < ls.length - k; omega
   ·exact isI_eq (by omega)
   ·exact grFq_eq (by rw [flQ_take hp]; simp only [List.length_map, List.length_append, List.length_singleton]; omega) (by rw [flQ_take hp]; simp only [List.map_append, List.append_assoc, List.map_cons, List.map_nil])
  ·have hc2 := BP.f hc2
   refine .exit (.the (.the (.blh (.bln (.thn (k8 _ _ (.region (st (.addI (.t rfl) (.cI 1 rfl) (by first | omega | assumption) (by first | omega | assumption)) rfl (st (.mv (.t rfl)) rfl (nl (.thn ?_)))))))))))
   have hkC : k = ls.length := by omega
   subst hkC
   refine hK5 (⟨(i + 1, g2), by show i + 1 ≤ N; omega⟩) _ _ ?_ (Cv.mem (.c 14 rfl ?_ (.l [0, 4, 5, 13] rfl)) ?_)
   ·show N - (i + 1) < N - i; omega
   ·exact isI_eq (by omega)
   ·exact grFq_eq (by rw [flQ_row]) (by rw [flQ_row])
 ·have hc1 := BP.f hc1
  refine .exit (.the (.the (.blh (.thn (k3 _ _ (.seq fun _ k16 => .cv (Cv.freezeF (k := 4) (i := 0) (j := 0) (o := 2) rfl rfl rfl rfl (gr_lenK rc_len) (gr_takeK rc_len) (Ss' := [_, _, SlK 4 rc ((flQ (ls.map fun p => p.2.2) i).map nq)]) rfl) (.memEq (M' := [(some _, cellM [_, _, SlK 4 rc ((flQ (ls.map fun p => p.2.2) i).map nq)]), _]) rfl (.cv (Cv.wk (.l [0, 4, 5, 13, 14, 15] rfl)) (.region (st (.load (.t rfl) (i := 0) rfl ty70 rfl (Ss' := [_, _, _]) rfl) rfl (.store (.t rfl) (.t rfl) (i := 1) rfl ty70 rfl rfl (Ss' := [_, _, _]) rfl (M' := [_, (some _, cellM [_, _, _])]) rfl (nl (.thn (k16 _ _ (.cv (Cv.wk (.l [4] rfl)) (.ret (rt1 (.inl rfl) Tryz.results41 rfl (.cell rfl (i := 1) rfl ty70 rfl ?_ .nil))))))))))))))))))
  all_goals (rw [show i = N by omega])
end Go.Proofs.YtcfobalbkhgdmaaGreat
namespace Go.Proofs.YtcfobalbkhgdmaaGreat
open Go.En Go.RowKit
set_option maxRecDepth 10000
set_option maxHeartbeats 4000000
open Go.Nt
open Go.Pz
open Go.Mz
open Go.Mu
open Go.Qe
open Go.Mi
theorem zchar_flatX {N K : Nat} {ls : List (Int × Int × List Int)} (hb : ∀ p ∈ ls, Bd p.2.2 K) (hl : ∀ p ∈ ls, p.2.2.length = N) (hK : K ≤ 4000000000) (hN : N ≤ 64) (hn : ls.length ≤ 64) {gl : Gr (Int × Int × List Int)} : CtrX Tryz.prog 41 [isGr gl ls.length, isI (N : Int)] ([grMK mc gl ls]) (fun S M => S = isMQ N ls.length (flQ (ls.map fun p => p.2.2) N) ∧ M = [grMK mc gl ls]) := by
 refine CtrX.intro Tryz.func41 rfl (by kernel_rfl) Tryz.ntmps41 rfl fun w0 F0 => .cv (Cv.wk (.l [0, 1] rfl)) (.fact (Has.rngI (Has.t (t := 1) rfl)) fun lt1 => ?_)
 have hLl : (ls.map fun p => p.2.2).length = ls.length := List.length_map _
 refine .seq fun _ k1 => .region (.alloc [isI 0, isI 0, nilS] zero70 (fun _ _ => ⟨⟨rfl, by decide, by decide⟩, ⟨rfl, by decide, by decide⟩, rfl, trivial⟩) rfl fun b1 => nl (.thn (k1 _ _ (.seq fun _ k2 => .region (st (.mv (.t rfl)) rfl (st (.mv (.t rfl)) rfl (st (.len sl65 (.t rfl)) rfl (st (.build [isI 0, isI 0, nilS] pl70 zero70 (fun _ _ => ⟨⟨rfl, by decide, by decide⟩, ⟨rfl, by decide, by decide⟩, rfl, trivial⟩) (.cons (.t rfl) rfl rfl rfl (.cons (.t rfl) rfl rfl rfl .nil)) (Z'' := [_, _, _]) rfl) rfl (.alloc [isI 0, isI 0, nilS] zero70 (fun _ _ => ⟨⟨rfl, by decide, by decide⟩, ⟨rfl, by decide, by decide⟩, rfl, trivial⟩) rfl fun b2 => .store (.t rfl) (.t rfl) (i := 0) rfl ty70 rfl rfl (Ss' := [_, _, _]) rfl (M' := [(some _, cellM [_, _, _]), _, _]) rfl (nl (.thn (k2 _ _ (.seq fun _ k3 => .seq fun _ k4 => .cv (Cv.growF ((Bool × List Nat) × Bool × List Nat) (i := 0) (o := 2) rfl rfl rfl) (.memEq (M' := [grMK rc Gr.nil [], _, _, _]) rfl (.region (st (.mv (.t rfl)) rfl (st (.mv (.cI 0 rfl)) rfl (nl (.thn (k4 _ _ (.cv (Cv.wk (.l [0, 4, 5, 13, 14] rfl)) (.block (.loopF [0, 4, 5, 13] (fun (z : { z : Nat × Gr ((Bool × List Nat) × Bool × List Nat) // z.1 ≤ N }) => match z with | ⟨(i, g), hI⟩ => [(14, isI (i : Int))]) (fun M => fun (z : { z : Nat × Gr ((Bool × List Nat) × Bool × List Nat) // z.1 ≤ N }) => match z with | ⟨(i, g), hI⟩ => [grMK rc g ((flQ (ls.map fun p => p.2.2) i).map nq), (some b2, cellM [isI (N : Int), isI (ls.length : Int), isGr g ((flQ (ls.map fun p => p.2.2) i).map nq).length]), (some b1, cellM [isI 0, isI 0, nilS]), grMK mc gl ls]) (fun (z : { z : Nat × Gr ((Bool × List Nat) × Bool × List Nat) // z.1 ≤ N }) => match z with | ⟨(i, g), hI⟩ => N - i) (⟨(0, Gr.nil), Nat.zero_le _⟩) (Cv.mem (.c 14 rfl ?_ (.l [0, 4, 5, 13] rfl)) ?_) ?_)))))))))))))))))))))))
 ·rfl
 ·rfl
 rintro ⟨⟨i, g⟩, hI⟩ K5 hK5
 refine .cv (Cv.wk (.l [14, 0, 4, 5, 13] rfl)) (.memEq (M' := [grMK rc g ((flQ (ls.map fun p => p.2.2) i).map nq), (some b2, cellM [isI (N : Int), isI (ls.length : Int), isGr g ((flQ (ls.map fun p => p.2.2) i).map nq).length]), (some b1, cellM [isI 0, isI 0, nilS]), grMK mc gl ls]) rfl ?_)
 simp only [] at hI
 refine .seq fun _ k6 => .region (st (.ltI (.t rfl) (.t rfl)) rfl (nl (.thn (k6 _ _ (.seq fun _ k7 => .cond (.t rfl) (fun hc1 => ?_) (fun hc1 => ?_))))))
 ·have hc1 := BP.t hc1
  refine .skip (.thn (k7 _ _ (.seq fun _ k8 => .block (.seq fun _ k9 => .region (st (.mv (.t rfl)) rfl (st (.as (.t rfl)) rfl (nl (.thn (k9 _ _ (.seq fun _ k10 => .region (st (.mv (.t rfl)) rfl (st (.len sl65 (.t rfl)) rfl (st (.mv (.cI 0 rfl)) rfl (nl (.thn (k10 _ _ (.block (.loopF [0, 4, 5, 13, 14, 15, 16, 6, 17, 18] (fun (z : { z : Nat × Gr ((Bool × List Nat) × Bool × List Nat) // z.1 ≤ ls.length }) => match z with | ⟨(k, g2), hK2⟩ => [(19, isI (k : Int))]) (fun M => fun (z : { z : Nat × Gr ((Bool × List Nat) × Bool × List Nat) // z.1 ≤ ls.length }) => match z with | ⟨(k, g2), hK2⟩ => [grMK rc g2 ((flQ (ls.map fun p => p.2.2) i ++ ((ls.map fun p => p.2.2).take k).map fun a => ((cf a i : Int) : Rat)).map nq), (some b2, cellM [isI (N : Int), isI (ls.length : Int), isGr g2 ((flQ (ls.map fun p => p.2.2) i ++ ((ls.map fun p => p.2.2).take k).map fun a => ((cf a i : Int) : Rat)).map nq).length]), (some b1, cellM [isI 0, isI 0, nilS]), grMK mc gl ls]) (fun (z : { z : Nat × Gr ((Bool × List Nat) × Bool × List Nat) // z.1 ≤ ls.length }) => match z with | ⟨(k, g2), hK2⟩ => ls.length - k) (⟨(0, g), Nat.zero_le _⟩) (Cv.mem (.c 19 rfl ?_ (.l [0, 4, 5, 13, 14, 15, 16, 6, 17, 18] rfl)) ?_) ?_))))))))))))))))))
  ·rfl
  ·exact grFq_eq (by rw [List.take_zero, List.map_nil, List.append_nil]) (by rw [List.take_zero, List.map_nil, List.append_nil])
  rintro ⟨⟨k, g2⟩, hK2⟩ K11 hK11
  refine .cv (Cv.wk (.l [19, 0, 4, 5, 13, 14, 15, 16, 6, 17, 18] rfl)) (.memEq (M' := [grMK rc g2 ((flQ (ls.map fun p => p.2.2) i ++ ((ls.map fun p => p.2.2).take k).map fun a => ((cf a i : Int) : Rat)).map nq), (some b2, cellM [isI (N : Int), isI (ls.length : Int), isGr g2 ((flQ (ls.map fun p => p.2.2) i ++ ((ls.map fun p => p.2.2).take k).map fun a => ((cf a i : Int) : Rat)).map nq).length]), (some b1, cellM [isI 0, isI 0, nilS]), grMK mc gl ls]) rfl ?_)
  simp only [] at hK2
  refine .seq fun _ k12 => .region (st (.ltI (.t rfl) (.t rfl)) rfl (nl (.thn (k12 _ _ (.seq fun _ k13 => .cond (.t rfl) (fun hc2 => ?_) (fun hc2 => ?_))))))
  ·have hc2 := BP.t hc2
   obtain ⟨p, hp⟩ : ∃ p, ls[k]? = some p := ⟨_, List.getElem?_eq_getElem (by omega)⟩
   have hpm := List.mem_of_getElem? hp
   have hpb := hb p hpm
   have hpl := hl p hpm
   have hpz : (p.2.2.map nz).length = N := by rw [List.length_map]; exact hpl
   refine .skip (.thn (k13 _ _ (.seq fun _ k14 => .block (.seq fun _ k15 => .region (st (.ixGr sl65 ty27 (.t rfl) (.t rfl) ⟨by omega, by omega⟩) rfl (st (.loadGK mc_len (.t rfl) (i := 3) rfl ty27 hp) rfl (.alloc [isI 0, isI 0, nilS] zero27 (fun _ _ => ⟨⟨rfl, by decide, by decide⟩, ⟨rfl, by decide, by decide⟩, rfl, trivial⟩) rfl fun b3 => .store (.t rfl) (.t rfl) (i := 0) rfl ty27 rfl rfl (Ss' := [_, _, _]) rfl (M' := [(some _, cellM [_, _, _]), _, _, _, _]) rfl (nl (.thn (k15 _ _ (.dr (.s [] rfl rfl rfl (.o rfl (.fieldAddr (.t rfl) fld70_2 ty68)) (.s [23] rfl rfl rfl (.o rfl (.load1 (.t rfl) (i := 2) rfl ty68 rfl)) (.s [] rfl rfl rfl (.o rfl (.fieldAddr (.t rfl) fld27_2 ty22)) (.s [25] rfl rfl rfl (.o rfl (.load1 (.t rfl) (i := 0) rfl ty22 rfl)) (.s [] rfl rfl rfl (.o rfl (.mv (.t rfl))) (.s [26, 27] rfl rfl rfl (.o rfl (.ixK sl22 ty36 (.t rfl) (.t rfl) zc_len ⟨by omega, by omega⟩ (getZ (i := i) (by omega)))) (.s [28] rfl rfl rfl (.o rfl (.loadP (.t rfl) ty36 rfl (Ss' := [_, _]) rfl)) (.s [29] rfl rfl rfl (.o rfl (.eq (.call (rat_Of (by rw [val_words]; have := hpb i; omega)) (.cons (.t rfl) .nil)) ((show isQ _ = Flat (rc (nq ((cf p.2.2 i : Int) : Rat))) from isQ_eq (by rw [zv_nf]))))) ?_)))))))))))))))))))
   refine .s [30] rfl rfl rfl (.o rfl (.buildS [isB false, SlM isU [], isB false, SlM isU []] sl68 ty75 zero75 (fun _ _ => ⟨rfl, nilM _ _, rfl, nilM _ _, trivial⟩) rfl rfl (.cons (.t rfl) rfl rfl rfl .nil) rfl (S := SlK 4 rc [nq ((cf p.2.2 i : Int) : Rat)]) rfl)) (.fin (n := 9) mixed (by kernel_rfl) (by kernel_rfl) (by kernel_rfl) (.cv (Cv.wk (.l [0, 4, 5, 13, 14, 15, 16, 6, 17, 18, 19, 20, 21, 22, 8, 23, 24, 25, 26, 27, 28, 29, 30, 31] rfl)) (.appendGK (fk := rc) (u := ((false, []), (false, []))) rc_len (by decide) (fun _ => inferInstance) sl68 ty75 zero75 (fun _ _ => ⟨rfl, nilM _ _, rfl, nilM _ _, trivial⟩) by75 (.t rfl) (i := 1) rfl (.t rfl) (by simp only [List.length_map, List.length_append, flQ_len, List.length_take, List.length_singleton]; have h1 : i * ls.length ≤ 64 * 64 := Nat.mul_le_mul (by omega) hn; omega) (by simp) rfl fun gr1 => ?_)))
   refine .memEq (M' := [_, grMK _ _ _, _, _, _]) rfl (st (.fieldAddr (.t rfl) fld70_2 ty68) rfl (.store (.t rfl) (.t rfl) (i := 2) rfl ty68 rfl rfl (Ss' := [_, _, _]) rfl (M' := [_, _, (some _, cellM [_, _, _]), _, _]) rfl (nl (.bln (.thn (k14 _ _ (.region (st (.addI (.t rfl) (.cI 1 rfl) (by first | omega | assumption) (by first | omega | assumption)) rfl (st (.mv (.t rfl)) rfl (nl (.thn ?_)))))))))))
   refine hK11 (⟨(k + 1, gr1), by show k + 1 ≤ ls.length; omega⟩) _ _ ?_ (Cv.trans (Cv.drop ((.cons _ (.cons_cons _ (.cons_cons _ (.cons_cons _ (.cons_cons _ .slnil))))))) (Cv.mem (.c 19 rfl ?_ (.l [0, 4, 5, 13, 14, 15, 16, 6, 17, 18] rfl)) ?_))
   ·show ls.length - (k + 1) < ls.length - k; omega
   ·exact isI_eq (by omega)
   ·exact grFq_eq (by rw [flQ_take hp]; simp only [List.length_map, List.length_append, List.length_singleton]; omega) (by rw [flQ_take hp]; simp only [List.map_append, List.append_assoc, List.map_cons, List.map_nil])
  ·have hc2 := BP.f hc2
   refine .exit (.the (.the (.blh (.bln (.thn (k8 _ _ (.region (st (.addI (.t rfl) (.cI 1 rfl) (by first | omega | assumption) (by first | omega | assumption)) rfl (st (.mv (.t rfl)) rfl (nl (.thn ?_)))))))))))
   have hkC : k = ls.length := by omega
   subst hkC
   refine hK5 (⟨(i + 1, g2), by show i + 1 ≤ N; omega⟩) _ _ ?_ (Cv.mem (.c 14 rfl ?_ (.l [0, 4, 5, 13] rfl)) ?_)
   ·show N - (i + 1) < N - i; omega
   ·exact isI_eq (by omega)
   ·exact grFq_eq (by rw [flQ_row]) (by rw [flQ_row])
 ·have hc1 := BP.f hc1
  refine .exit (.the (.the (.blh (.thn (k3 _ _ (.seq fun _ k16 => .cv (Cv.freezeFw (k := 4) (i := 0) (j := 0) (o := 2) (inBlks (.cons _ (.cons _ (.cons_cons _ .slnil)))) rfl rfl rfl (gr_lenK rc_len) (gr_takeK rc_len) (Ss' := [_, _, SlK 4 rc ((flQ (ls.map fun p => p.2.2) i).map nq)]) rfl) (.memEq (M' := [(some _, cellM [_, _, SlK 4 rc ((flQ (ls.map fun p => p.2.2) i).map nq)]), _, _]) rfl (.cv (Cv.wk (.l [0, 4, 5, 13, 14, 15] rfl)) (.region (st (.load (.t rfl) (i := 0) rfl ty70 rfl (Ss' := [_, _, _]) rfl) rfl (.store (.t rfl) (.t rfl) (i := 1) rfl ty70 rfl rfl (Ss' := [_, _, _]) rfl (M' := [_, (some _, cellM [_, _, _]), _]) rfl (nl (.thn (k16 _ _ (.cv (Cv.wk (.l [4] rfl)) (.ret (rtX1D (.cons _ (.cons _ (.cons_cons _ .slnil))) (.inl rfl) Tryz.results41 rfl (.cell rfl (i := 1) rfl ty70 rfl rfl .nil) (⟨by rw [show i = N by omega], rfl⟩))))))))))))))))))
end Go.Proofs.YtcfobalbkhgdmaaGreat
namespace Go.Mi
open Go.En Go.Mu Go.Qe Go.Dt Go.Pz Go.Nt Go.Mz Go.Ch
def lsK (n : Nat) (L : List Int) (k : Nat) : List (Int × Int × List Int) := (pws n L k).map fun p => ((n : Int), (n : Int), p)
theorem lsK_len (n : Nat) (L : List Int) (k : Nat) : (lsK n L k).length = k := by unfold lsK; rw [List.length_map, pws_len]
theorem lsK_vals (n : Nat) (L : List Int) (k : Nat) : (lsK n L k).map (fun p => p.2.2) = pws n L k := by
 unfold lsK
 rw [List.map_map]
 exact List.map_id'' (fun _ => rfl) _
theorem lsK_succ (n : Nat) (L : List Int) (k : Nat) : lsK n L (k + 1) = lsK n L k ++ [((n : Int), (n : Int), pwL n L k)] := by unfold lsK; rw [pws_succ, List.map_append]; rfl
theorem lsK_mem {n : Nat} {L : List Int} {k : Nat} {p : Int × Int × List Int} (h : p ∈ lsK n L k) : ∃ j, j < k ∧ p.2.2 = pwL n L j := by
 unfold lsK pws at h
 obtain ⟨a, ha, rfl⟩ := List.mem_map.1 h
 obtain ⟨j, hj, rfl⟩ := List.mem_map.1 ha
 exact ⟨j, List.mem_range.1 hj, rfl⟩
theorem lsK_at {n : Nat} {L : List Int} {k j u : Nat} (hj : j < ((lsK n L k).map fun p => p.2.2).length) : cf (((lsK n L k).map fun p => p.2.2).getD j []) u = pe n L j u := by
 rw [lsK_vals] at hj ⊢
 rw [pws_len] at hj
 rw [pws_at hj]; rfl
def xsQ (x : Nat → Int) (d : Nat) : List Rat := (List.range d).map fun k => ((x k : Int) : Rat)
theorem xsQ_len (x : Nat → Int) (d : Nat) : (xsQ x d).length = d := by unfold xsQ; rw [List.length_map, List.length_range]
theorem xsQ_at {x : Nat → Int} {d j : Nat} (h : j < d) : qf (xsQ x d) j = ((x j : Int) : Rat) := qf_map h
def ngL (x : Nat → Int) (j : Nat) : List Int := (List.range j).map fun k => -(x k)
theorem ngL_len (x : Nat → Int) (j : Nat) : (ngL x j).length = j := by unfold ngL; rw [List.length_map, List.length_range]
theorem ngL_succ (x : Nat → Int) (j : Nat) : ngL x (j + 1) = ngL x j ++ [-(x j)] := by unfold ngL; rw [List.range_succ, List.map_append]; rfl
theorem mnL_ng (x : Nat → Int) (d : Nat) : (ngL x d).map nz ++ [nz 1] = (mnL x d).map nz := by unfold mnL ngL; rw [List.map_append]; rfl
section
variable {l : List (List Int)} {m : List Int} {N d K : Nat} {P : Nat → Nat → Int} {x : Nat → Int}
theorem sol_qs (hb : ∀ a ∈ l, Bd a K) (hm : Bd m K) (hK : 1 ≤ K) (i k : Nat) : qs (solQ (redQ N l.length 1 (flQ l N) (flQ [m] N)) l.length i k) ≤ 8 ^ l.length * K := by
 have hx := flQ_qb hb hK N
 have hy := flQ_qb (l := [m]) (fun a ha => by obtain rfl := List.mem_singleton.1 ha; exact hm) hK N
 have hok := (qred_QI (W := l.length + 1) (rowsQ_len N l.length 1 (flQ l N) (flQ [m] N)) (fun r hr => rowsQ_row hr) l.length (by omega)).1
 have hqa := qred_qb (W := l.length + 1) (rowsQ_len N l.length 1 (flQ l N) (flQ [m] N)) (fun r hr => rowsQ_row hr) hK (fun r hr => rowsQ_qb hx hy hK hr) l.length (by omega)
 have h1 : 1 ≤ 8 ^ l.length * K := Nat.mul_pos (Nat.pow_pos (by decide)) hK
 unfold solQ
 split
 ·rename_i h
  exact hqa _ (getD_mem (Nat.lt_of_lt_of_le h (by have := hok.ps; have h3 := hok.len; unfold redQ; rw [h3]; exact this))) _
 ·exact Nat.le_trans qs_zero h1
theorem min_qs (h : MinI P N d x) (hd : l.length = d) (hP : ∀ k u, k < l.length → u < N → cf (l.getD k []) u = P k u) (hm : ∀ u, u < N → cf m u = P l.length u) (hb : ∀ a ∈ l, Bd a K) (hmb : Bd m K) (hK : 1 ≤ K) {k : Nat} (hk : k < d) : qs ((x k : Int) : Rat) ≤ 8 ^ d * K := by
 rw [← (min_eq h hd hP hm).2 k hk, ← hd]
 exact sol_qs hb hmb hK k 0
theorem min_sol (h : MinI P N d x) (hd : l.length = d) (hP : ∀ k u, k < l.length → u < N → cf (l.getD k []) u = P k u) (hm : ∀ u, u < N → cf m u = P l.length u) : tabQ (l.length * 1) 1 (fun i k => solQ (redQ N l.length 1 (flQ l N) (flQ [m] N)) l.length i k) = xsQ x d := by
 rw [tabQ_one]
 unfold xsQ
 rw [hd]
 refine List.map_congr_left fun k hk => ?_
 have := (min_eq h hd hP hm).2 k (List.mem_range.1 hk)
 rw [← hd]; exact this
end
theorem memK_eq {α : Type} {fk : α → List VP} {g : Gr α} {a c : List α} {r : Mem} (h : a = c) : (grMK fk g a :: r : Mem) = grMK fk g c :: r := by subst h; rfl
theorem pe_min_qs {n K d : Nat} {L : List Int} {x : Nat → Int} (hL : Bd L K) (h : MinI (pe n L) (n * n) d x) {k : Nat} (hk : k < d) : qs ((x k : Int) : Rat) ≤ 8 ^ d * (1 + d * (K + n)) := by
 have hb : ∀ j, j ≤ d → Bd (pwL n L j) (1 + d * (K + n)) := fun j hj => (pwL_bd hL j).mono (Nat.add_le_add_left (Nat.mul_le_mul_right _ hj) _)
 refine min_qs (l := pws n L d) (m := pwL n L d) h (pws_len n L d) (fun k u hk _ => ?_) (fun u _ => by rw [pws_len]; rfl) (fun a ha => ?_) (hb d (Nat.le_refl _)) (by omega) hk
 ·rw [pws_len] at hk
  rw [pws_at hk]; rfl
 ·obtain ⟨j, hj, rfl⟩ := List.mem_map.1 ha
  exact hb j (by have := List.mem_range.1 hj; omega)
theorem pe_min_nw {n K d : Nat} {L : List Int} {x : Nat → Int} (hL : Bd L K) (h : MinI (pe n L) (n * n) d x) {k : Nat} (hk : k < d) : (List.length (words (x k).natAbs)) ≤ 8 ^ d * (1 + d * (K + n)) := by
 have := qs_num (pe_min_qs hL h hk)
 rwa [Rat.num_intCast] at this
theorem pw_size {k d A : Nat} (h : k ≤ d) (hA : 8 ^ d * A ≤ 100000000) : 8 ^ k * A ≤ 100000000 := Nat.le_trans (Nat.mul_le_mul_right _ (Nat.pow_le_pow_right (by decide) h)) hA
theorem pw_size0 {d A : Nat} (hA : 8 ^ d * A ≤ 100000000) : A ≤ 100000000 := by have := pw_size (Nat.zero_le d) hA; omega
end Go.Mi
namespace Go.Proofs.YtcfobalbkhgdmaaGreat
open Go.En Go.RowKit
set_option maxRecDepth 10000
set_option maxHeartbeats 4000000
open Go.Nt
open Go.Pz
open Go.Mz
open Go.Mu
open Go.Qe
theorem len_snoc {α : Type} {l : List α} {x : α} : (l ++ [x]).length = l.length + 1 := List.length_append
theorem perm_end4q {x a b c d : Option Nat × MP} {t : Mem} : (x :: a :: b :: c :: d :: t).Perm (a :: b :: c :: d :: (t ++ [x])) := by
 have h : (x :: (a :: b :: c :: d :: t)).Perm ((a :: b :: c :: d :: t) ++ [x]) := (List.perm_append_singleton x (a :: b :: c :: d :: t)).symm
 exact h
theorem qmat_begun {R C D K : Nat} {xs ys : List Rat} (hx : QB xs K) (hy : QB ys K) (hK : K ≤ 900000000) (hR : R ≤ 64) (hC : C ≤ 64) (hD : D ≤ 64) (hxl : xs.length = R * C) (hyl : ys.length = R * D) : CtrX Tryz.prog 105 [isMQ R C xs, isMQ R D ys] ([]) (fun S M => ∃ bw gt rs, S = isPtr bw 0 ∧ M = wkMQ bw Gr.nil gt rs C [] ∧ rs.map Prod.snd = rowsQ R C D xs ys) := by
 refine CtrX.intro Tryz.func105 rfl (by kernel_rfl) Tryz.ntmps105 rfl fun w0 F0 => .cv (Cv.wk (.l [0, 1] rfl)) ?_
 have h1 := side_le hR hC
 have h2 := side_le hR hD
 refine .seq fun _ k1 => .region (.box (.t rfl) rfl fun b1 => .box (.t rfl) rfl fun b2 => st (.as Has.cP) rfl (nl (.thn (k1 _ _ (.seq fun _ k2 => .region (st (.fieldAddr (.t rfl) fld70_1 ty3) rfl (st (.load1 (.t rfl) (i := 1) rfl ty3 rfl) rfl (st (.build [nilS, isI 0, nilS] pl106 zero106 (fun _ _ => ⟨rfl, ⟨rfl, by decide, by decide⟩, rfl, trivial⟩) (.cons (.t rfl) rfl rfl rfl .nil) (Z'' := [_, _, _]) rfl) rfl (.box (.t rfl) rfl fun b3 => st (.as (.t rfl)) rfl (nl (.thn (k2 _ _ (.cv (Cv.wk (.l [2, 3, 4, 5] rfl)) (.seq fun _ k3 => .seq fun _ k4 => .cv (Cv.growF (RowQ) (i := 0) (o := 0) rfl rfl rfl) (.memEq (M' := [grM rowVQ Gr.nil [], _, _, _]) rfl (.region (st (.fieldAddr (.t rfl) fld70_0 ty3) rfl (st (.load1 (.t rfl) (i := 3) rfl ty3 rfl) rfl (st (.mv (.cI 0 rfl)) rfl (nl (.thn (k4 _ _ (.block (.memEq (M' := (_ :: _ :: _ :: _ :: ([] : List RowQ).map rowMQ)) rfl (.loopF [2, 3, 4, 5, 15] (fun (z : { z : Nat × Gr RowQ × List RowQ // z.1 ≤ R ∧ z.2.2.map Prod.snd = rowsQ z.1 C D xs ys }) => match z with | ⟨(i, gt, rs), hI⟩ => [(16, isI (i : Int))]) (fun M => fun (z : { z : Nat × Gr RowQ × List RowQ // z.1 ≤ R ∧ z.2.2.map Prod.snd = rowsQ z.1 C D xs ys }) => match z with | ⟨(i, gt, rs), hI⟩ => (grM rowVQ gt rs :: (some b3, cellM [isGr gt rs.length, isI (C : Int), nilS]) :: (some b2, cellM [isI (R : Int), isI (D : Int), isQs ys]) :: (some b1, cellM [isI (R : Int), isI (C : Int), isQs xs]) :: rs.map rowMQ)) (fun (z : { z : Nat × Gr RowQ × List RowQ // z.1 ≤ R ∧ z.2.2.map Prod.snd = rowsQ z.1 C D xs ys }) => match z with | ⟨(i, gt, rs), hI⟩ => R - i) (⟨(0, Gr.nil, []), Nat.zero_le _, rfl⟩) (Cv.mem (.c 16 rfl ?_ (.l [2, 3, 4, 5, 15] rfl)) ?_) ?_)))))))))))))))))))))))))
 ·rfl
 ·rfl
 rintro ⟨⟨i, gt, rs⟩, hI⟩ K5 hK5
 refine .cv (Cv.wk (.l [16, 2, 3, 4, 5, 15] rfl)) (.memEq (M' := (grM rowVQ gt rs :: (some b3, cellM [isGr gt rs.length, isI (C : Int), nilS]) :: (some b2, cellM [isI (R : Int), isI (D : Int), isQs ys]) :: (some b1, cellM [isI (R : Int), isI (C : Int), isQs xs]) :: rs.map rowMQ)) rfl ?_)
 simp only [] at hI
 obtain ⟨hi, hrs⟩ := hI
 have hrl : rs.length = i := by have := congrArg List.length hrs; rwa [List.length_map, rowsQ_len] at this
 refine .seq fun _ k6 => .region (st (.ltI (.t rfl) (.t rfl)) rfl (nl (.thn (k6 _ _ (.seq fun _ k7 => .cond (.t rfl) (fun hc1 => ?_) (fun hc1 => ?_))))))
 ·have hc1 := BP.t hc1
  refine .skip (.thn (k7 _ _ (.seq fun _ k8 => .block (.seq fun _ k9 => .region (st (.mv (.t rfl)) rfl (st (.as (.t rfl)) rfl (nl (.thn (k9 _ _ (.seq fun _ k10 => .region (.cv (Cv.grow0K (α := (Bool × List Nat) × Bool × List Nat) rc) (st (.as (Has.cGr (α := (Bool × List Nat) × Bool × List Nat))) rfl (nl (.thn (k10 _ _ (.seq fun _ k11 => .seq fun _ k12 => .region (st (.fieldAddr (.t rfl) fld70_1 ty3) rfl (st (.load1 (.t rfl) (i := 4) rfl ty3 rfl) rfl (st (.mv (.cI 0 rfl)) rfl (nl (.thn (k12 _ _ (.block (.loopF [2, 3, 4, 5, 15, 16, 17, 18, 6, 19, 20] (fun (z : { z : Nat × Gr ((Bool × List Nat) × Bool × List Nat) // z.1 ≤ C }) => match z with | ⟨(k, g), hK1⟩ => [(21, isI (k : Int)), (7, isGr g (((List.range k).map fun k => qf xs (i * C + k)).map nq).length)]) (fun M => fun (z : { z : Nat × Gr ((Bool × List Nat) × Bool × List Nat) // z.1 ≤ C }) => match z with | ⟨(k, g), hK1⟩ => (grMK rc g (((List.range k).map fun k => qf xs (i * C + k)).map nq) :: grM rowVQ gt rs :: (some b3, cellM [isGr gt rs.length, isI (C : Int), nilS]) :: (some b2, cellM [isI (R : Int), isI (D : Int), isQs ys]) :: (some b1, cellM [isI (R : Int), isI (C : Int), isQs xs]) :: rs.map rowMQ)) (fun (z : { z : Nat × Gr ((Bool × List Nat) × Bool × List Nat) // z.1 ≤ C }) => match z with | ⟨(k, g), hK1⟩ => C - k) (⟨(0, Gr.nil), Nat.zero_le _⟩) (Cv.mem (.c 21 rfl ?_ (.c 7 rfl ?_ (.l [2, 3, 4, 5, 15, 16, 17, 18, 6, 19, 20] rfl))) ?_) ?_))))))))))))))))))))))))
  ·rfl
  ·rfl
  ·rfl
  rintro ⟨⟨k, g⟩, hK1⟩ K13 hK13
  refine .cv (Cv.wk (.l [21, 7, 2, 3, 4, 5, 15, 16, 17, 18, 6, 19, 20] rfl)) (.memEq (M' := (grMK rc g (((List.range k).map fun k => qf xs (i * C + k)).map nq) :: grM rowVQ gt rs :: (some b3, cellM [isGr gt rs.length, isI (C : Int), nilS]) :: (some b2, cellM [isI (R : Int), isI (D : Int), isQs ys]) :: (some b1, cellM [isI (R : Int), isI (C : Int), isQs xs]) :: rs.map rowMQ)) rfl ?_)
  simp only [] at hK1
  refine .seq fun _ k14 => .region (st (.ltI (.t rfl) (.t rfl)) rfl (nl (.thn (k14 _ _ (.seq fun _ k15 => .cond (.t rfl) (fun hc2 => ?_) (fun hc2 => ?_))))))
  ·have hc2 := BP.t hc2
   have hpl := place_lt (show i < R by omega) (show k < C by omega)
   refine .skip (.thn (k15 _ _ (.seq fun _ k16 => .block (.seq fun _ k17 => .region (st (.mv (.t rfl)) rfl (st (.as (.t rfl)) rfl (nl (.thn (k17 _ _ (.region (st (.mv (.t rfl)) rfl (st (.load (.t rfl) (i := 4) rfl ty70 rfl (Ss' := [_, _, _]) rfl) rfl (st (.mv (.t rfl)) rfl (st (.mv (.t rfl)) rfl (st (.call (qmat_At (i := i) (k := k) hx hK hR hC hxl (by omega) (by omega)) (.cons (.t rfl) (.cons (.t rfl) (.cons (.t rfl) .nil)))) rfl (st (.buildS [isB false, SlM isU [], isB false, SlM isU []] sl68 ty75 zero75 (fun _ _ => ⟨rfl, nilM _ _, rfl, nilM _ _, trivial⟩) rfl rfl (.cons (.t rfl) rfl rfl rfl .nil) rfl (S := SlK 4 rc [nq (qf xs (i * C + k))]) rfl) rfl (.appendGK (fk := rc) (u := ((false, []), (false, []))) rc_len (by decide) (fun _ => inferInstance) sl68 ty75 zero75 (fun _ _ => ⟨rfl, nilM _ _, rfl, nilM _ _, trivial⟩) by75 (.t rfl) (i := 0) rfl (.t rfl) (by rw [List.length_map, List.length_map, List.length_range]; show k + 1 ≤ _; omega) (by simp) rfl fun gr1 => ?_)))))))))))))))))
   refine .memEq (M' := (grMK _ _ _ :: _ :: _ :: _ :: _ :: _)) rfl (st (.as (.t rfl)) rfl (nl (.bln (.thn (k16 _ _ (.region (st (.addI (.t rfl) (.cI 1 rfl) (by first | omega | assumption) (by first | omega | assumption)) rfl (st (.mv (.t rfl)) rfl (nl (.thn ?_))))))))))
   have hpl := place_lt (show i < R by omega) (show k < C by omega)
   refine hK13 (⟨(k + 1, gr1), by show k + 1 ≤ C; omega⟩) _ _ ?_ (Cv.mem (.c 21 rfl ?_ (.c 7 rfl ?_ (.l [2, 3, 4, 5, 15, 16, 17, 18, 6, 19, 20] rfl))) ?_)
   ·show C - (k + 1) < C - k; omega
   ·exact isI_eq (by omega)
   ·exact isGr_eq (by rw [List.range_succ, List.map_append, List.map_append, List.length_append]; rfl)
   ·exact grMK_eq (by rw [List.range_succ, List.map_append, List.map_append]; rfl)
  ·have hc2 := BP.f hc2
   refine .exit (.the (.the (.blh (.thn (k11 _ _ (.seq fun _ k18 => .seq fun _ k19 => .region (st (.fieldAddr (.t rfl) fld70_1 ty3) rfl (st (.load1 (.t rfl) (i := 3) rfl ty3 rfl) rfl (st (.mv (.cI 0 rfl)) rfl (nl (.thn (k19 _ _ (.block (.loopF [2, 3, 4, 5, 15, 16, 17, 18, 6, 19, 20, 21, 22, 32, 33] (fun (z : { z : Nat × Gr ((Bool × List Nat) × Bool × List Nat) // z.1 ≤ D }) => match z with | ⟨(k2, g2), hK2⟩ => [(34, isI (k2 : Int)), (7, isGr g2 ((((List.range C).map fun k => qf xs (i * C + k)) ++ ((List.range k2).map fun k => qf ys (i * D + k))).map nq).length)]) (fun M => fun (z : { z : Nat × Gr ((Bool × List Nat) × Bool × List Nat) // z.1 ≤ D }) => match z with | ⟨(k2, g2), hK2⟩ => (grMK rc g2 ((((List.range C).map fun k => qf xs (i * C + k)) ++ ((List.range k2).map fun k => qf ys (i * D + k))).map nq) :: grM rowVQ gt rs :: (some b3, cellM [isGr gt rs.length, isI (C : Int), nilS]) :: (some b2, cellM [isI (R : Int), isI (D : Int), isQs ys]) :: (some b1, cellM [isI (R : Int), isI (C : Int), isQs xs]) :: rs.map rowMQ)) (fun (z : { z : Nat × Gr ((Bool × List Nat) × Bool × List Nat) // z.1 ≤ D }) => match z with | ⟨(k2, g2), hK2⟩ => D - k2) (⟨(0, g), Nat.zero_le _⟩) (Cv.mem (.c 34 rfl ?_ (.c 7 rfl ?_ (.l [2, 3, 4, 5, 15, 16, 17, 18, 6, 19, 20, 21, 22, 32, 33] rfl))) ?_) ?_))))))))))))))
   ·rfl
   ·exact isGr_eq (by rw [show k = C by omega, List.range_zero, List.map_nil, List.append_nil])
   ·exact grMK_eq (by rw [show k = C by omega, List.range_zero, List.map_nil, List.append_nil])
   rintro ⟨⟨k2, g2⟩, hK2⟩ K20 hK20
   refine .cv (Cv.wk (.l [34, 7, 2, 3, 4, 5, 15, 16, 17, 18, 6, 19, 20, 21, 22, 32, 33] rfl)) (.memEq (M' := (grMK rc g2 ((((List.range C).map fun k => qf xs (i * C + k)) ++ ((List.range k2).map fun k => qf ys (i * D + k))).map nq) :: grM rowVQ gt rs :: (some b3, cellM [isGr gt rs.length, isI (C : Int), nilS]) :: (some b2, cellM [isI (R : Int), isI (D : Int), isQs ys]) :: (some b1, cellM [isI (R : Int), isI (C : Int), isQs xs]) :: rs.map rowMQ)) rfl ?_)
   simp only [] at hK2
   refine .seq fun _ k21 => .region (st (.ltI (.t rfl) (.t rfl)) rfl (nl (.thn (k21 _ _ (.seq fun _ k22 => .cond (.t rfl) (fun hc3 => ?_) (fun hc3 => ?_))))))
   ·have hc3 := BP.t hc3
    have hpl := place_lt (show i < R by omega) (show k2 < D by omega)
    refine .skip (.thn (k22 _ _ (.seq fun _ k23 => .block (.seq fun _ k24 => .region (st (.mv (.t rfl)) rfl (st (.as (.t rfl)) rfl (nl (.thn (k24 _ _ (.region (st (.mv (.t rfl)) rfl (st (.load (.t rfl) (i := 3) rfl ty70 rfl (Ss' := [_, _, _]) rfl) rfl (st (.mv (.t rfl)) rfl (st (.mv (.t rfl)) rfl (st (.call (qmat_At (i := i) (k := k2) hy hK hR hD hyl (by omega) (by omega)) (.cons (.t rfl) (.cons (.t rfl) (.cons (.t rfl) .nil)))) rfl (st (.buildS [isB false, SlM isU [], isB false, SlM isU []] sl68 ty75 zero75 (fun _ _ => ⟨rfl, nilM _ _, rfl, nilM _ _, trivial⟩) rfl rfl (.cons (.t rfl) rfl rfl rfl .nil) rfl (S := SlK 4 rc [nq (qf ys (i * D + k2))]) rfl) rfl (.appendGK (fk := rc) (u := ((false, []), (false, []))) rc_len (by decide) (fun _ => inferInstance) sl68 ty75 zero75 (fun _ _ => ⟨rfl, nilM _ _, rfl, nilM _ _, trivial⟩) by75 (.t rfl) (i := 0) rfl (.t rfl) (by rw [List.length_map, List.length_append, List.length_map, List.length_map, List.length_range, List.length_range]; show C + k2 + 1 ≤ _; omega) (by simp) rfl fun gr1 => ?_)))))))))))))))))
    refine .memEq (M' := (grMK _ _ _ :: _ :: _ :: _ :: _ :: _)) rfl (st (.as (.t rfl)) rfl (nl (.bln (.thn (k23 _ _ (.region (st (.addI (.t rfl) (.cI 1 rfl) (by first | omega | assumption) (by first | omega | assumption)) rfl (st (.mv (.t rfl)) rfl (nl (.thn ?_))))))))))
    refine hK20 (⟨(k2 + 1, gr1), by show k2 + 1 ≤ D; omega⟩) _ _ ?_ (Cv.mem (.c 34 rfl ?_ (.c 7 rfl ?_ (.l [2, 3, 4, 5, 15, 16, 17, 18, 6, 19, 20, 21, 22, 32, 33] rfl))) ?_)
    ·show D - (k2 + 1) < D - k2; omega
    ·exact isI_eq (by omega)
    ·exact isGr_eq (by simp only [List.length_append, List.length_map, List.length_range, List.length_singleton]; omega)
    ·exact grMK_eq (by rw [List.range_succ]; simp only [List.map_append, List.append_assoc]; rfl)
   ·have hc3 := BP.f hc3
    refine .exit (.the (.the (.blh (.thn (k18 _ _ (.region (st (.mv (.t rfl)) rfl (st (.mv (.t rfl)) rfl (st (.nilc (.t rfl)) rfl (st (.fieldAddr (.t rfl) fld106_0 ty104) rfl (st (.load1 (.t rfl) (i := 2) rfl ty104 rfl) rfl (st (.mv (.t rfl)) rfl (st (.buildS [nilS] sl104 ty68 zero68 (fun _ _ => ⟨rfl, trivial⟩) rfl rfl (.cons (.t rfl) rfl rfl rfl .nil) rfl (S := SlM rowVQ [(g2, ((List.range C).map fun k => qf xs (i * C + k)) ++ ((List.range k2).map fun k => qf ys (i * D + k)))]) rfl) rfl (.appendG (f := rowVQ) (u := (Gr.nil, [])) sl104 ty68 zero68 (fun _ _ => ⟨gr0, trivial⟩) (fun _ => inferInstance) by68 (.t rfl) (i := 1) rfl (.t rfl) (by rw [hrl]; show i + 1 ≤ _; omega) (by simp) rfl fun gr1 => ?_))))))))))))))
    refine .memEq (M' := (_ :: grM _ _ _ :: _ :: _ :: _ :: _)) rfl (st (.nilc (.t rfl)) rfl (st (.fieldAddr (.t rfl) fld106_0 ty104) rfl (.store (.t rfl) (.t rfl) (i := 2) rfl ty104 rfl rfl (Ss' := [_, _, _]) rfl (M' := (_ :: _ :: (some _, cellM [_, _, _]) :: _ :: _ :: _)) rfl (nl (.bln (.thn (k8 _ _ (.region (st (.addI (.t rfl) (.cI 1 rfl) (by first | omega | assumption) (by first | omega | assumption)) rfl (st (.mv (.t rfl)) rfl (nl (.thn ?_))))))))))))
    have hkD : D = k2 := by omega
    subst hkD
    refine hK5 (⟨(i + 1, gr1, rs ++ [(g2, ((List.range C).map fun k => qf xs (i * C + k)) ++ ((List.range D).map fun k => qf ys (i * D + k)))]), by show i + 1 ≤ R; omega, by show (rs ++ [(g2, ((List.range C).map fun k => qf xs (i * C + k)) ++ ((List.range D).map fun k => qf ys (i * D + k)))]).map Prod.snd = _; rw [List.map_append, hrs, rowsQ_succ]; rfl⟩) _ _ ?_ (Cv.trans (Cv.perm perm_end4q) (Cv.mem (.c 16 rfl ?_ (.l [2, 3, 4, 5, 15] rfl)) ?_))
    ·show R - (i + 1) < R - i; omega
    ·exact isI_eq (by omega)
    ·show _ = grM rowVQ gr1 (rs ++ [_]) :: (some b3, cellM [isGr gr1 (rs ++ [_]).length, _, _]) :: _ :: _ :: (rs ++ [_]).map rowMQ; rw [List.map_append (f := rowMQ), len_snoc]; rfl
 ·have hc1 := BP.f hc1
  refine .exit (.the (.the (.blh (.thn (k3 _ _ (.cv (Cv.wk (.l [4, 5] rfl)) (.seq fun _ k25 => .cv (Cv.growF (Int) (i := 1) (o := 2) rfl rfl rfl) (.memEq (M' := (grM isI Gr.nil [] :: _ :: _ :: _ :: _ :: _)) rfl (.cv (Cv.drop ((.cons_cons _ (.cons_cons _ (.cons_cons _ (.cons _ (.cons _ (List.Sublist.refl _)))))))) (.cv (Cv.wk (.l [4, 5] rfl)) (.cv (Cv.perm perm_rot) (.region (st (.mv (.t rfl)) rfl (st (.as (.t rfl)) rfl (nl (.thn (k25 _ _ (.ret (rtX1 (.inl rfl) Tryz.results105 rfl (.tmp (.t rfl) .nil) ?_)))))))))))))))))))
  exact ⟨b3, gt, rs, rfl, rfl, by obtain rfl : i = R := (by omega); exact hrs⟩
theorem takeQ_set {X Y : List Rat} {c : Rat} {k : Nat} (h : k < X.length) : (mxQ (lsQ X Y c) X k).set k (qf X k - c * qf Y k) = mxQ (lsQ X Y c) X (k + 1) := by
 rw [← lsQ_at h]; exact mxQ_set (lsQ_len _ _ _) h
theorem qmat_take {bw C0 K : Nat} {gp : Gr Int} {gt : Gr RowQ} {rs : List RowQ} {ps : List Nat} {i t : Nat} {c : Rat} {r b : RowQ} (hrb : QB r.2 K) (hbb : QB b.2 (4 * K)) (hcb : qs c ≤ K) (hK : K ≤ 100000000) (hi : rs[i]? = some r) (ht : rs[t]? = some b) (hne : i ≠ t) (hl : b.2.length = r.2.length) (hrl : r.2.length ≤ 128) : CtrX Tryz.prog 130 [isGr r.1 (r.2.map nq).length, isGr b.1 (b.2.map nq).length, isQ c] (wkMQ bw gp gt rs C0 ps) (fun S M => S = isTup [] ∧ M = wkMQ bw gp gt (rs.set i (r.1, lsQ r.2 b.2 c)) C0 ps) := by
 refine CtrX.intro Tryz.func130 rfl (by kernel_rfl) Tryz.ntmps130 rfl fun w0 F0 => .cv (Cv.wk (.l [0, 1, 2] rfl)) ?_
 have hil : i < rs.length := (List.getElem?_eq_some_iff.1 hi).1
 have hrm : (r.2.map nq).length = r.2.length := List.length_map _
 have hbm : (b.2.map nq).length = b.2.length := List.length_map _
 refine .seq fun _ k1 => .region (.box (.t rfl) rfl fun b1 => nl (.thn (k1 _ _ (.seq fun _ k2 => .cv (Cv.freezeBoxX (t := 5) rfl rfl rfl) (.cv (Cv.wk (.l [0, 1, 2, 5] rfl)) (.region (st (.mv (.t rfl)) rfl (st (.len sl68 (.t rfl)) rfl (st (.mv (.cI 0 rfl)) rfl (nl (.thn (k2 _ _ (.block (.loopF [0, 1, 5, 8] (fun (z : { k : Nat // k ≤ r.2.length }) => match z with | ⟨k, hk⟩ => [(9, isI (k : Int))]) (fun M => fun (z : { k : Nat // k ≤ r.2.length }) => match z with | ⟨k, hk⟩ => (wk0Q bw gp gt rs.length C0 ps :: grM isI gp (pv ps) :: grM rowVQ gt rs :: (rs.set i (r.1, mxQ (lsQ r.2 b.2 c) r.2 k)).map rowMQ)) (fun (z : { k : Nat // k ≤ r.2.length }) => match z with | ⟨k, hk⟩ => r.2.length - k) (⟨0, Nat.zero_le _⟩) (Cv.mem (.c 9 rfl ?_ (.l [0, 1, 5, 8] rfl)) ?_) ?_))))))))))))))
 ·rfl
 ·exact mixQ_start (pre := [_, _, _]) hi
 rintro ⟨k, hk⟩ K3 hK3
 refine .cv (Cv.wk (.l [9, 0, 1, 5, 8] rfl)) (.memEq (M' := (wk0Q bw gp gt rs.length C0 ps :: grM isI gp (pv ps) :: grM rowVQ gt rs :: (rs.set i (r.1, mxQ (lsQ r.2 b.2 c) r.2 k)).map rowMQ)) rfl ?_)
 have hset : (rs.set i (r.1, mxQ (lsQ r.2 b.2 c) r.2 k))[i]? = some (r.1, mxQ (lsQ r.2 b.2 c) r.2 k) := List.getElem?_set_self hil
 have hset0 : (rs.set i (r.1, mxQ (lsQ r.2 b.2 c) r.2 k))[t]? = some b := (List.getElem?_set_ne hne).trans ht
 have hmx : ((mxQ (lsQ r.2 b.2 c) r.2 k).map nq).length = r.2.length := by rw [List.length_map, mxQ_len (lsQ_len _ _ _) hk]
 refine .seq fun _ k4 => .region (st (.ltI (.t rfl) (.t rfl)) rfl (nl (.thn (k4 _ _ (.seq fun _ k5 => .cond (.t rfl) (fun hc1 => ?_) (fun hc1 => ?_))))))
 ·have hc1 := BP.t hc1
  refine .skip (.thn (k5 _ _ (.seq fun _ k6 => .block (.seq fun _ k7 => .region (st (.mv (.t rfl)) rfl (st (.as (.t rfl)) rfl (nl (.thn (k7 _ _ (.dr (.s [] rfl rfl rfl (.o rfl (.mv (.t rfl))) (.s [] rfl rfl rfl (.o rfl (.mv (.t rfl))) (.s [] rfl rfl rfl (.o rfl (.mv (.t rfl))) (.s [] rfl rfl rfl (.o rfl (.mv (.t rfl))) (.s [14, 15] rfl rfl rfl (.o rfl (.ixGr sl68 ty75 (.t rfl) (.t rfl) ⟨by omega, by omega⟩)) ?_)))))))))))))))
  refine .s [16] rfl rfl rfl (.o rfl (.loadGK rc_len (.t rfl) (i := 3 + i) (wkAtQ (pre := [_, _, _]) (r := (r.1, mxQ (lsQ r.2 b.2 c) r.2 k)) hset) ty75 (mxQ_at (lsQ_len _ _ _) (by omega)))) (.s [] rfl rfl rfl (.o rfl (.loadP (.t rfl) ty75 rfl (Ss' := [_, _, _, _]) rfl)) (.s [] rfl rfl rfl (.o rfl (.mv (.t rfl))) (.s [] rfl rfl rfl (.o rfl (.mv (.t rfl))) (.s [19, 20] rfl rfl rfl (.o rfl (.ixGr sl68 ty75 (.t rfl) (.t rfl) ⟨by omega, by omega⟩)) ?_))))
  refine .s [21] rfl rfl rfl (.o rfl (.loadGK rc_len (.t rfl) (i := 3 + t) (wkAtQ (pre := [_, _, _]) hset0) ty75 (getQ (i := k) (by omega)))) (.s [18, 22] rfl rfl rfl (.o rfl (.call (rat_Mul hcb (hbb k) (by omega)) (.cons (.t rfl) (.cons (.t rfl) .nil)))) (.s [17, 23] rfl rfl rfl (.o rfl (.call (rat_Sub (hrb k) (qs_mul hcb (hbb k)) (by omega)) (.cons (.t rfl) (.cons (.t rfl) .nil)))) (.fin (n := 13) mixed (by kernel_rfl) (by kernel_rfl) (by kernel_rfl) (.cv (Cv.wk (.l [0, 1, 5, 8, 9, 10, 11, 6, 12, 13, 14, 15, 16, 17, 18, 19, 20, 21, 22, 23, 24] rfl)) (st (.ixGr sl68 ty75 (.t rfl) (.t rfl) ⟨by omega, by omega⟩) rfl (.storeGK (z := nq (qf r.2 k - c * qf b.2 k)) rc_len (.t rfl) (.t rfl) (i := 3 + i) (wkAtQ (pre := [_, _, _]) (r := (r.1, mxQ (lsQ r.2 b.2 c) r.2 k)) hset) ty75 (by rw [List.length_map, mxQ_len (lsQ_len _ _ _) (by omega)]; omega) (M' := (_ :: _ :: _ :: (rs.set i (r.1, mxQ (lsQ r.2 b.2 c) r.2 (k + 1))).map rowMQ)) (wkStoreQ (pre := [_, _, _]) (X := (r.1, mxQ (lsQ r.2 b.2 c) r.2 k)) hset (takeQ_set (by omega))) ?_))))))
  refine nl (.bln (.thn (k6 _ _ (.region (st (.addI (.t rfl) (.cI 1 rfl) (by first | omega | assumption) (by first | omega | assumption)) rfl (st (.mv (.t rfl)) rfl (nl (.thn (hK3 (⟨k + 1, by omega⟩) _ _ ?_ (Cv.mem (.c 9 rfl ?_ (.l [0, 1, 5, 8] rfl)) ?_))))))))))
  ·show r.2.length - (k + 1) < r.2.length - k; omega
  ·exact isI_eq (by omega)
  ·rfl
 ·have hc1 := BP.f hc1
  refine .exit (.the (.the (.blh (rtX0 (.inr rfl) Tryz.results130 rfl (⟨rfl, wkQ_take hi (lsQ_len _ _ _) (by omega)⟩)))))
theorem sl_IndexFuncQ {W K : Nat} {xs : List (List Rat)} {t : List Rat → Bool} (hx : ∀ r ∈ xs, r.length = W ∧ QB r K) : Ctr Tryz.prog 125 [SlM isQs xs, isFun (ι := { r : List Rat // r.length = W ∧ QB r K }) Tryz.prog (fun p => [isQs p.1]) (fun p => isB (t p.1))] (isI (ixf t xs)) := by
 refine Ctr.intro Tryz.func125 rfl (by kernel_rfl) Tryz.ntmps125 rfl fun w0 F0 => .cv (Cv.wk (.l [0, 1] rfl)) (.fact (Has.lenLt (Has.t (t := 0) rfl)) fun lt0 => .seq fun _ k1 => .region (st (.as (.cI 0 rfl)) rfl (nl (.thn (k1 _ _ (.seq fun _ k2 => .seq fun _ k3 => .region (st (.mv (.t rfl)) rfl (st (.len sl104 (.t rfl)) rfl (st (.mv (.cI 0 rfl)) rfl (nl (.thn (k3 _ _ (.block (.loopF [0, 1, 7] (fun (z : { i : Nat // i ≤ xs.length ∧ ∀ j, j < i → t (xs.getD j []) = false }) => match z with | ⟨i, hI⟩ => [(8, isI (i : Int))]) (fun M => fun (z : { i : Nat // i ≤ xs.length ∧ ∀ j, j < i → t (xs.getD j []) = false }) => match z with | ⟨i, hI⟩ => M) (fun (z : { i : Nat // i ≤ xs.length ∧ ∀ j, j < i → t (xs.getD j []) = false }) => match z with | ⟨i, hI⟩ => xs.length - i) (⟨0, Nat.zero_le _, fun j hj => absurd hj (Nat.not_lt_zero _)⟩) (Cv.mem (.c 8 rfl ?_ (.l [0, 1, 7] rfl)) ?_) ?_))))))))))))))
 ·rfl
 ·rfl
 rintro ⟨i, hi, hq⟩ K4 hK4
 refine .cv (Cv.wk (.l [8, 0, 1, 7] rfl)) (.seq fun _ k5 => .region (st (.ltI (.t rfl) (.t rfl)) rfl (nl (.thn (k5 _ _ (.seq fun _ k6 => .cond (.t rfl) (fun hc1 => ?_) (fun hc1 => ?_)))))))
 ·have hc1 := BP.t hc1
  refine .skip (.thn (k6 _ _ (.seq fun _ k7 => .block (.seq fun _ k8 => .region (st (.mv (.t rfl)) rfl (st (.as (.t rfl)) rfl (nl (.thn (k8 _ _ (.seq fun _ k9 => .region (st (.mv (.t rfl)) rfl (st (.mv (.t rfl)) rfl (st (.mv (.t rfl)) rfl (st (.ixP sl104 ty68 (.t rfl) (.t rfl) ⟨by omega, by omega⟩ (getD_some (d := []) (by first | omega | (simp only [Int.toNat_natCast, List.length_set]; omega)))) rfl ?_))))))))))))))
  refine st (.loadP1 (.t rfl) ty68) rfl (st (.callV ⟨xs.getD i [], hx _ (by rw [List.getD, List.getElem?_eq_getElem (by omega)]; exact List.getElem_mem _)⟩ (.t rfl) (.cons (.t rfl) .nil)) rfl ?_)
  refine nl (.thn (k9 _ _ (.cond (.t rfl) (fun hc2 => ?_) (fun hc2 => ?_))))
  ·have hc2 := BP.t hc2
   have HQ := hc2
   refine .seq fun _ k10 => .region (st (.mv (.t rfl)) rfl (st (.as (.t rfl)) rfl (nl (.thn (k10 _ _ (.ret (.blr (.thr (.thr (.blr (.thr (rt1 (.inl rfl) Tryz.results125 rfl (.tmp (Has.t' rfl ?_) .nil)))))))))))))
   all_goals (exact isI_eq (ixf_at (d := []) (by omega) hq (by simpa using HQ)))
  ·have hc2 := BP.f hc2
   have HQ := hc2
   refine .skip (.bln (.thn (k7 _ _ (.region (st (.addI (.t rfl) (.cI 1 rfl) (by first | omega | assumption) (by first | omega | assumption)) rfl (st (.mv (.t rfl)) rfl (nl (.thn ?_))))))))
   refine hK4 (⟨i + 1, by omega, fun j hj => by rcases Nat.lt_or_ge j i with h | h; exact hq j h; obtain rfl : j = i := (by omega); simpa using HQ⟩) _ _ ?_ (Cv.mem (.c 8 rfl ?_ (.l [0, 1, 7] rfl)) ?_)
   ·show xs.length - (i + 1) < xs.length - i; omega
   ·exact isI_eq (by omega)
   ·rfl
 ·have hc1 := BP.f hc1
  refine .exit (.the (.the (.blh (.thn (k2 _ _ (.cv (Cv.wk .nil) (.seq fun _ k11 => .region (st (.as (.cI (-1) rfl)) rfl (nl (.thn (k11 _ _ (.ret (rt1 (.inl rfl) Tryz.results125 rfl (.tmp (Has.t' rfl ?_) .nil))))))))))))))
  all_goals (exact isI_eq (ixf_none (d := []) (i := i) (by omega) hq))
theorem qmat_column_1 {col K : Nat} {r : List Rat} (hb : QB r K) (hK : K ≤ 900000000) (hc : col < r.length) (hl : r.length ≤ 128) : Ctr Tryz.prog 126 [isQs r, PtrL [isI (col : Int)]] (isB (nzQ col r)) := by
 refine Ctr.intro Tryz.func126 rfl (by kernel_rfl) Tryz.ntmps126 rfl fun w0 F0 => .cv (Cv.wk (.l [0, 1] rfl)) ?_
 have hrm : (r.map nq).length = r.length := List.length_map _
 refine .seq fun _ k1 => .region (st (.as (.cB false)) rfl (nl (.thn (k1 _ _ (.seq fun _ k2 => .region (st (.mv (.t rfl)) rfl (st (.loadP1 (.t rfl) ty3) rfl (st (.ixK sl68 ty75 (.t rfl) (.t rfl) rc_len ⟨by omega, by omega⟩ (getQ hc)) rfl (st (.loadP (.t rfl) ty75 rfl (Ss' := [_, _, _, _]) rfl) rfl (st (.call (rat_Sign (hb col) (by omega)) (.cons (.t rfl) .nil)) rfl (st (.neI (.t rfl) (.cI 0 rfl)) rfl (st (.as (.t rfl)) rfl (nl (.thn (k2 _ _ (.cv (Cv.wk (.l [3] rfl)) (.ret (rt1 (.inl rfl) Tryz.results126 rfl (.tmp (Has.t' rfl ?_) .nil)))))))))))))))))))
 all_goals (exact isB_eq (by simp [nzQ, sgn_eq0, Rat.num_eq_zero]))
section
variable {E : Env} {Γ : Ctx} {M : Mem}
theorem Cv.freezeBoxY {t b : Nat} {Ss : List VP} {M0 : Mem} (hW : ∀ k, k ∈ E.W → k ∈ blks M0) (ht : En.look Γ t = some (isPtr b 0)) (hM : M = (some b, cellM Ss) :: M0) : Cv E Γ M ((t, PtrL Ss) :: Γ) M0 := by
  subst hM
  intro a w F s
  obtain ⟨h1, h2, h3, ob, h4, vs, T', rfl, hv⟩ := s.mem.each b _ List.mem_cons_self
  have hp := List.pairwise_cons.1 s.mem.apart
  have hne : ∀ (k : Nat) (C : MP), (some k, C) ∈ M0 → k ≠ b := fun k C hk e => by
    subst e
    rcases hp.1 _ hk with h | h
    · cases h
    · exact h rfl
  refine ⟨fun k => F k ∨ k = b, ?_⟩
  have hsub : ∀ k, F k → (F k ∨ k = b) := fun k hk => .inl hk
  have hbW : E.w0.heap.size ≤ b := h1.resolve_right (by
    intro hb
    obtain ⟨C, hC⟩ := mem_blks.1 (hW b hb)
    exact hne b C hC rfl)
  have e1 : a.tmps.getD t undef = .pointer (some ⟨b, 0, none⟩) := s.slots t _ ht
  refine { defers := s.defers, size := s.size, keep := s.keep, f0 := fun k hk => .inl (s.f0 k hk), fnew := ?_, flt := ?_, slots := ?_, mem := ⟨hp.2, ?_⟩ }
  · rintro k (hk | rfl)
    · exact s.fnew k hk
    · exact .inr ⟨hbW, h2⟩
  · rintro k (hk | rfl)
    · exact s.flt k hk
    · exact h2
  · intro t' S' ht'
    simp only [En.look] at ht'
    cases hb : Nat.beq t t' with
    | false => rw [hb] at ht'; exact S'.mono _ _ _ _ _ (s.slots t' S' ht') (fun _ _ => rfl) hsub
    | true =>
      rw [hb] at ht'
      obtain rfl : PtrL Ss = S' := by simpa using ht'
      obtain rfl := Nat.eq_of_beq_eq_true hb
      refine ⟨b, 0, e1, .inr rfl, vs, All2.mono (fun _ _ => rfl) hsub _ _ hv, fun j u hj => ?_⟩
      simp [World.cell?, h4, hj]
  · intro k C hk
    obtain ⟨g1, g2, g3, o2, g4, g5⟩ := s.mem.each k C (List.mem_cons_of_mem _ hk)
    exact ⟨g1, g2, fun h => h.elim g3 (hne k C hk), o2, g4, C.mono _ _ _ _ _ g5 (fun _ _ => rfl) hsub⟩
end
theorem wkQ_blks {bw C0 k : Nat} {gp : Gr Int} {gt : Gr RowQ} {rs rs1 : List RowQ} {ps : List Nat} (h : rs1.Perm rs) (hk : k ∈ blks (wkMQ bw gp gt rs C0 ps)) : k ∈ blks (wkMQ bw gp gt rs1 C0 ps) := by
 obtain ⟨C, hC⟩ := mem_blks.1 hk
 rcases List.mem_cons.1 hC with e | hC
 ·have e1 : some k = some bw := congrArg Prod.fst e
  exact mem_blks.2 ⟨(wk0Q bw gp gt rs1.length C0 ps).2, List.mem_cons.2 (.inl (by rw [e1]))⟩
 rcases List.mem_cons.1 hC with e | hC
 ·have e1 : some k = gp.ob := congrArg Prod.fst e
  exact mem_blks.2 ⟨(grM isI gp (pv ps)).2, List.mem_cons_of_mem _ (List.mem_cons.2 (.inl (by rw [e1]; rfl)))⟩
 rcases List.mem_cons.1 hC with e | hC
 ·have e1 : some k = gt.ob := congrArg Prod.fst e
  exact mem_blks.2 ⟨(grM rowVQ gt rs1).2, List.mem_cons_of_mem _ (List.mem_cons_of_mem _ (List.mem_cons.2 (.inl (by rw [e1]; rfl))))⟩
 ·exact mem_blks.2 ⟨C, List.mem_cons_of_mem _ (List.mem_cons_of_mem _ (List.mem_cons_of_mem _ ((h.map rowMQ).mem_iff.2 hC)))⟩
theorem ixq_yes {α : Type} {q : α → Bool} {xs : List α} {z : Int} (h : z = ixf q xs) (hz : ¬ z < 0) : ∃ n : Nat, z = n ∧ n = ixn q xs ∧ n < xs.length := by
 unfold ixf at h
 by_cases h1 : ixn q xs < xs.length
 ·rw [if_pos h1] at h; exact ⟨_, h, rfl, h1⟩
 ·rw [if_neg h1] at h; omega
theorem ixq_no {α : Type} {q : α → Bool} {xs : List α} {z : Int} (h : z = ixf q xs) (hz : z < 0) : ¬ ixn q xs < xs.length := fun h1 => by
 unfold ixf at h
 rw [if_pos h1] at h; omega
theorem scQ_set {X : List Rat} {c : Rat} {k : Nat} (h : k < X.length) : (mxQ (scQ X c) X k).set k (qf X k * c) = mxQ (scQ X c) X (k + 1) := by
 rw [← scQ_at h]; exact mxQ_set (scQ_len _ _) h
theorem qmat_column {bw C0 K : Nat} {gp : Gr Int} {gt : Gr RowQ} {rs : List RowQ} {ps : List Nat} {col W : Nat} (hrow : ∀ r ∈ rs, r.2.length = W) (hqb : ∀ r ∈ rs, QB r.2 K) (hK1 : 1 ≤ K) (hK : K ≤ 100000000) (hcol : col < W) (hW : W ≤ 128) (hR : rs.length ≤ 64) (hpl : ps.length ≤ rs.length) : CtrX Tryz.prog 106 [isPtr bw 0, isI (col : Int)] (wkMQ bw gp gt rs C0 ps) (fun S M => ∃ gp' rs', S = isTup [] ∧ M = wkMQ bw gp' gt rs' C0 (qcol ⟨rs.map Prod.snd, ps⟩ col).ps ∧ rs'.map Prod.snd = (qcol ⟨rs.map Prod.snd, ps⟩ col).rows) := by
 refine CtrX.intro Tryz.func106 rfl (by kernel_rfl) Tryz.ntmps106 rfl fun w0 F0 => .cv (Cv.wk (.l [0, 1] rfl)) (.fact (Has.rngI (Has.t (t := 1) rfl)) fun lt1 => ?_)
 have hpv := pv_len ps
 obtain ⟨z0, hz0⟩ : ∃ z0 : Int, z0 = ixf (nzQ col) ((rs.map Prod.snd).drop ps.length) := ⟨_, rfl⟩
 have hxr : ∀ r ∈ (rs.map Prod.snd).drop ps.length, r.length = W ∧ QB r K := fun r hr => by obtain ⟨x, hx, rfl⟩ := List.mem_map.1 (List.mem_of_mem_drop hr); exact ⟨hrow x hx, hqb x hx⟩
 refine .seq fun _ k1 => .region (.box (.t rfl) rfl fun b1 => nl (.thn (k1 _ _ (.seq fun _ k2 => .region (st (.mv (.t rfl)) rfl (st (.nilc (.t rfl)) rfl (st (.fieldAddr (.t rfl) fld106_2 ty91) rfl (st (.load1 (.t rfl) (i := 1) rfl ty91 rfl) rfl (st (.len sl91 (.t rfl)) rfl (st (.eq (.as (.t rfl)) ((show isI _ = isI (ps.length : Int) from isI_eq (by omega)))) rfl (nl (.thn (k2 _ _ (.cv (Cv.wk (.l [0, 3, 4] rfl)) (.seq fun _ k3 => .region (st (.mv (.t rfl)) rfl (st (.nilc (.t rfl)) rfl (st (.fieldAddr (.t rfl) fld106_0 ty104) rfl (st (.load1 (.t rfl) (i := 1) rfl ty104 rfl) rfl (st (.mv (.t rfl)) rfl (st (.slGrL sl104 ty68 (.t rfl) (.t rfl) ⟨by omega, by omega⟩) rfl (.cv (Cv.freezeBoxX (t := 3) rfl rfl rfl) (.cv (Cv.wk (.l [0, 3, 4, 17, 18, 19, 20, 21, 22] rfl)) (st (.makeFn (ι := { r : List Rat // r.length = W ∧ QB r K }) (As := fun p => [isQs p.1]) (R := fun p => isB (nzQ col p.1)) (fun p => qmat_column_1 p.2.2 (by omega) (by rw [p.2.1]; exact hcol) (by rw [p.2.1]; exact hW)) .nil (.cons (.t rfl) .nil)) rfl ?_))))))))))))))))))))))))
 refine st (.eq (.callB (sl_IndexFuncQ hxr) (.cons (HasB.rowsQ (pre := [_, _]) (.t rfl) rfl rfl) (.cons (HasB.of (.t rfl)) .nil))) ((show isI _ = isI z0 from isI_eq hz0.symm))) rfl (st (.as (.t rfl)) rfl (nl (.thn (k3 _ _ (.cv (Cv.wk (.l [0, 3, 4, 5] rfl)) (.seq fun _ k4 => .seq fun _ k5 => .region (st (.mv (.t rfl)) rfl (st (.ltI (.t rfl) (.cI 0 rfl)) rfl (nl (.thn (k5 _ _ (.cond (.t rfl) (fun hc1 => ?_) (fun hc1 => ?_)))))))))))))
 ·have hc1 := BP.t hc1
  have KC0 := hc1
  refine .ret (.thr (rtX0 (.inl rfl) Tryz.results106 rfl (⟨gp, rs, rfl, by rw [qcol_no (s := ⟨rs.map Prod.snd, ps⟩) (ixq_no hz0 KC0)], by rw [qcol_no (s := ⟨rs.map Prod.snd, ps⟩) (ixq_no hz0 KC0)]⟩)))
 ·have hc1 := BP.f hc1
  obtain ⟨n0, rfl, hn0, hn1⟩ := ixq_yes hz0 (by omega)
  rw [List.length_drop, List.length_map] at hn1
  obtain ⟨rt, hrt⟩ : ∃ rt, rs[ps.length]? = some rt := ⟨_, List.getElem?_eq_getElem (by omega)⟩
  obtain ⟨ri, hri⟩ : ∃ ri, rs[ps.length + n0]? = some ri := ⟨_, List.getElem?_eq_getElem (by omega)⟩
  refine .skip (.thn (k4 _ _ (.seq fun _ k6 => .dry mixed (.tk 0 rfl rfl rfl rfl (OKY.mv (.t rfl)) (.tk 1 rfl rfl rfl rfl (OKY.nilc (.t rfl)) (.tk 2 rfl rfl rfl rfl (OKY.fieldAddr (.t rfl) fld106_0 ty104) (.tk 4 rfl rfl rfl rfl (OKY.mv (.t rfl)) (.tk 5 rfl rfl rfl rfl (OKY.mv (.t rfl)) (.tk 6 rfl rfl rfl rfl (OKY.nilc (.t rfl)) (.tk 7 rfl rfl rfl rfl (OKY.fieldAddr (.t rfl) fld106_0 ty104) (.tk 9 rfl rfl rfl rfl (OKY.mv (.t rfl)) (.tk 10 rfl rfl rfl rfl (OKY.mv (.t rfl)) (.tk 11 rfl rfl rfl rfl (OKY.eq (OKY.addI (.t rfl) (.t rfl) (by first | omega | assumption) (by first | omega | assumption)) ((show isI _ = isI ((ps.length + n0 : Nat) : Int) from isI_eq (by omega)))) (.tk 12 rfl rfl rfl rfl (OKY.mv (.t rfl)) (.tk 13 rfl rfl rfl rfl (OKY.nilc (.t rfl)) (.tk 14 rfl rfl rfl rfl (OKY.fieldAddr (.t rfl) fld106_0 ty104) (.tk 16 rfl rfl rfl rfl (OKY.mv (.t rfl)) (.tk 17 rfl rfl rfl rfl (OKY.mv (.t rfl)) (.tk 18 rfl rfl rfl rfl (OKY.eq (OKY.addI (.t rfl) (.t rfl) (by first | omega | assumption) (by first | omega | assumption)) ((show isI _ = isI ((ps.length + n0 : Nat) : Int) from isI_eq (by omega)))) (.tk 21 rfl rfl rfl rfl (OKY.mv (.t rfl)) (.tk 22 rfl rfl rfl rfl (OKY.nilc (.t rfl)) (.tk 23 rfl rfl rfl rfl (OKY.fieldAddr (.t rfl) fld106_0 ty104) (.tk 25 rfl rfl rfl rfl (OKY.mv (.t rfl)) (.go [] ?_))))))))))))))))))))))))
  refine .s 3 [] rfl rfl rfl (.o rfl (.load1 (.t rfl) (i := 0) rfl ty104 rfl)) (.s 8 [] rfl rfl rfl (.o rfl (.load1 (.t rfl) (i := 0) rfl ty104 rfl)) (.s 15 [] rfl rfl rfl (.o rfl (.load1 (.t rfl) (i := 0) rfl ty104 rfl)) (.s 19 [42] rfl rfl rfl (.o rfl (.ixGr sl104 ty68 (.t rfl) (.t rfl) ⟨by omega, by omega⟩)) ?_)))
  refine .s 20 [46] rfl rfl rfl (.o rfl (.loadGM (.t rfl) (i := 2) rfl ty68 hri)) (.s 24 [] rfl rfl rfl (.o rfl (.load1 (.t rfl) (i := 0) rfl ty104 rfl)) (.s 26 [51] rfl rfl rfl (.o rfl (.ixGr sl104 ty68 (.t rfl) (.t rfl) ⟨by omega, by omega⟩)) ?_))
  refine .s 27 [53] rfl rfl rfl (.o rfl (.loadGM (.t rfl) (i := 2) rfl ty68 hrt)) (.fin [28, 29, 30, 31] (by kernel_rfl) (by kernel_rfl) (fun _ _ _ _ _ h => h) (by kernel_rfl) (by kernel_rfl) (by kernel_rfl) (by kernel_rfl) (by kernel_rfl) (by kernel_rfl) (by kernel_rfl) (by kernel_rfl) (by kernel_rfl) (.cv (Cv.wk (.l [0, 3, 4, 31, 38, 30, 35, 47, 54] rfl)) (st (.ixGr sl104 ty68 (.t rfl) (.t rfl) ⟨by omega, by omega⟩) rfl (.storeGM (z := ri) (.t rfl) (.t rfl) (i := 2) rfl ty68 (by omega) (M' := (_ :: _ :: grM _ _ _ :: _)) rfl (st (.ixGr sl104 ty68 (.t rfl) (.t rfl) ⟨by omega, by omega⟩) rfl (.storeGM (z := rt) (.t rfl) (.t rfl) (i := 2) rfl ty68 (by rw [List.length_set]; omega) (M' := (_ :: _ :: grM _ _ _ :: _)) rfl ?_))))))
  refine nl (.thn (k6 _ _ (.cv (Cv.wk (.l [0, 3, 4] rfl)) (.seq fun _ k7 => ?_))))
  obtain ⟨rs1, hrs1⟩ : ∃ rs1, rs1 = (rs.set ps.length ri).set (ps.length + n0) rt := ⟨_, rfl⟩
  have hl1 : rs1.length = rs.length := by rw [hrs1, List.length_set, List.length_set]
  have hrow1 : ∀ r ∈ rs1, r.2.length = W := by rw [hrs1]; exact swQ_rows hrow hri hrt
  have hqb1 : ∀ r ∈ rs1, QB r.2 K := by rw [hrs1]; exact swQ_qb hqb hri hrt
  have hm1 : rs1.map Prod.snd = swQ (rs.map Prod.snd) ps.length n0 := by rw [hrs1]; exact swQ_map hri hrt
  obtain ⟨b, hb⟩ : ∃ b, rs1[ps.length]? = some b := ⟨_, List.getElem?_eq_getElem (by omega)⟩
  have hbW := hrow1 b (List.mem_of_getElem? hb)
  have hbB := hqb1 b (List.mem_of_getElem? hb)
  have hbm : (b.2.map nq).length = W := by rw [List.length_map]; exact hbW
  have htl : ps.length < rs1.length := (List.getElem?_eq_some_iff.1 hb).1
  have hb0 : qf b.2 col ≠ 0 := by
   have hx := ixn_yes (q := nzQ col) (d := []) (xs := (rs.map Prod.snd).drop ps.length) (by rw [List.length_drop, List.length_map, ← hn0]; exact hn1)
   rw [← hn0, List.getD_eq_getElem?_getD, List.getElem?_drop, List.getElem?_map, hri] at hx
   have hbe : b = ri := by
    by_cases e0 : n0 = 0
    ·subst e0
     rw [hrs1, Nat.add_zero, List.set_set, List.getElem?_set_self (by omega)] at hb
     have e1 : rt = ri := by rw [Nat.add_zero] at hri; exact Option.some.inj (hrt.symm.trans hri)
     rw [← Option.some.inj hb, e1]
    ·rw [hrs1, List.getElem?_set_ne (by omega), List.getElem?_set_self (by omega)] at hb
     exact (Option.some.inj hb).symm
   rw [hbe]
   simpa using hx
  refine .cv (Cv.perm (perm_tailQ (pre := [_, _, _]) (swQ_perm hri hrt))) (.memEq (M' := wkMQ bw gp gt rs1 C0 ps) (by subst hrs1; exact wkQ_len (by rw [List.length_set, List.length_set])) ?_)
  refine .region (st (.mv (.t rfl)) rfl (st (.nilc (.t rfl)) rfl (st (.fieldAddr (.t rfl) fld106_0 ty104) rfl (st (.load1 (.t rfl) (i := 0) rfl ty104 rfl) rfl (st (.mv (.t rfl)) rfl (st (.ixGr sl104 ty68 (.t rfl) (.t rfl) ⟨by omega, by omega⟩) rfl (st (.loadGM (.t rfl) (i := 2) rfl ty68 hb) rfl (st (.as (.t rfl)) rfl (nl (.thn (k7 _ _ (.cv (Cv.wk (.l [0, 3, 4, 6] rfl)) (.seq fun _ k8 => .drhS (.cons_cons _ (.cons_cons _ (.cons_cons _ (List.Sublist.refl _)))) (.s [] rfl rfl rfl (.o rfl (.call qmat_one .nil)) (.s [] rfl rfl rfl (.o rfl (.mv (.t rfl))) (.s [] rfl rfl rfl (.o rfl (.loadP1 (.t rfl) ty3)) (.s [66, 67] rfl rfl rfl (.o rfl (.ixGr sl68 ty75 (.t rfl) (.t rfl) ⟨by omega, by omega⟩)) ?_)))))))))))))))))
  refine .s [68] rfl rfl rfl (.o rfl (.loadGK rc_len (.t rfl) (i := 3 + ps.length) (wkAtQ (pre := [_, _, _]) hb) ty75 (getQ (i := col) (by omega)))) (.s [65, 69] rfl rfl rfl (.o rfl (.call (rat_Quo qs_one (hbB col) (by omega) hb0) (.cons (.t rfl) (.cons (.t rfl) .nil)))) (.s [70] rfl rfl rfl (.o rfl (.mv (.t rfl))) (.s [64] rfl rfl rfl (.o rfl (.ext (.t rfl) rfl)) (.s [64] rfl rfl rfl (.o rfl (.ext (.t rfl) rfl)) (.als2 (n1 := 10) (ds := [7]) (zs := [[isB false, SlM isU [], isB false, SlM isU []]]) rfl (.cons rfl rfl zero75 (fun _ _ => ⟨rfl, nilM _ _, rfl, nilM _ _, trivial⟩) .nil) (.cons_cons _ (.cons_cons _ (.cons_cons _ (List.Sublist.refl _)))) (Cs := [_]) rfl (.new [71] 0 (Ss' := [_, _, _, _]) (Cs' := [cellM [_, _, _, _]]) rfl (by kernel_rfl) (by kernel_rfl) rfl rfl rfl (by kernel_rfl) rfl (.t rfl) ty75 rfl rfl rfl rfl (.fin (n := 11) mixed rfl (by kernel_rfl) (by kernel_rfl) (by kernel_rfl) (fun bs hbs => ?_))))))))
  obtain ⟨b2, rfl⟩ := len1 hbs
  refine .memEq (M' := (_ :: _ :: _ :: _ :: _)) rfl (.cv (Cv.wk (.k 0 rfl (.k 3 rfl (.k 4 rfl (.k 6 rfl (.k 72 rfl (.cons (t := 7) (Has.op rfl) .nil))))))) (st (.as (.t rfl)) rfl (nl (.thn (k8 _ _ (.seq fun _ k9 => .seq fun _ k10 => .cv (Cv.freezeBoxY (t := 7) (fun k hk => wkQ_blks (by rw [hrs1]; exact swQ_perm hri hrt) hk) rfl rfl) ?_))))))
  refine .region (st (.mv (.t rfl)) rfl (st (.len sl68 (.t rfl)) rfl (st (.mv (.cI 0 rfl)) rfl (nl (.thn (k10 _ _ (.block (.loopF [0, 3, 4, 6, 7, 74] (fun (z : { k : Nat // k ≤ b.2.length }) => match z with | ⟨k, hk⟩ => [(75, isI (k : Int))]) (fun M => fun (z : { k : Nat // k ≤ b.2.length }) => match z with | ⟨k, hk⟩ => (wk0Q bw gp gt rs1.length C0 ps :: grM isI gp (pv ps) :: grM rowVQ gt rs1 :: (rs1.set ps.length (b.1, mxQ (scQ b.2 (1 / qf b.2 col)) b.2 k)).map rowMQ)) (fun (z : { k : Nat // k ≤ b.2.length }) => match z with | ⟨k, hk⟩ => b.2.length - k) (⟨0, Nat.zero_le _⟩) (Cv.mem (.c 75 rfl ?_ (.l [0, 3, 4, 6, 7, 74] rfl)) ?_) ?_))))))))
  ·rfl
  ·exact mixQ_start (pre := [_, _, _]) hb
  rintro ⟨k, hk⟩ K11 hK11
  refine .cv (Cv.wk (.l [75, 0, 3, 4, 6, 7, 74] rfl)) (.memEq (M' := (wk0Q bw gp gt rs1.length C0 ps :: grM isI gp (pv ps) :: grM rowVQ gt rs1 :: (rs1.set ps.length (b.1, mxQ (scQ b.2 (1 / qf b.2 col)) b.2 k)).map rowMQ)) rfl ?_)
  have hset : (rs1.set ps.length (b.1, mxQ (scQ b.2 (1 / qf b.2 col)) b.2 k))[ps.length]? = some (b.1, mxQ (scQ b.2 (1 / qf b.2 col)) b.2 k) := List.getElem?_set_self htl
  have hmx : ((mxQ (scQ b.2 (1 / qf b.2 col)) b.2 k).map nq).length = b.2.length := by rw [List.length_map, mxQ_len (scQ_len _ _) hk]
  refine .seq fun _ k12 => .region (st (.ltI (.t rfl) (.t rfl)) rfl (nl (.thn (k12 _ _ (.seq fun _ k13 => .cond (.t rfl) (fun hc2 => ?_) (fun hc2 => ?_))))))
  ·have hc2 := BP.t hc2
   refine .skip (.thn (k13 _ _ (.seq fun _ k14 => .block (.seq fun _ k15 => .region (st (.mv (.t rfl)) rfl (st (.as (.t rfl)) rfl (nl (.thn (k15 _ _ (.dr (.s [] rfl rfl rfl (.o rfl (.mv (.t rfl))) (.s [] rfl rfl rfl (.o rfl (.mv (.t rfl))) (.s [] rfl rfl rfl (.o rfl (.mv (.t rfl))) (.s [] rfl rfl rfl (.o rfl (.mv (.t rfl))) (.s [80, 81] rfl rfl rfl (.o rfl (.ixGr sl68 ty75 (.t rfl) (.t rfl) ⟨by omega, by omega⟩)) ?_)))))))))))))))
   refine .s [82] rfl rfl rfl (.o rfl (.loadGK rc_len (.t rfl) (i := 3 + ps.length) (wkAtQ (pre := [_, _, _]) (r := (b.1, mxQ (scQ b.2 (1 / qf b.2 col)) b.2 k)) hset) ty75 (mxQ_at (scQ_len _ _) (by omega)))) (.s [] rfl rfl rfl (.o rfl (.loadP (.t rfl) ty75 rfl (Ss' := [_, _, _, _]) rfl)) (.s [83, 84] rfl rfl rfl (.o rfl (.call (rat_Mul (hbB k) (qs_quo qs_one (hbB col)) (by omega)) (.cons (.t rfl) (.cons (.t rfl) .nil)))) (.fin (n := 8) mixed (by kernel_rfl) (by kernel_rfl) (by kernel_rfl) (.cv (Cv.wk (.l [0, 3, 4, 6, 7, 74, 75, 76, 77, 9, 78, 79, 80, 81, 82, 83, 84, 85] rfl)) (st (.ixGr sl68 ty75 (.t rfl) (.t rfl) ⟨by omega, by omega⟩) rfl (.storeGK (z := nq (qf b.2 k * (1 / qf b.2 col))) rc_len (.t rfl) (.t rfl) (i := 3 + ps.length) (wkAtQ (pre := [_, _, _]) (r := (b.1, mxQ (scQ b.2 (1 / qf b.2 col)) b.2 k)) hset) ty75 (by rw [List.length_map, mxQ_len (scQ_len _ _) (by omega)]; omega) (M' := (_ :: _ :: _ :: (rs1.set ps.length (b.1, mxQ (scQ b.2 (1 / qf b.2 col)) b.2 (k + 1))).map rowMQ)) (wkStoreQ (pre := [_, _, _]) (X := (b.1, mxQ (scQ b.2 (1 / qf b.2 col)) b.2 k)) hset (scQ_set (by omega))) ?_))))))
   refine nl (.bln (.thn (k14 _ _ (.region (st (.addI (.t rfl) (.cI 1 rfl) (by first | omega | assumption) (by first | omega | assumption)) rfl (st (.mv (.t rfl)) rfl (nl (.thn (hK11 (⟨k + 1, by omega⟩) _ _ ?_ (Cv.mem (.c 75 rfl ?_ (.l [0, 3, 4, 6, 7, 74] rfl)) ?_))))))))))
   ·show b.2.length - (k + 1) < b.2.length - k; omega
   ·exact isI_eq (by omega)
   ·rfl
  ·have hc2 := BP.f hc2
   refine .exit (.the (.the (.blh (.thn (k9 _ _ (.seq fun _ k16 => .seq fun _ k17 => .region (st (.mv (.t rfl)) rfl (st (.nilc (.t rfl)) rfl (st (.fieldAddr (.t rfl) fld106_0 ty104) rfl (st (.load1 (.t rfl) (i := 0) rfl ty104 rfl) rfl (st (.len sl104 (.t rfl)) rfl (st (.mv (.cI 0 rfl)) rfl (nl (.thn (k17 _ _ (.cv (Cv.wk (.l [0, 3, 4, 6, 91, 92, 93] rfl)) (.block (.loopF [0, 3, 4, 6, 91, 92] (fun (z : { z : Nat × List RowQ // z.1 ≤ rs1.length ∧ TakQ rs1 ps.length col (scQ b.2 (1 / qf b.2 col)) z.1 z.2 }) => match z with | ⟨(r, rs3), hI⟩ => [(93, isI (r : Int))]) (fun M => fun (z : { z : Nat × List RowQ // z.1 ≤ rs1.length ∧ TakQ rs1 ps.length col (scQ b.2 (1 / qf b.2 col)) z.1 z.2 }) => match z with | ⟨(r, rs3), hI⟩ => wkMQ bw gp gt rs3 C0 ps) (fun (z : { z : Nat × List RowQ // z.1 ≤ rs1.length ∧ TakQ rs1 ps.length col (scQ b.2 (1 / qf b.2 col)) z.1 z.2 }) => match z with | ⟨(r, rs3), hI⟩ => rs1.length - r) (⟨(0, rs1.set ps.length (b.1, scQ b.2 (1 / qf b.2 col))), Nat.zero_le _, TakQ.start hb⟩) (Cv.mem (.c 93 rfl ?_ (.l [0, 3, 4, 6, 91, 92] rfl)) ?_) ?_))))))))))))))))))
   ·rfl
   ·exact (wkQ_round hb (scQ_len _ _) (by omega)).trans (wkQ_len (by rw [List.length_set]))
   rintro ⟨⟨r, rs3⟩, hI⟩ K18 hK18
   refine .cv (Cv.wk (.l [93, 0, 3, 4, 6, 91, 92] rfl)) (.memEq (M' := wkMQ bw gp gt rs3 C0 ps) rfl ?_)
   simp only [] at hI
   obtain ⟨hr0, hT⟩ := hI
   have hl3 := hT.len
   refine .seq fun _ k19 => .region (st (.ltI (.t rfl) (.t rfl)) rfl (nl (.thn (k19 _ _ (.seq fun _ k20 => .cond (.t rfl) (fun hc3 => ?_) (fun hc3 => ?_))))))
   ·have hc3 := BP.t hc3
    obtain ⟨x, hr⟩ : ∃ x, rs3[r]? = some x := ⟨_, List.getElem?_eq_getElem (by omega)⟩
    refine .skip (.thn (k20 _ _ (.seq fun _ k21 => .block (.seq fun _ k22 => .region (st (.mv (.t rfl)) rfl (st (.ixGr sl104 ty68 (.t rfl) (.t rfl) ⟨by omega, by omega⟩) rfl (st (.loadGM (.t rfl) (i := 2) rfl ty68 hr) rfl (st (.as (.t rfl)) rfl (st (.as (.t rfl)) rfl (nl (.thn (k22 _ _ (.seq fun _ k23 => .region (st (.mv (.t rfl)) rfl (st (.mv (.t rfl)) rfl (st (.neI (.t rfl) (.t rfl)) rfl (nl (.thn (k23 _ _ (.cond (.t rfl) (fun hc4 => ?_) (fun hc4 => ?_)))))))))))))))))))))
    ·have hc4 := BP.t hc4
     have hrt2 : r ≠ ps.length := (by omega)
     have hb3 : rs3[ps.length]? = some (b.1, scQ b.2 (1 / qf b.2 col)) := hT.top hb
     have hxr2 : rs1[r]? = some x := hT.here (by omega) hr hrt2
     have hxW : x.2.length = W := hrow1 x (List.mem_of_getElem? hxr2)
     have hxb : QB x.2 K := hqb1 x (List.mem_of_getElem? hxr2)
     have hxm : (x.2.map nq).length = W := by rw [List.length_map]; exact hxW
     refine .region (st (.mv (.t rfl)) rfl (st (.eq (.mv (.t rfl)) ((show isGr b.1 (b.2.map nq).length = isGr b.1 ((scQ b.2 (1 / qf b.2 col)).map nq).length from isGr_eq (by rw [List.length_map, List.length_map, scQ_len])))) rfl (st (.mv (.t rfl)) rfl (st (.loadP1 (.t rfl) ty3) rfl (st (.ixGr sl68 ty75 (.t rfl) (.t rfl) ⟨by omega, by omega⟩) rfl (st (.loadGK rc_len (.t rfl) (i := 3 + r) (wkAtQ (pre := [_, _, _]) hr) ty75 (getQ (i := col) (by omega))) rfl (.callX (qmat_take (K := K) (i := r) (t := ps.length) (c := qf x.2 col) (r := x) (b := (b.1, scQ b.2 (1 / qf b.2 col))) hxb ((scQ_qb hbB (qs_quo qs_one (hbB col))).mono (by omega)) (hxb col) hK hr hb3 hrt2 (by rw [scQ_len]; omega) (by omega)) (perm0 _) (.cons (.t rfl) (.cons (.t rfl) (.cons (.t rfl) .nil))) rfl ?_)))))))
     rintro _ _ ⟨rfl, rfl⟩
     refine .memEq (M' := wkMQ bw gp gt (rs3.set r (x.1, lsQ x.2 (scQ b.2 (1 / qf b.2 col)) (qf x.2 col))) C0 ps) (List.append_nil _) (nl (.bln (.thn (k21 _ _ (.region (st (.addI (.t rfl) (.cI 1 rfl) (by first | omega | assumption) (by first | omega | assumption)) rfl (st (.mv (.t rfl)) rfl (nl (.thn ?_)))))))))
     refine hK18 (⟨(r + 1, rs3.set r (x.1, lsQ x.2 (scQ b.2 (1 / qf b.2 col)) (qf x.2 col))), by show r + 1 ≤ _; omega, hT.step (by omega) hr hrt2⟩) _ _ ?_ (Cv.mem (.c 93 rfl ?_ (.l [0, 3, 4, 6, 91, 92] rfl)) ?_)
     ·show rs1.length - (r + 1) < rs1.length - r; omega
     ·exact isI_eq (by omega)
     ·rfl
    ·have hc4 := BP.f hc4
     have hrt2 : r = ps.length := (by omega)
     refine .skip (.bln (.thn (k21 _ _ (.region (st (.addI (.t rfl) (.cI 1 rfl) (by first | omega | assumption) (by first | omega | assumption)) rfl (st (.mv (.t rfl)) rfl (nl (.thn ?_))))))))
     refine hK18 (⟨(r + 1, rs3), by show r + 1 ≤ _; omega, hT.skip (by omega)⟩) _ _ ?_ (Cv.mem (.c 93 rfl ?_ (.l [0, 3, 4, 6, 91, 92] rfl)) ?_)
     ·show rs1.length - (r + 1) < rs1.length - r; omega
     ·exact isI_eq (by omega)
     ·rfl
   ·have hc3 := BP.f hc3
    refine .exit (.the (.the (.blh (.thn (k16 _ _ (.cv (Cv.wk (.l [0, 3] rfl)) (.dry mixed (.tk 0 rfl rfl rfl rfl (OKY.mv (.t rfl)) (.tk 1 rfl rfl rfl rfl (OKY.mv (.t rfl)) (.tk 2 rfl rfl rfl rfl (OKY.nilc (.t rfl)) (.tk 3 rfl rfl rfl rfl (OKY.fieldAddr (.t rfl) fld106_2 ty91) (.go [] (.s 4 [] rfl rfl rfl (.o rfl (.load1 (.t rfl) (i := 0) rfl ty91 rfl)) (.s 5 [] rfl rfl rfl (.o rfl (.loadP1 (.t rfl) ty3)) (.s 6 [114] rfl rfl rfl (.o rfl (.buildS [isI 0] sl91 ty3 zero3 (fun _ _ => ⟨⟨rfl, by decide, by decide⟩, trivial⟩) rfl rfl (.cons (.t rfl) rfl rfl rfl .nil) rfl (S := SlM isI [(col : Int)]) rfl)) (.fin [7, 8, 9, 10] (by kernel_rfl) (by kernel_rfl) (fun _ _ _ _ _ h => h) (by kernel_rfl) (by kernel_rfl) (by kernel_rfl) (by kernel_rfl) (by kernel_rfl) (by kernel_rfl) (by kernel_rfl) (by kernel_rfl) (by kernel_rfl) (.cv (Cv.wk (.l [109, 113, 115] rfl)) (.appendG (f := isI) (u := 0) sl91 ty3 zero3 (fun _ _ => ⟨⟨rfl, by decide, by decide⟩, trivial⟩) (fun _ => inferInstance) by3 (.t rfl) (i := 1) rfl (.t rfl) (by rw [hpv]; show ps.length + 1 ≤ _; omega) (by simp) rfl fun gr1 => ?_))))))))))))))))))
    refine .memEq (M' := (_ :: grM _ _ _ :: _ :: _)) rfl (st (.nilc (.t rfl)) rfl (st (.fieldAddr (.t rfl) fld106_2 ty91) rfl (.store (.t rfl) (.t rfl) (i := 0) rfl ty91 rfl rfl (Ss' := [_, _, _]) rfl (M' := ((some _, cellM [_, _, _]) :: _ :: _ :: _)) rfl (nl (rtX0 (.inr rfl) Tryz.results106 rfl ?_)))))
    have hfc := qcol_did hn0 hn1 hm1 hb (hT.mono (by omega))
    exact ⟨gr1, rs3, rfl, (wkQ_app rfl rfl).trans (by rw [hfc]), by rw [hfc]⟩
theorem qmat_reduced {R C D K : Nat} {xs ys : List Rat} (hx : QB xs K) (hy : QB ys K) (hK1 : 1 ≤ K) (hK : 8 ^ C * K ≤ 100000000) (hR : R ≤ 64) (hC : C ≤ 64) (hD : D ≤ 64) (hxl : xs.length = R * C) (hyl : ys.length = R * D) : Ctr Tryz.prog 74 [isMQ R C xs, isMQ R D ys] (wkFQ C (qred ⟨rowsQ R C D xs ys, []⟩ C)) := by
 refine Ctr.intro Tryz.func74 rfl (by kernel_rfl) Tryz.ntmps74 rfl fun w0 F0 => .cv (Cv.wk (.l [0, 1] rfl)) ?_
 have hK9 : K ≤ 8 ^ C * K := Nat.le_mul_of_pos_left _ (Nat.pow_pos (by decide))
 refine .seq fun _ k1 => .region (.box (.t rfl) rfl fun b1 => .box (.t rfl) rfl fun b2 => st (.as Has.cP) rfl (nl (.thn (k1 _ _ (.seq fun _ k2 => .region (st (.load (.t rfl) (i := 1) rfl ty70 rfl (Ss' := [_, _, _]) rfl) rfl (st (.load (.t rfl) (i := 0) rfl ty70 rfl (Ss' := [_, _, _]) rfl) rfl (.cv (Cv.drop ((.cons _ (.cons _ .slnil)))) (.cv (Cv.wk (.l [0, 1, 4, 7, 8] rfl)) (.callX (qmat_begun hx hy (by omega) hR hC hD hxl hyl) (List.Perm.refl _) (.cons (.t rfl) (.cons (.t rfl) .nil)) rfl ?_))))))))))
 rintro _ _ ⟨bw, gt, rs0, rfl, rfl, hrs0⟩
 refine .memEq (M' := wkMQ bw Gr.nil gt rs0 C []) (List.append_nil _) (st (.as (.t rfl)) rfl (nl (.thn (k2 _ _ (.cv (Cv.wk (.l [4, 5] rfl)) (.seq fun _ k3 => .seq fun _ k4 => .region (st (.as (.cI 0 rfl)) rfl (nl (.thn (k4 _ _ (.block (.loopF [4, 5] (fun (z : { z : Nat × Gr Int × List RowQ // z.1 ≤ C ∧ z.2.2.map Prod.snd = (qred ⟨rowsQ R C D xs ys, []⟩ z.1).rows }) => match z with | ⟨(c, gp, rs), hI⟩ => [(6, isI (c : Int))]) (fun M => fun (z : { z : Nat × Gr Int × List RowQ // z.1 ≤ C ∧ z.2.2.map Prod.snd = (qred ⟨rowsQ R C D xs ys, []⟩ z.1).rows }) => match z with | ⟨(c, gp, rs), hI⟩ => wkMQ bw gp gt rs C (qred ⟨rowsQ R C D xs ys, []⟩ c).ps) (fun (z : { z : Nat × Gr Int × List RowQ // z.1 ≤ C ∧ z.2.2.map Prod.snd = (qred ⟨rowsQ R C D xs ys, []⟩ z.1).rows }) => match z with | ⟨(c, gp, rs), hI⟩ => C - c) (⟨(0, Gr.nil, rs0), Nat.zero_le _, hrs0⟩) (Cv.mem (.c 6 rfl ?_ (.l [4, 5] rfl)) ?_) ?_))))))))))))
 ·rfl
 ·rfl
 rintro ⟨⟨c, gp, rs⟩, hI⟩ K5 hK5
 refine .cv (Cv.wk (.l [6, 4, 5] rfl)) (.memEq (M' := wkMQ bw gp gt rs C (qred ⟨rowsQ R C D xs ys, []⟩ c).ps) rfl ?_)
 simp only [] at hI
 obtain ⟨hc, hrs⟩ := hI
 have hok := (qred_QI (W := C + D) (rowsQ_len R C D xs ys) (fun r hr => rowsQ_row hr) c (by omega)).1
 have hrl : rs.length = R := by rw [← List.length_map (f := Prod.snd), hrs]; exact hok.len
 have hpl := hok.ps
 have hpv := pv_len (qred ⟨rowsQ R C D xs ys, []⟩ c).ps
 have hrow : ∀ r ∈ rs, r.2.length = C + D := fun r hr => hok.row r.2 (by rw [← hrs]; exact List.mem_map.2 ⟨r, hr, rfl⟩)
 have hqb : ∀ r ∈ rs, QB r.2 (8 ^ c * K) := fun r hr => qred_qb (W := C + D) (rowsQ_len R C D xs ys) (fun r hr => rowsQ_row hr) hK1 (fun r hr => rowsQ_qb hx hy hK1 hr) c (by omega) r.2 (by rw [← hrs]; exact List.mem_map.2 ⟨r, hr, rfl⟩)
 have hKc : 8 ^ c * K ≤ 8 ^ C * K := Nat.mul_le_mul_right _ (Nat.pow_le_pow_right (by decide) hc)
 refine .seq fun _ k6 => .seq fun _ k7 => .dr (.s [] rfl rfl rfl (.o rfl (.mv (.t rfl))) (.s [] rfl rfl rfl (.o rfl (.mv (.t rfl))) (.s [11] rfl rfl rfl (.o rfl (.nilc (.t rfl))) (.s [12] rfl rfl rfl (.o rfl (.fieldAddr (.t rfl) fld106_1 ty3)) (.s [13] rfl rfl rfl (.o rfl (.load1 (.t rfl) (i := 0) rfl ty3 rfl)) (.s [10, 14] rfl rfl rfl (.o rfl (.ltI (.t rfl) (.t rfl))) (.s [15] rfl rfl rfl (.o rfl (.mv (.t rfl))) (.s [16] rfl rfl rfl (.T rfl rfl rfl (fun hg => .mv (.t rfl))) (.s [16, 17] rfl rfl rfl (.T rfl rfl rfl (fun hg => .nilc (Has.g rfl hg))) (.s [16, 18] rfl rfl rfl (.T rfl rfl rfl (fun hg => .fieldAddr (Has.g rfl hg) fld106_2 ty91)) (.s [16, 19] rfl rfl rfl (.T rfl rfl rfl (fun hg => .load1 (Has.g rfl hg) (i := 0) rfl ty91 rfl)) (.s [16, 20] rfl rfl rfl (.T rfl rfl rfl (fun hg => .len sl91 (Has.g rfl hg))) (.s [16] rfl rfl rfl (.T rfl rfl rfl (fun hg => .mv (.t rfl))) (.s [16, 22] rfl rfl rfl (.T rfl rfl rfl (fun hg => .nilc (Has.g rfl hg))) (.s [16, 23] rfl rfl rfl (.T rfl rfl rfl (fun hg => .fieldAddr (Has.g rfl hg) fld106_0 ty104)) (.s [16, 24] rfl rfl rfl (.T rfl rfl rfl (fun hg => .load1 (Has.g rfl hg) (i := 0) rfl ty104 rfl)) (.s [16, 25] rfl rfl rfl (.T rfl rfl rfl (fun hg => .len sl104 (Has.g rfl hg))) (.fin (n := 17) mixed (by kernel_rfl) (by kernel_rfl) (by kernel_rfl) (.cv (Cv.wk (.l [4, 5, 6, 10, 11, 12, 13, 14, 15, 16, 17, 18, 19, 20, 21, 22, 23, 24, 25, 26] rfl)) (stT rfl rfl (fun hg => .ltI (Has.g rfl hg) (Has.g rfl hg)) rfl (st (.pickAnd (.t rfl) (fun h => Has.g rfl h)) rfl (nl (.thn (k7 _ _ ?_))))))))))))))))))))))))
 refine .cond (.t rfl) (fun hc1 => ?_) (fun hc1 => ?_)
 ·have hc1 := BP.t hc1
  refine .skip (.thn (k6 _ _ (.seq fun _ k8 => .block (.region (st (.mv (.t rfl)) rfl (st (.mv (.t rfl)) rfl (.callX (qmat_column (K := 8 ^ c * K) (col := c) (W := C + D) hrow hqb (Nat.mul_pos (Nat.pow_pos (by decide)) hK1) (by omega) (by omega) (by omega) (by omega) (by omega)) (perm0 _) (.cons (.t rfl) (.cons (.t rfl) .nil)) rfl ?_)))))))
  rintro _ _ ⟨gp2, rs2, rfl, rfl, hrs2⟩
  refine .memEq (M' := wkMQ bw gp2 gt rs2 C (qcol ⟨rs.map Prod.snd, (qred ⟨rowsQ R C D xs ys, []⟩ c).ps⟩ c).ps) (List.append_nil _) (nl (.bln (.thn (k8 _ _ (.region (st (.mv (.t rfl)) rfl (st (.addI (.t rfl) (.cI 1 rfl) (by first | omega | assumption) (by first | omega | assumption)) rfl (st (.as (.t rfl)) rfl (nl (.thn ?_))))))))))
  rw [hrs] at hrs2
  refine hK5 (⟨(c + 1, gp2, rs2), by show c + 1 ≤ C; omega, hrs2⟩) _ _ ?_ (Cv.mem (.c 6 rfl ?_ (.l [4, 5] rfl)) ?_)
  ·show C - (c + 1) < C - c; omega
  ·exact isI_eq (by omega)
  ·rw [hrs]; rfl
 ·have hc1 := BP.f hc1
  refine .exit (.the (.the (.blh (.thn (k3 _ _ (.cv (Cv.wk (.l [4, 5] rfl)) (.seq fun _ k9 => .cv (Cv.freezeWkQ (t := 5) rfl rfl) (.region (st (.mv (.t rfl)) rfl (st (.as (.t rfl)) rfl (nl (.thn (k9 _ _ (.ret (rt1 (.inl rfl) Tryz.results74 rfl (.tmp (Has.t' rfl ?_) .nil))))))))))))))))
  all_goals (rw [hrs, qred_stop hc (by rw [← hrs, List.length_map]; omega)])
end Go.Proofs.YtcfobalbkhgdmaaGreat
