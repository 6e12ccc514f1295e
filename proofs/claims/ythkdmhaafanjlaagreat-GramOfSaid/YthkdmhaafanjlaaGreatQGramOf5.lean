/- The law GramOf, as it is stated, of the given program, for every input; no condition. -/
import Derived.Test.YthkdmhaafanjlaaGreatQGramOf4
import Derived.Deep.SlicePairs
import Derived.Test.YthkdmhaafanjlaaGreatRows
namespace Go.Proofs.YthkdmhaafanjlaaGreat
open Go.En Go.RowKit
set_option maxRecDepth 10000
set_option maxHeartbeats 4000000
open Go.Nt
open Go.Pz
open Go.Mz
open Go.Hn
open Go.Hp
open Go.Dt
theorem zmat_Rows_1 {r : Int} {C i k lo : Nat} {xs : List (Bool × List Nat)} (hxm : xs.length ≤ 4096) (hlo : lo + i ≤ 100) (hp : (lo + i) * C + k < xs.length) : Ctr Tryz.prog 154 [isI (i : Int), isI (k : Int), ptM r (C : Int) xs, PtrL [isI (lo : Int)]] (Flat (zc (xs.getD ((lo + i) * C + k) (false, [])))) := by
 refine Ctr.intro Tryz.func154 rfl (by kernel_rfl) Tryz.ntmps154 rfl fun w0 F0 => .cv (Cv.wk (.l [0, 1, 2, 3] rfl)) (.fact (Has.rngI (Has.t (t := 0) rfl)) fun lt0 => .fact (Has.rngI (Has.t (t := 1) rfl)) fun lt1 => .seq fun _ k1 => .region (.alloc [isB false, SlM isU []] zero31 (fun _ _ => ⟨rfl, nilM _ _, trivial⟩) rfl fun b1 => nl (.thn (k1 _ _ (.seq fun _ k2 => .region (st (.loadP (.t rfl) ty24 rfl (Ss' := [_, _, _]) rfl) rfl (st (.loadP1 (.t rfl) ty3) rfl (st (.mv (.t rfl)) rfl (st (.eq (.addI (.t rfl) (.t rfl) (by first | omega | assumption) (by first | omega | assumption)) ((show isI _ = isI ((lo + i : Nat) : Int) from isI_eq (by omega)))) rfl (st (.mv (.t rfl)) rfl (st (.call (zmat_get (i := lo + i) (k := k) hxm hp) (.cons (.t rfl) (.cons (.t rfl) (.cons (.t rfl) .nil)))) rfl (.store (.t rfl) (.t rfl) (i := 0) rfl ty31 rfl rfl (Ss' := [_, _]) rfl (M' := [(some _, cellM [_, _])]) rfl (nl (.thn (k2 _ _ (.cv (Cv.wk (.l [6] rfl)) (.ret (rt1 (.inl rfl) Tryz.results154 rfl (.cell rfl (i := 0) rfl ty31 rfl ?_ .nil)))))))))))))))))))
 all_goals (rfl)
theorem zmat_Rows {R C K lo hi : Nat} {xs : List (Bool × List Nat)} (hx : Bd (vals xs) K) (hK : K ≤ 400000000) (hR : R ≤ 64) (hC : C ≤ 64) (hl : xs.length = R * C) (h1 : lo ≤ hi) (h2 : hi ≤ R) : Ctr Tryz.prog 81 [isM (R : Int) (C : Int) xs, isI (lo : Int), isI (hi : Int)] (isTup [isMz ((hi - lo : Nat)) C (tab ((hi - lo) * C) C fun i k => cf (vals xs) ((lo + i) * C + k)), isI 0]) := by
 refine Ctr.intro Tryz.func81 rfl (by kernel_rfl) Tryz.ntmps81 rfl fun w0 F0 => .cv (Cv.wk (.l [0, 1, 2] rfl)) (.fact (Has.rngI (Has.t (t := 1) rfl)) fun lt1 => .fact (Has.rngI (Has.t (t := 2) rfl)) fun lt2 => ?_)
 have hRC := side_le hR hC
 have hfo := formB_true hR hC hl
 refine .seq fun _ k1 => .region (.box (.t rfl) rfl fun b1 => .box (.t rfl) rfl fun b2 => .alloc [isI 0, isI 0, nilS] zero24 (fun _ _ => ⟨⟨rfl, by decide, by decide⟩, ⟨rfl, by decide, by decide⟩, rfl, trivial⟩) rfl fun b3 => st (.as (.cI 0 rfl)) rfl (nl (.thn (k1 _ _ (.seq fun _ k2 => .block (.seq fun _ k3 => .region (st (.load (.t rfl) (i := 2) rfl ty24 rfl (Ss' := [_, _, _]) rfl) rfl (st (.eq (.call (zmat_Formed) (.cons (.t rfl) .nil)) ((show isB _ = isB true from isB_eq (hfo)))) rfl (st (.not (.t rfl)) rfl (st (.as (.t rfl)) rfl (nl (.thn (k3 _ _ (.cv (Cv.wk (.l [2, 3, 4, 6, 7, 8] rfl)) (.cond (.t rfl) (fun hc1 => ?_) (fun hc1 => ?_))))))))))))))))
 ·have hc1 := BP.t hc1
  exfalso; simp at hc1
 ·have hc1 := BP.f hc1
  refine .seq fun _ k4 => .region (st (.load1 (.t rfl) (i := 1) rfl ty3 rfl) rfl (st (.ltI (.t rfl) (.cI 0 rfl)) rfl (st (.mv (.t rfl)) rfl ?_)))
  refine stF rfl rfl (fun hg => have hg' := BP.t hg; OK1.load1 (.t rfl) (i := 1) rfl ty3 rfl) rfl ?_
  refine stF rfl rfl (fun hg => have hg' := BP.t hg; OK1.mv (.t rfl)) rfl ?_
  refine stF rfl rfl (fun hg => have hg' := BP.t hg; OK1.gtI (Has.g rfl hg) (Has.g rfl hg)) rfl ?_
  refine st (.pickOr (.t rfl) (fun h => Has.g rfl (ng h))) rfl (st (.mv (.t rfl)) rfl ?_)
  refine stF rfl rfl (fun hg => have hg' := BP.t hg; OK1.mv (.t rfl)) rfl ?_
  refine stF rfl rfl (fun hg => have hg' := BP.t hg; OK1.fieldAddr (.t rfl) fld24_0 ty3) rfl ?_
  refine stF rfl rfl (fun hg => have hg' := BP.t hg; OK1.load1 (Has.g rfl hg) (i := 2) rfl ty3 rfl) rfl ?_
  refine stF rfl rfl (fun hg => have hg' := BP.t hg; OK1.gtI (Has.g rfl hg) (Has.g rfl hg)) rfl ?_
  refine st (.pickOr (.t rfl) (fun h => Has.g rfl (ng h))) rfl (st (.as (.t rfl)) rfl (nl (.thn (k4 _ _ (.cv (Cv.wk (.l [2, 3, 4, 6, 7, 13] rfl)) (.cond (.t rfl) (fun hc2 => ?_) (fun hc2 => ?_)))))))
  ·have hc2 := BP.t hc2
   exfalso; omega
  ·have hc2 := BP.f hc2
   refine .skip (.bln (.thn (k2 _ _ (.seq fun _ k5 => .region (st (.mv (.t rfl)) rfl (st (.load1 (.t rfl) (i := 1) rfl ty3 rfl) rfl (st (.eq (.subI (.t rfl) (.t rfl) (by first | omega | assumption) (by first | omega | assumption)) ((show isI _ = isI ((hi - lo : Nat) : Int) from isI_eq (by omega)))) rfl (st (.fieldAddr (.t rfl) fld24_1 ty3) rfl (st (.load1 (.t rfl) (i := 2) rfl ty3 rfl) rfl (.cv (Cv.freezeBox (t := 3) (i := 2) rfl rfl rfl) (.memEq (M' := [_, _]) rfl (.cv (Cv.wk (.l [2, 3, 4, 6, 7, 13, 28, 29, 30, 32] rfl)) (.cv (Cv.freezeBox (t := 4) (i := 1) rfl rfl rfl) (.memEq (M' := [_]) rfl (.cv (Cv.wk (.l [2, 3, 4, 6, 7, 13, 28, 29, 30, 32] rfl)) (st (.makeFn (ι := PI (hi - lo) C) (As := fun p => [isI (p.1.1 : Int), isI (p.1.2 : Int)]) (R := fun p => Flat (zc (xs.getD ((lo + p.1.1) * C + p.1.2) (false, [])))) (fun p => zmat_Rows_1 (by omega) (by have := p.2.1; omega) (by have := place_lt (show lo + p.1.1 < R by have := p.2.1; omega) p.2.2; omega)) .nil (.cons (.t rfl) (.cons (.t rfl) .nil))) rfl ?_))))))))))))))))
   refine st (.call (zmat_made (f := fun i k => xs.getD ((lo + i) * C + k) (false, [])) (by omega) hC (fun i k _ _ => Nat.le_trans (hx.raw _) (by omega))) (.cons (.t rfl) (.cons (.t rfl) (.cons (.t rfl) .nil)))) rfl (.store (.t rfl) (.t rfl) (i := 0) rfl ty24 rfl rfl (Ss' := [_, _, _]) rfl (M' := [(some _, cellM [_, _, _])]) rfl (st (.as (.cI 0 rfl)) rfl (nl (.thn (k5 _ _ (.cv (Cv.wk (.l [6, 7] rfl)) (.ret (rtN (.inl rfl) Tryz.results81 rfl rfl (.cell rfl (i := 0) rfl ty24 rfl ?_ (.tmp (Has.t' rfl ?_) .nil))))))))))
   ·exact isMz_eq (by congr 1; funext i k; rw [cf_vals])
   ·rfl
theorem zmat_Stack_1 {R R' C i k : Nat} {xs ys : List (Bool × List Nat)} (hxm : xs.length ≤ 4096) (hym : ys.length ≤ 4096) (hxl : xs.length = R * C) (hyl : ys.length = R' * C) (hi : i < R + R') (hk : k < C) : Ctr Tryz.prog 78 [isI (i : Int), isI (k : Int), ptM (R : Int) (C : Int) xs, ptM (R' : Int) (C : Int) ys] (Flat (zc (if i < R then xs.getD (i * C + k) (false, []) else ys.getD ((i - R) * C + k) (false, [])))) := by
 refine Ctr.intro Tryz.func78 rfl (by kernel_rfl) Tryz.ntmps78 rfl fun w0 F0 => .cv (Cv.wk (.l [0, 1, 2, 3] rfl)) (.fact (Has.rngI (Has.t (t := 0) rfl)) fun lt0 => .fact (Has.rngI (Has.t (t := 1) rfl)) fun lt1 => .seq fun _ k1 => .region (.alloc [isB false, SlM isU []] zero31 (fun _ _ => ⟨rfl, nilM _ _, trivial⟩) rfl fun b1 => nl (.thn (k1 _ _ (.seq fun _ k2 => .seq fun _ k3 => .region (st (.mv (.t rfl)) rfl (st (.fieldAddrP (.t rfl) fld24_0 ty3 (Ss' := [_, _, _]) rfl) rfl (st (.loadP1 (.t rfl) ty3) rfl (st (.ltI (.t rfl) (.t rfl)) rfl (nl (.thn (k3 _ _ (.cond (.t rfl) (fun hc1 => ?_) (fun hc1 => ?_))))))))))))))
 ·have hc1 := BP.t hc1
  refine .seq fun _ k4 => .region (st (.loadP (.t rfl) ty24 rfl (Ss' := [_, _, _]) rfl) rfl (st (.mv (.t rfl)) rfl (st (.mv (.t rfl)) rfl (st (.call (zmat_get (i := i) (k := k) hxm (by have := place_lt (show i < R by omega) hk; omega)) (.cons (.t rfl) (.cons (.t rfl) (.cons (.t rfl) .nil)))) rfl ?_))))
  refine .store (.t rfl) (.t rfl) (i := 0) rfl ty31 rfl rfl (Ss' := [_, _]) rfl (M' := [(some _, cellM [_, _])]) rfl (nl (.thn (k4 _ _ (.cv (Cv.wk (.l [0, 1, 2, 3, 6] rfl)) (.ret (.thr (rt1 (.inl rfl) Tryz.results78 rfl (.cell rfl (i := 0) rfl ty31 rfl ?_ .nil))))))))
  all_goals (rw [if_pos (by omega)])
 ·have hc1 := BP.f hc1
  refine .skip (.thn (k2 _ _ (.seq fun _ k5 => .region (st (.loadP (.t rfl) ty24 rfl (Ss' := [_, _, _]) rfl) rfl (st (.mv (.t rfl)) rfl (st (.fieldAddrP (.t rfl) fld24_0 ty3 (Ss' := [_, _, _]) rfl) rfl (st (.loadP1 (.t rfl) ty3) rfl (st (.eq (.subI (.t rfl) (.t rfl) (by first | omega | assumption) (by first | omega | assumption)) ((show isI _ = isI ((i - R : Nat) : Int) from isI_eq (by omega)))) rfl (st (.mv (.t rfl)) rfl (st (.call (zmat_get (i := i - R) (k := k) hym (by have := place_lt (show i - R < R' by omega) hk; omega)) (.cons (.t rfl) (.cons (.t rfl) (.cons (.t rfl) .nil)))) rfl ?_))))))))))
  refine .store (.t rfl) (.t rfl) (i := 0) rfl ty31 rfl rfl (Ss' := [_, _]) rfl (M' := [(some _, cellM [_, _])]) rfl (nl (.thn (k5 _ _ (.cv (Cv.wk (.l [6] rfl)) (.ret (rt1 (.inl rfl) Tryz.results78 rfl (.cell rfl (i := 0) rfl ty31 rfl ?_ .nil)))))))
  all_goals (rw [if_neg (by omega)])
theorem zmat_Stack {R R' C K : Nat} {xs ys : List (Bool × List Nat)} (hx : Bd (vals xs) K) (hy : Bd (vals ys) K) (hK : K ≤ 400000000) (hR : R + R' ≤ 64) (hC : C ≤ 64) (hl : xs.length = R * C) (hyl : ys.length = R' * C) : Ctr Tryz.prog 18 [isM (R : Int) (C : Int) xs, isM (R' : Int) (C : Int) ys] (isTup [isMz ((R + R' : Nat)) C (stkL R R' C (vals xs) (vals ys)), isI 0]) := by
 refine Ctr.intro Tryz.func18 rfl (by kernel_rfl) Tryz.ntmps18 rfl fun w0 F0 => .cv (Cv.wk (.l [0, 1] rfl)) ?_
 have h1 := side_le (show R ≤ 64 by omega) hC
 have h2 := side_le (show R' ≤ 64 by omega) hC
 have hfo := formB_true (show R ≤ 64 by omega) hC hl
 have hfo' := formB_true (show R' ≤ 64 by omega) hC hyl
 refine .seq fun _ k1 => .region (.box (.t rfl) rfl fun b1 => .box (.t rfl) rfl fun b2 => .alloc [isI 0, isI 0, nilS] zero24 (fun _ _ => ⟨⟨rfl, by decide, by decide⟩, ⟨rfl, by decide, by decide⟩, rfl, trivial⟩) rfl fun b3 => st (.as (.cI 0 rfl)) rfl (nl (.thn (k1 _ _ (.seq fun _ k2 => .block (.seq fun _ k3 => .region (st (.load (.t rfl) (i := 2) rfl ty24 rfl (Ss' := [_, _, _]) rfl) rfl (st (.eq (.call (zmat_Formed) (.cons (.t rfl) .nil)) ((show isB _ = isB true from isB_eq (hfo)))) rfl (st (.not (.t rfl)) rfl (st (.mv (.t rfl)) rfl ?_))))))))))
 refine stF rfl rfl (fun hg => have hg' := BP.t hg; OK1.load (.t rfl) (i := 1) rfl ty24 rfl (Ss' := [_, _, _]) rfl) rfl ?_
 refine stF rfl rfl (fun hg => have hg' := BP.t hg; OK1.eq (.call (zmat_Formed) (.cons (Has.g rfl hg) .nil)) ((show isB _ = isB true from isB_eq (hfo')))) rfl ?_
 refine stF rfl rfl (fun hg => have hg' := BP.t hg; OK1.not (Has.g rfl hg)) rfl ?_
 refine st (.pickOr (.t rfl) (fun h => Has.g rfl (ng h))) rfl (st (.mv (.t rfl)) rfl ?_)
 refine stF rfl rfl (fun hg => have hg' := BP.t hg; OK1.fieldAddr (.t rfl) fld24_1 ty3) rfl ?_
 refine stF rfl rfl (fun hg => have hg' := BP.t hg; OK1.load1 (Has.g rfl hg) (i := 2) rfl ty3 rfl) rfl ?_
 refine stF rfl rfl (fun hg => have hg' := BP.t hg; OK1.fieldAddr (.t rfl) fld24_1 ty3) rfl ?_
 refine stF rfl rfl (fun hg => have hg' := BP.t hg; OK1.load1 (Has.g rfl hg) (i := 1) rfl ty3 rfl) rfl ?_
 refine stF rfl rfl (fun hg => have hg' := BP.t hg; OK1.neI (Has.g rfl hg) (Has.g rfl hg)) rfl ?_
 refine st (.pickOr (.t rfl) (fun h => Has.g rfl (ng h))) rfl (st (.as (.t rfl)) rfl (nl (.thn (k3 _ _ (.cv (Cv.wk (.l [2, 3, 4, 5, 6] rfl)) (.cond (.t rfl) (fun hc1 => ?_) (fun hc1 => ?_)))))))
 ·have hc1 := BP.t hc1
  exfalso; simp at hc1
 ·have hc1 := BP.f hc1
  refine .seq fun _ k4 => .region (st (.fieldAddr (.t rfl) fld24_0 ty3) rfl (st (.load1 (.t rfl) (i := 2) rfl ty3 rfl) rfl (st (.fieldAddr (.t rfl) fld24_0 ty3) rfl (st (.load1 (.t rfl) (i := 1) rfl ty3 rfl) rfl (st (.eq (.addI (.t rfl) (.t rfl) (by first | omega | assumption) (by first | omega | assumption)) ((show isI _ = isI ((R + R' : Nat) : Int) from isI_eq (by omega)))) rfl (st (.call (zmat_side) (.cons (.t rfl) .nil)) rfl (st (.not (.t rfl)) rfl (st (.as (.t rfl)) rfl (nl (.thn (k4 _ _ (.cv (Cv.wk (.l [2, 3, 4, 5, 23] rfl)) (.cond (.t rfl) (fun hc2 => ?_) (fun hc2 => ?_))))))))))))))
  ·have hc2 := BP.t hc2
   exfalso; simp at hc2; omega
  ·have hc2 := BP.f hc2
   refine .skip (.bln (.thn (k2 _ _ (.seq fun _ k5 => .region (st (.fieldAddr (.t rfl) fld24_0 ty3) rfl (st (.load1 (.t rfl) (i := 2) rfl ty3 rfl) rfl (st (.fieldAddr (.t rfl) fld24_0 ty3) rfl (st (.load1 (.t rfl) (i := 1) rfl ty3 rfl) rfl (st (.eq (.addI (.t rfl) (.t rfl) (by first | omega | assumption) (by first | omega | assumption)) ((show isI _ = isI ((R + R' : Nat) : Int) from isI_eq (by omega)))) rfl (st (.fieldAddr (.t rfl) fld24_1 ty3) rfl (st (.load1 (.t rfl) (i := 2) rfl ty3 rfl) rfl (.cv (Cv.freezeBox (t := 2) (i := 2) rfl rfl rfl) (.memEq (M' := [_, _]) rfl (.cv (Cv.wk (.l [2, 3, 4, 5, 23, 33, 34, 35, 36, 38] rfl)) (.cv (Cv.freezeBox (t := 3) (i := 1) rfl rfl rfl) (.memEq (M' := [_]) rfl (.cv (Cv.wk (.l [2, 3, 4, 5, 23, 33, 35, 36, 38] rfl)) (st (.makeFn (ι := PI (R + R') C) (As := fun p => [isI (p.1.1 : Int), isI (p.1.2 : Int)]) (R := fun p => Flat (zc (if p.1.1 < R then xs.getD (p.1.1 * C + p.1.2) (false, []) else ys.getD ((p.1.1 - R) * C + p.1.2) (false, [])))) (fun p => zmat_Stack_1 (by omega) (by omega) hl hyl p.2.1 p.2.2) .nil (.cons (.t rfl) (.cons (.t rfl) .nil))) rfl ?_))))))))))))))))))
   refine st (.call (zmat_made (f := fun i k => if i < R then xs.getD (i * C + k) (false, []) else ys.getD ((i - R) * C + k) (false, [])) (by omega) hC (fun i k _ _ => by split; exact Nat.le_trans (hx.raw _) (by omega); exact Nat.le_trans (hy.raw _) (by omega))) (.cons (.t rfl) (.cons (.t rfl) (.cons (.t rfl) .nil)))) rfl ?_
   refine .store (.t rfl) (.t rfl) (i := 0) rfl ty24 rfl rfl (Ss' := [_, _, _]) rfl (M' := [(some _, cellM [_, _, _])]) rfl (st (.as (.cI 0 rfl)) rfl (nl (.thn (k5 _ _ (.cv (Cv.wk (.l [4, 5] rfl)) (.ret (rtN (.inl rfl) Tryz.results18 rfl rfl (.cell rfl (i := 0) rfl ty24 rfl ?_ (.tmp (Has.t' rfl ?_) .nil)))))))))
   ·exact isMz_eq (by unfold stkL; congr 1; funext i k; rw [cf_vals, cf_vals]; split <;> rfl)
   ·rfl
end Go.Proofs.YthkdmhaafanjlaaGreat
namespace Go.Pz
open Go.Nt Go.En
theorem normal_dead {z : Int} (h : (0 < (((List.length (words z.natAbs)) : Nat) : Int) ∧ dig z.natAbs ((List.length (words z.natAbs)) - 1) = 0) ∨ ((((List.length (words z.natAbs)) : Nat) : Int) = 0 ∧ z < 0)) : False := by
 rcases h with ⟨h1, h2⟩ | ⟨h1, h2⟩
 ·refine dig_top (n := z.natAbs) (fun e => ?_) h2
  rw [e, words_zero] at h1; exact absurd h1 (by decide)
 ·have := nw_lt z.natAbs
  rw [show (List.length (words z.natAbs)) = 0 by omega, Nat.pow_zero] at this
  omega
def fewB (xs : List (Bool × List Nat)) (n w : Int) : Bool := (xs.take 100).all (fun p => decide ((p.2.length : Int) ≤ w)) && decide ((xs.length : Int) ≤ n)
theorem fewB_no {xs : List (Bool × List Nat)} {n w : Int} {i : Nat} (hi : i < xs.length) (h1 : i < 100) (h : ¬ ((xs.getD i (false, [])).2.length : Int) ≤ w) : fewB xs n w = false := by
 unfold fewB
 have hm : xs.getD i (false, []) ∈ xs.take 100 := by
  rw [List.getD, List.getElem?_eq_getElem hi]
  exact List.mem_take_iff_getElem.2 ⟨i, by omega, rfl⟩
 have : (xs.take 100).all (fun p => decide ((p.2.length : Int) ≤ w)) = false := by
  rw [List.all_eq_false]
  exact ⟨_, hm, by rw [decide_eq_true_eq]; exact h⟩
 rw [this]; rfl
theorem fewB_yes {xs : List (Bool × List Nat)} {n w : Int} {i : Nat} (hi : xs.length ≤ i ∨ 100 ≤ i) (h : ∀ j, j < i → ((xs.getD j (false, [])).2.length : Int) ≤ w) : fewB xs n w = decide ((xs.length : Int) ≤ n) := by
 unfold fewB
 have : (xs.take 100).all (fun p => decide ((p.2.length : Int) ≤ w)) = true := by
  rw [List.all_eq_true]
  intro p hp
  obtain ⟨j, hj, rfl⟩ := List.mem_take_iff_getElem.1 hp
  have := h j (by omega)
  rw [List.getD, List.getElem?_eq_getElem (by omega)] at this
  exact decide_eq_true this
 rw [this]; rfl
theorem fewB_bd {xs : List (Bool × List Nat)} {n w : Int} {N K : Nat} (ok : ∀ p ∈ xs, (∀ y ∈ p.2, y < 18446744073709551616) ∧ p.2.length ≤ 9223372036854775807) (h : fewB xs n w = true) (hn : n = (N : Int)) (hw : w = (K : Int)) (h1 : N ≤ 100) : xs.length ≤ N ∧ Bd (vals xs) K := by
 unfold fewB at h
 rw [Bool.and_eq_true, decide_eq_true_eq, List.all_eq_true] at h
 subst hn; subst hw
 refine ⟨by omega, fun i => ?_⟩
 rw [cf_vals, zv_nw]
 rcases Nat.lt_or_ge i xs.length with hi | hi
 ·rw [List.getD, List.getElem?_eq_getElem hi]
  have h2 := h.1 xs[i] (List.mem_take_iff_getElem.2 ⟨i, by omega, rfl⟩)
  rw [decide_eq_true_eq] at h2
  exact Nat.le_trans (nw_val (ok _ (List.getElem_mem hi)).1) (by show xs[i].2.length ≤ K; omega)
 ·rw [List.getD, List.getElem?_eq_none (by omega)]
  show (List.length (words (val []))) ≤ K
  rw [show val [] = 0 from rfl, words_zero]; exact Nat.zero_le _
end Go.Pz
namespace Go.Proofs.YthkdmhaafanjlaaGreat
open Go.En Go.RowKit
set_option maxRecDepth 10000
set_option maxHeartbeats 4000000
open Go.Nt
open Go.Pz
theorem ref10_Few {xs : List (Bool × List Nat)} {n w : Int} : Ctr Tryz.prog 30 [SlK 2 zc xs, isI n, isI w] (isB (fewB xs n w)) := by
 refine Ctr.intro Tryz.func30 rfl (by kernel_rfl) Tryz.ntmps30 rfl fun w0 F0 => .cv (Cv.wk (.l [0, 1, 2] rfl)) (.fact (Has.lenLt (Has.t (t := 0) rfl)) fun lt0 => .fact (Has.rngI (Has.t (t := 1) rfl)) fun lt1 => .fact (Has.rngI (Has.t (t := 2) rfl)) fun lt2 => .seq fun _ k1 => .region (st (.as (.cB false)) rfl (nl (.thn (k1 _ _ (.seq fun _ k2 => .seq fun _ k3 => .region (st (.as (.cI 0 rfl)) rfl (nl (.thn (k3 _ _ (.block (.loopF [0, 1, 2] (fun (z : { i : Nat // i ≤ xs.length ∧ i ≤ 100 ∧ ∀ j, j < i → ((xs.getD j (false, [])).2.length : Int) ≤ w }) => match z with | ⟨i, hi⟩ => [(7, isI (i : Int))]) (fun M => fun (z : { i : Nat // i ≤ xs.length ∧ i ≤ 100 ∧ ∀ j, j < i → ((xs.getD j (false, [])).2.length : Int) ≤ w }) => match z with | ⟨i, hi⟩ => []) (fun (z : { i : Nat // i ≤ xs.length ∧ i ≤ 100 ∧ ∀ j, j < i → ((xs.getD j (false, [])).2.length : Int) ≤ w }) => match z with | ⟨i, hi⟩ => xs.length - i) (⟨0, Nat.zero_le _, by omega, fun j h => absurd h (Nat.not_lt_zero _)⟩) (Cv.mem (.c 7 rfl ?_ (.l [0, 1, 2] rfl)) ?_) ?_))))))))))))
 ·rfl
 ·rfl
 rintro ⟨i, hi, h1, hj⟩ K4 hK4
 refine .cv (Cv.wk (.l [7, 0, 1, 2] rfl)) (.memEq (M' := []) rfl (.seq fun _ k5 => .seq fun _ k6 => .region (st (.mv (.t rfl)) rfl (st (.mv (.t rfl)) rfl (st (.len sl22 (.t rfl)) rfl (st (.ltI (.t rfl) (.t rfl)) rfl (st (.mv (.t rfl)) rfl ?_)))))))
 refine stT rfl rfl (fun hg => have hg' := BP.t hg; OK1.mv (.t rfl)) rfl ?_
 refine stT rfl rfl (fun hg => have hg' := BP.t hg; OK1.ltI (Has.g rfl hg) (.cI 100 rfl)) rfl ?_
 refine st (.pickAnd (.t rfl) (fun h => Has.g rfl h)) rfl (nl (.thn (k6 _ _ (.cond (.t rfl) (fun hc1 => ?_) (fun hc1 => ?_)))))
 ·have hc1 := BP.t hc1
  refine .skip (.thn (k5 _ _ (.seq fun _ k7 => .block (.seq fun _ k8 => .region (st (.mv (.t rfl)) rfl (st (.mv (.t rfl)) rfl (st (.ixK sl22 ty31 (.t rfl) (.t rfl) zc_len ⟨by omega, by omega⟩ (getD_some (d := (false, [])) (by first | omega | (simp only [Int.toNat_natCast, List.length_set]; omega)))) rfl ?_)))))))
  refine st (.fieldAddrP (.t rfl) fld31_1 ty29 (Ss' := [_]) rfl) rfl (st (.loadP1 (.t rfl) ty29) rfl (st (.len sl29 (.t rfl)) rfl (st (.mv (.t rfl)) rfl (st (.gtI (.t rfl) (.t rfl)) rfl (nl (.thn (k8 _ _ (.cond (.t rfl) (fun hc2 => ?_) (fun hc2 => ?_)))))))))
  ·have hc2 := BP.t hc2
   have hNo : ¬ ((xs.getD i (false, [])).2.length : Int) ≤ w := (by simp only [Int.toNat_natCast] at hc2; omega)
   refine .seq fun _ k9 => .region (st (.as (.cB false)) rfl (nl (.thn (k9 _ _ (.ret (.blr (.thr (.thr (.blr (.thr (rt1 (.inl rfl) Tryz.results30 rfl (.tmp (Has.t' rfl ?_) .nil))))))))))))
   all_goals (exact isB_eq (fewB_no (by omega) (by omega) hNo).symm)
  ·have hc2 := BP.f hc2
   have hLe : ((xs.getD i (false, [])).2.length : Int) ≤ w := (by simp only [Int.toNat_natCast] at hc2; omega)
   refine .skip (.bln (.thn (k7 _ _ (.region (st (.mv (.t rfl)) rfl (st (.addI (.t rfl) (.cI 1 rfl) (by first | omega | assumption) (by first | omega | assumption)) rfl (st (.as (.t rfl)) rfl (nl (.thn ?_)))))))))
   refine hK4 (⟨i + 1, by omega, by omega, fun j h => by rcases Nat.lt_or_ge j i with h2 | h2; exact hj j h2; rw [show j = i by omega]; exact hLe⟩) _ _ ?_ (Cv.mem (.c 7 rfl ?_ (.l [0, 1, 2] rfl)) ?_)
   ·show xs.length - (i + 1) < xs.length - i; omega
   ·exact isI_eq (by omega)
   ·rfl
 ·have hc1 := BP.f hc1
  refine .exit (.the (.the (.blh (.thn (k2 _ _ (.cv (Cv.wk (.l [0, 1] rfl)) (.seq fun _ k10 => .region (st (.mv (.t rfl)) rfl (st (.len sl22 (.t rfl)) rfl (st (.mv (.t rfl)) rfl (st (.leI (.t rfl) (.t rfl)) rfl (st (.as (.t rfl)) rfl (nl (.thn (k10 _ _ (.cv (Cv.wk (.l [6] rfl)) (.ret (rt1 (.inl rfl) Tryz.results30 rfl (.tmp (Has.t' rfl ?_) .nil)))))))))))))))))))
  all_goals (exact isB_eq (fewB_yes (by omega) hj).symm)
end Go.Proofs.YthkdmhaafanjlaaGreat
namespace Go.Proofs.YthkdmhaafanjlaaGreat
open Go.En Go.RowKit
set_option maxRecDepth 10000
set_option maxHeartbeats 4000000
open Go.Nt
open Go.Pz
open Go.Mz
open Go.Dt
theorem ref11_Formed {r c : Int} {xs : List (Bool × List Nat)} : Ctr Tryz.prog 14 [isM r c xs] (isB (formB r c xs.length)) := by
 refine Ctr.intro Tryz.func14 rfl (by kernel_rfl) Tryz.ntmps14 rfl fun w0 F0 => .cv (Cv.wk (.l [0] rfl)) (.seq fun _ k1 => .region (.box (.t rfl) rfl fun b1 => st (.as (.cB false)) rfl (nl (.thn (k1 _ _ (.seq fun _ k2 => .region (st (.fieldAddr (.t rfl) fld24_0 ty3) rfl (st (.load1 (.t rfl) (i := 0) rfl ty3 rfl) rfl (st (.geI (.t rfl) (.cI 0 rfl)) rfl (st (.mv (.t rfl)) rfl ?_))))))))))
 refine stT rfl rfl (fun hg => have hg' := BP.t hg; OK1.fieldAddr (.t rfl) fld24_0 ty3) rfl ?_
 refine stT rfl rfl (fun hg => have hg' := BP.t hg; OK1.load1 (Has.g rfl hg) (i := 0) rfl ty3 rfl) rfl ?_
 refine stT rfl rfl (fun hg => have hg' := BP.t hg; OK1.leI (Has.g rfl hg) (.cI 64 rfl)) rfl ?_
 refine st (.pickAnd (.t rfl) (fun h => Has.g rfl h)) rfl (st (.mv (.t rfl)) rfl ?_)
 refine stT rfl rfl (fun hg => have hg' := BP.t hg; OK1.fieldAddr (.t rfl) fld24_1 ty3) rfl ?_
 refine stT rfl rfl (fun hg => have hg' := BP.t hg; OK1.load1 (Has.g rfl hg) (i := 0) rfl ty3 rfl) rfl ?_
 refine stT rfl rfl (fun hg => have hg' := BP.t hg; OK1.geI (Has.g rfl hg) (.cI 0 rfl)) rfl ?_
 refine st (.pickAnd (.t rfl) (fun h => Has.g rfl h)) rfl (st (.mv (.t rfl)) rfl ?_)
 refine stT rfl rfl (fun hg => have hg' := BP.t hg; OK1.fieldAddr (.t rfl) fld24_1 ty3) rfl ?_
 refine stT rfl rfl (fun hg => have hg' := BP.t hg; OK1.load1 (Has.g rfl hg) (i := 0) rfl ty3 rfl) rfl ?_
 refine stT rfl rfl (fun hg => have hg' := BP.t hg; OK1.leI (Has.g rfl hg) (.cI 64 rfl)) rfl ?_
 refine st (.pickAnd (.t rfl) (fun h => Has.g rfl h)) rfl (st (.mv (.t rfl)) rfl ?_)
 refine stT rfl rfl (fun hg => have hg' := BP.t hg; OK1.fieldAddr (.t rfl) fld24_2 ty22) rfl ?_
 refine stT rfl rfl (fun hg => have hg' := BP.t hg; OK1.load1 (Has.g rfl hg) (i := 0) rfl ty22 rfl) rfl ?_
 refine stT rfl rfl (fun hg => have hg' := BP.t hg; OK1.len sl22 (Has.g rfl hg)) rfl ?_
 refine stT rfl rfl (fun hg => have hg' := BP.t hg; OK1.fieldAddr (.t rfl) fld24_0 ty3) rfl ?_
 refine stT rfl rfl (fun hg => have hg' := BP.t hg; OK1.load1 (Has.g rfl hg) (i := 0) rfl ty3 rfl) rfl ?_
 refine stT rfl rfl (fun hg => have hg' := BP.t hg; OK1.fieldAddr (.t rfl) fld24_1 ty3) rfl ?_
 refine stT rfl rfl (fun hg => have hg' := BP.t hg; OK1.load1 (Has.g rfl hg) (i := 0) rfl ty3 rfl) rfl ?_
 refine stT rfl rfl (fun hg => have hg' := BP.t hg; OK1.mulI (Has.g rfl hg) (Has.g rfl hg) (by have := mul_bnd ⟨⟨hg'.1.1.1, hg'.1.1.2⟩, hg'.1.2, hg'.2⟩; omega) (by have := mul_bnd ⟨⟨hg'.1.1.1, hg'.1.1.2⟩, hg'.1.2, hg'.2⟩; omega)) rfl ?_
 refine stT rfl rfl (fun hg => have hg' := BP.t hg; OK1.eqI (Has.g rfl hg) (Has.g rfl hg)) rfl ?_
 refine st (.pickAnd (.t rfl) (fun h => Has.g rfl h)) rfl (st (.as (.t rfl)) rfl (nl (.thn (k2 _ _ (.cv (Cv.wk (.l [2] rfl)) (.ret (rt1 (.inl rfl) Tryz.results14 rfl (.tmp (Has.t' rfl ?_) .nil))))))))
 all_goals (exact isB_eq (by unfold formB; simp only [Bool.and_assoc]))
theorem ref11_At {r : Int} {C i k : Nat} {xs : List (Bool × List Nat)} (hx : xs.length ≤ 4096) (hl : i * C + k < xs.length) : Ctr Tryz.prog 49 [isM r (C : Int) xs, isI (i : Int), isI (k : Int)] (Flat (zc (xs.getD (i * C + k) (false, [])))) := by
 refine Ctr.intro Tryz.func49 rfl (by kernel_rfl) Tryz.ntmps49 rfl fun w0 F0 => .cv (Cv.wk (.l [0, 1, 2] rfl)) (.fact (Has.rngI (Has.t (t := 1) rfl)) fun lt1 => .fact (Has.rngI (Has.t (t := 2) rfl)) fun lt2 => ?_)
 have hcp : ((i : Int) * (C : Int)) = ((i * C : Nat) : Int) := (Int.natCast_mul i C).symm
 refine .seq fun _ k1 => .region (.box (.t rfl) rfl fun b1 => .alloc [isB false, SlM isU []] zero31 (fun _ _ => ⟨rfl, nilM _ _, trivial⟩) rfl fun b2 => nl (.thn (k1 _ _ (.seq fun _ k2 => .region (st (.fieldAddr (.t rfl) fld24_2 ty22) rfl (st (.load1 (.t rfl) (i := 1) rfl ty22 rfl) rfl (st (.mv (.t rfl)) rfl (st (.fieldAddr (.t rfl) fld24_1 ty3) rfl (st (.load1 (.t rfl) (i := 1) rfl ty3 rfl) rfl (st (.eq (.mulI (.t rfl) (.t rfl) (by first | omega | (rw [hcp]; omega)) (by first | omega | (rw [hcp]; omega))) ((show isI _ = isI ((i * C : Nat) : Int) from isI_eq hcp))) rfl ?_))))))))))
 refine st (.mv (.t rfl)) rfl (st (.eq (.addI (.t rfl) (.t rfl) (by first | omega | (rw [hcp]; omega)) (by first | omega | (rw [hcp]; omega))) ((show isI _ = isI ((i * C + k : Nat) : Int) from isI_eq (by omega)))) rfl ?_)
 refine st (.ixK sl22 ty31 (.t rfl) (.t rfl) zc_len ⟨by omega, by omega⟩ (getD_some (d := (false, [])) (by first | omega | (simp only [Int.toNat_natCast, List.length_set]; omega)))) rfl ?_
 refine st (.loadP (.t rfl) ty31 rfl (Ss' := [_, _]) rfl) rfl (.store (.t rfl) (.t rfl) (i := 0) rfl ty31 rfl rfl (Ss' := [_, _]) rfl (M' := [(some _, cellM [_, _]), _]) rfl (nl (.thn (k2 _ _ (.cv (Cv.wk (.l [6] rfl)) (.ret (rt1 (.inl rfl) Tryz.results49 rfl (.cell rfl (i := 0) rfl ty31 rfl ?_ .nil))))))))
 all_goals (rfl)
theorem ref11_Few {r c n w : Int} {xs : List (Bool × List Nat)} : Ctr Tryz.prog 13 [isM r c xs, isI n, isI w] (isB (decide (r ≤ n) && decide (c ≤ n) && fewB xs 100 w)) := by
 refine Ctr.intro Tryz.func13 rfl (by kernel_rfl) Tryz.ntmps13 rfl fun w0 F0 => .cv (Cv.wk (.l [0, 1, 2] rfl)) (.fact (Has.rngI (Has.t (t := 1) rfl)) fun lt1 => .fact (Has.rngI (Has.t (t := 2) rfl)) fun lt2 => .seq fun _ k1 => .region (.box (.t rfl) rfl fun b1 => st (.as (.cB false)) rfl (nl (.thn (k1 _ _ (.seq fun _ k2 => .region (st (.fieldAddr (.t rfl) fld24_0 ty3) rfl (st (.load1 (.t rfl) (i := 0) rfl ty3 rfl) rfl (st (.mv (.t rfl)) rfl (st (.leI (.t rfl) (.t rfl)) rfl (st (.mv (.t rfl)) rfl ?_)))))))))))
 refine stT rfl rfl (fun hg => have hg' := BP.t hg; OK1.fieldAddr (.t rfl) fld24_1 ty3) rfl ?_
 refine stT rfl rfl (fun hg => have hg' := BP.t hg; OK1.load1 (Has.g rfl hg) (i := 0) rfl ty3 rfl) rfl ?_
 refine stT rfl rfl (fun hg => have hg' := BP.t hg; OK1.mv (.t rfl)) rfl ?_
 refine stT rfl rfl (fun hg => have hg' := BP.t hg; OK1.leI (Has.g rfl hg) (Has.g rfl hg)) rfl ?_
 refine st (.pickAnd (.t rfl) (fun h => Has.g rfl h)) rfl (st (.mv (.t rfl)) rfl ?_)
 refine stT rfl rfl (fun hg => have hg' := BP.t hg; OK1.fieldAddr (.t rfl) fld24_2 ty22) rfl ?_
 refine stT rfl rfl (fun hg => have hg' := BP.t hg; OK1.load1 (Has.g rfl hg) (i := 0) rfl ty22 rfl) rfl ?_
 refine stT rfl rfl (fun hg => have hg' := BP.t hg; OK1.mv (.t rfl)) rfl ?_
 refine stT rfl rfl (fun hg => have hg' := BP.t hg; OK1.call (ref10_Few) (.cons (Has.g rfl hg) (.cons (.cI 100 rfl) (.cons (Has.g rfl hg) .nil)))) rfl ?_
 refine st (.pickAnd (.t rfl) (fun h => Has.g rfl h)) rfl (st (.as (.t rfl)) rfl (nl (.thn (k2 _ _ (.cv (Cv.wk (.l [6] rfl)) (.ret (rt1 (.inl rfl) Tryz.results13 rfl (.tmp (Has.t' rfl ?_) .nil))))))))
 all_goals (rfl)
end Go.Proofs.YthkdmhaafanjlaaGreat
namespace Go.Proofs.YthkdmhaafanjlaaGreat
open Go.En Go.RowKit
set_option maxRecDepth 10000
set_option maxHeartbeats 4000000
open Go.Nt
open Go.Pz
open Go.Mz
open Go.Hn
open Go.Hp
open Go.Dt
theorem ref11_None {r c : Int} {xs : List (Bool × List Nat)} : Ctr Tryz.prog 16 [isM r c xs] (isB (decide (r = 0) && decide (c = 0) && decide ((xs.length : Int) = 0))) := by
 refine Ctr.intro Tryz.func16 rfl (by kernel_rfl) Tryz.ntmps16 rfl fun w0 F0 => .cv (Cv.wk (.l [0] rfl)) (.seq fun _ k1 => .region (.box (.t rfl) rfl fun b1 => st (.as (.cB false)) rfl (nl (.thn (k1 _ _ (.seq fun _ k2 => .region (st (.fieldAddr (.t rfl) fld24_0 ty3) rfl (st (.load1 (.t rfl) (i := 0) rfl ty3 rfl) rfl (st (.eqI (.t rfl) (.cI 0 rfl)) rfl (st (.mv (.t rfl)) rfl ?_))))))))))
 refine stT rfl rfl (fun hg => have hg' := BP.t hg; OK1.fieldAddr (.t rfl) fld24_1 ty3) rfl ?_
 refine stT rfl rfl (fun hg => have hg' := BP.t hg; OK1.load1 (Has.g rfl hg) (i := 0) rfl ty3 rfl) rfl ?_
 refine stT rfl rfl (fun hg => have hg' := BP.t hg; OK1.eqI (Has.g rfl hg) (.cI 0 rfl)) rfl ?_
 refine st (.pickAnd (.t rfl) (fun h => Has.g rfl h)) rfl (st (.mv (.t rfl)) rfl ?_)
 refine stT rfl rfl (fun hg => have hg' := BP.t hg; OK1.fieldAddr (.t rfl) fld24_2 ty22) rfl ?_
 refine stT rfl rfl (fun hg => have hg' := BP.t hg; OK1.load1 (Has.g rfl hg) (i := 0) rfl ty22 rfl) rfl ?_
 refine stT rfl rfl (fun hg => have hg' := BP.t hg; OK1.len sl22 (Has.g rfl hg)) rfl ?_
 refine stT rfl rfl (fun hg => have hg' := BP.t hg; OK1.eqI (Has.g rfl hg) (.cI 0 rfl)) rfl ?_
 refine st (.pickAnd (.t rfl) (fun h => Has.g rfl h)) rfl (st (.as (.t rfl)) rfl (nl (.thn (k2 _ _ (.cv (Cv.wk (.l [2] rfl)) (.ret (rt1 (.inl rfl) Tryz.results16 rfl (.tmp (Has.t' rfl ?_) .nil))))))))
 all_goals (rfl)
theorem ref11_Normal {r c : Int} {l : List Int} {K : Nat} (hx : Bd l K) (hK : K ≤ 400000000) (hm : l.length ≤ 1000000) : Ctr Tryz.prog 20 [isM r c (l.map nz)] (isB (formB r c l.length)) := by
 refine Ctr.intro Tryz.func20 rfl (by kernel_rfl) Tryz.ntmps20 rfl fun w0 F0 => .cv (Cv.wk (.l [0] rfl)) ?_
 have hll : (l.map nz).length = l.length := List.length_map _
 refine .seq fun _ k1 => .region (.box (.t rfl) rfl fun b1 => st (.as (.cB false)) rfl (nl (.thn (k1 _ _ (.seq fun _ k2 => .seq fun _ k3 => .region (st (.as (.cI 0 rfl)) rfl (nl (.thn (k3 _ _ (.block (.loopF [1] (fun (z : { i : Nat // i ≤ l.length }) => match z with | ⟨i, hi⟩ => [(3, isI (i : Int))]) (fun M => fun (z : { i : Nat // i ≤ l.length }) => match z with | ⟨i, hi⟩ => M) (fun (z : { i : Nat // i ≤ l.length }) => match z with | ⟨i, hi⟩ => l.length - i) (⟨0, Nat.zero_le _⟩) (Cv.mem (.c 3 rfl ?_ (.l [1] rfl)) ?_) ?_)))))))))))
 ·rfl
 ·rfl
 rintro ⟨i, hi⟩ K4 hK4
 refine .cv (Cv.wk (.l [3, 1] rfl)) ?_
 have hbi := hx i
 refine .seq fun _ k5 => .seq fun _ k6 => .region (st (.mv (.t rfl)) rfl (st (.fieldAddr (.t rfl) fld24_2 ty22) rfl (st (.load1 (.t rfl) (i := 0) rfl ty22 rfl) rfl (st (.len sl22 (.t rfl)) rfl (st (.ltI (.t rfl) (.t rfl)) rfl (nl (.thn (k6 _ _ (.cond (.t rfl) (fun hc1 => ?_) (fun hc1 => ?_))))))))))
 ·have hc1 := BP.t hc1
  refine .skip (.thn (k5 _ _ (.seq fun _ k7 => .block (.seq fun _ k8 => .region (st (.fieldAddr (.t rfl) fld24_2 ty22) rfl (st (.load1 (.t rfl) (i := 0) rfl ty22 rfl) rfl (st (.mv (.t rfl)) rfl (st (.ixK sl22 ty31 (.t rfl) (.t rfl) zc_len ⟨by omega, by omega⟩ (getZ (i := i) (by omega))) rfl (st (.fieldAddrP (.t rfl) fld31_1 ty29 (Ss' := [_]) rfl) rfl (st (.eq (.loadP1 (.t rfl) ty29) ((show isWords _ = isWords (words (cf l i).natAbs) from rfl))) rfl (st (.len sl29 (.t rfl)) rfl (st (.as (.t rfl)) rfl (nl (.thn (k8 _ _ (.seq fun _ k9 => .region (st (.mv (.t rfl)) rfl (st (.gtI (.t rfl) (.cI 0 rfl)) rfl (st (.mv (.t rfl)) rfl ?_)))))))))))))))))))
  refine stT rfl rfl (fun hg => have hg' := BP.t hg; OK1.fieldAddr (.t rfl) fld24_2 ty22) rfl ?_
  refine stT rfl rfl (fun hg => have hg' := BP.t hg; OK1.load1 (Has.g rfl hg) (i := 0) rfl ty22 rfl) rfl ?_
  refine stT rfl rfl (fun hg => have hg' := BP.t hg; OK1.mv (.t rfl)) rfl ?_
  refine stT rfl rfl (fun hg => have hg' := BP.t hg; OK1.ixK sl22 ty31 (Has.g rfl hg) (Has.g rfl hg) zc_len ⟨by omega, by omega⟩ (getZ (i := i) (by omega))) rfl ?_
  refine stT rfl rfl (fun hg => have hg' := BP.t hg; OK1.fieldAddrP (Has.g rfl hg) fld31_1 ty29 (Ss' := [_]) rfl) rfl ?_
  refine stT rfl rfl (fun hg => have hg' := BP.t hg; OK1.eq (.loadP1 (Has.g rfl hg) ty29) ((show isWords _ = isWords (words (cf l i).natAbs) from rfl))) rfl ?_
  refine stT rfl rfl (fun hg => have hg' := BP.t hg; OK1.mv (.t rfl)) rfl ?_
  refine stT rfl rfl (fun hg => have hg' := BP.t hg; OK1.subI (Has.g rfl hg) (.cI 1 rfl) (by first | omega | assumption) (by first | omega | assumption)) rfl ?_
  refine stT rfl rfl (fun hg => have hg' := BP.t hg; OK1.ixP sl29 ty39 (Has.g rfl hg) (Has.g rfl hg) ⟨by omega, by omega⟩ (getD_some (d := 0) (by first | omega | (simp only [Int.toNat_natCast, List.length_set]; omega)))) rfl ?_
  refine stT rfl rfl (fun hg => have hg' := BP.t hg; OK1.eq (.loadP1 (Has.g rfl hg) ty39) ((show isU _ = isU (dig (cf l i).natAbs ((List.length (words (cf l i).natAbs)) - 1)) from isU_eq (by rw [show (((List.length (words (cf l i).natAbs)) : Int) - 1).toNat = (List.length (words (cf l i).natAbs)) - 1 by omega, getD_words])))) rfl ?_
  refine stT rfl rfl (fun hg => have hg' := BP.t hg; OK1.eqU (Has.g rfl hg) (.cU 0 rfl)) rfl ?_
  refine st (.pickAnd (.t rfl) (fun h => Has.g rfl h)) rfl (st (.mv (.t rfl)) rfl ?_)
  refine stF rfl rfl (fun hg => have hg' := BP.t hg; OK1.mv (.t rfl)) rfl ?_
  refine stF rfl rfl (fun hg => have hg' := BP.t hg; OK1.eqI (Has.g rfl hg) (.cI 0 rfl)) rfl ?_
  refine stF rfl rfl (fun hg => have hg' := BP.t hg; OK1.mv (Has.g rfl hg)) rfl ?_
  refine stGT rfl rfl (fun hg => have hg' := BP.t hg; OK1.fieldAddr (.t rfl) fld24_2 ty22) rfl ?_
  refine stGT rfl rfl (fun hg => have hg' := BP.t hg; OK1.load1 (Has.g rfl hg) (i := 0) rfl ty22 rfl) rfl ?_
  refine stGT rfl rfl (fun hg => have hg' := BP.t hg; OK1.mv (.t rfl)) rfl ?_
  refine stGT rfl rfl (fun hg => have hg' := BP.t hg; OK1.ixK sl22 ty31 (Has.g rfl hg) (Has.g rfl hg) zc_len ⟨by omega, by omega⟩ (getZ (i := i) (by omega))) rfl ?_
  refine stGT rfl rfl (fun hg => have hg' := BP.t hg; OK1.fieldAddrP (Has.g rfl hg) fld31_0 ty4 (Ss' := [_, _]) rfl) rfl ?_
  refine stGT rfl rfl (fun hg => have hg' := BP.t hg; OK1.eq (.loadP1 (Has.g rfl hg) ty4) ((show isB _ = isB (decide (cf l i < 0)) from rfl))) rfl ?_
  refine stF rfl rfl (fun hg => have hg' := BP.t hg; OK1.pickAnd (Has.g rfl hg) (fun h => Has.g rfl (ga hg h))) rfl ?_
  refine st (.pickOr (.t rfl) (fun h => Has.g rfl (ng h))) rfl (nl (.thn (k9 _ _ (.cond (.t rfl) (fun hc2 => ?_) (fun hc2 => ?_)))))
  ·have hc2 := BP.t hc2
   exact (normal_dead hc2).elim
  ·have hc2 := BP.f hc2
   refine .skip (.bln (.thn (k7 _ _ (.region (st (.mv (.t rfl)) rfl (st (.addI (.t rfl) (.cI 1 rfl) (by first | omega | assumption) (by first | omega | assumption)) rfl (st (.as (.t rfl)) rfl (nl (.thn (hK4 (⟨i + 1, by omega⟩) _ _ ?_ (Cv.mem (.c 3 rfl ?_ (.l [1] rfl)) ?_)))))))))))
   ·show l.length - (i + 1) < l.length - i; omega
   ·exact isI_eq (by omega)
   ·rfl
 ·have hc1 := BP.f hc1
  refine .exit (.the (.the (.blh (.thn (k2 _ _ (.cv (Cv.wk (.l [1] rfl)) (.seq fun _ k10 => .region (st (.load (.t rfl) (i := 0) rfl ty24 rfl (Ss' := [_, _, _]) rfl) rfl (st (.eq (.call (ref11_Formed) (.cons (.t rfl) .nil)) ((show _ = isB (formB r c l.length) from by rw [List.length_map]))) rfl (st (.as (.t rfl)) rfl (nl (.thn (k10 _ _ (.ret (rt1 (.inl rfl) Tryz.results20 rfl (.tmp (Has.t' rfl ?_) .nil))))))))))))))))
  all_goals (rfl)
theorem ref11_Is {R C K N : Nat} {l : List Int} {ys : List (Bool × List Nat)} (hx : Bd l K) (hy : Bd (vals ys) N) (hK : K ≤ 400000000) (hN : N ≤ 400000000) (hR : R ≤ 64) (hC : C ≤ 64) (hl : l.length = R * C) (hyl : ys.length = R * C) (he : ∀ j, j < R * C → cf l j = cf (vals ys) j) : Ctr Tryz.prog 46 [isM (R : Int) (C : Int) (l.map nz), isI (R : Int), isI (C : Int), SlK 2 zc ys] (isB true) := by
 refine Ctr.intro Tryz.func46 rfl (by kernel_rfl) Tryz.ntmps46 rfl fun w0 F0 => .cv (Cv.wk (.l [0, 1, 2, 3] rfl)) (.fact (Has.rngI (Has.t (t := 1) rfl)) fun lt1 => .fact (Has.rngI (Has.t (t := 2) rfl)) fun lt2 => .fact (Has.lenLt (Has.t (t := 3) rfl)) fun lt3 => ?_)
 have hfo := formB_true hR hC hl
 have hRC := side_le hR hC
 have hcp : ((R : Int) * (C : Int)) = ((R * C : Nat) : Int) := (Int.natCast_mul R C).symm
 have hll : (l.map nz).length = R * C := by rw [List.length_map]; exact hl
 refine .seq fun _ k1 => .region (.box (.t rfl) rfl fun b1 => st (.as (.cB false)) rfl (nl (.thn (k1 _ _ (.seq fun _ k2 => .seq fun _ k3 => .region (st (.load (.t rfl) (i := 0) rfl ty24 rfl (Ss' := [_, _, _]) rfl) rfl (st (.eq (.call (ref11_Normal hx hK (by omega)) (.cons (.t rfl) .nil)) ((show isB _ = isB true from isB_eq (hfo)))) rfl (st (.not (.t rfl)) rfl (st (.mv (.t rfl)) rfl ?_)))))))))
 refine stF rfl rfl (fun hg => have hg' := BP.t hg; OK1.fieldAddr (.t rfl) fld24_0 ty3) rfl ?_
 refine stF rfl rfl (fun hg => have hg' := BP.t hg; OK1.load1 (Has.g rfl hg) (i := 0) rfl ty3 rfl) rfl ?_
 refine stF rfl rfl (fun hg => have hg' := BP.t hg; OK1.mv (.t rfl)) rfl ?_
 refine stF rfl rfl (fun hg => have hg' := BP.t hg; OK1.neI (Has.g rfl hg) (Has.g rfl hg)) rfl ?_
 refine st (.pickOr (.t rfl) (fun h => Has.g rfl (ng h))) rfl (st (.mv (.t rfl)) rfl ?_)
 refine stF rfl rfl (fun hg => have hg' := BP.t hg; OK1.fieldAddr (.t rfl) fld24_1 ty3) rfl ?_
 refine stF rfl rfl (fun hg => have hg' := BP.t hg; OK1.load1 (Has.g rfl hg) (i := 0) rfl ty3 rfl) rfl ?_
 refine stF rfl rfl (fun hg => have hg' := BP.t hg; OK1.mv (.t rfl)) rfl ?_
 refine stF rfl rfl (fun hg => have hg' := BP.t hg; OK1.neI (Has.g rfl hg) (Has.g rfl hg)) rfl ?_
 refine st (.pickOr (.t rfl) (fun h => Has.g rfl (ng h))) rfl (st (.mv (.t rfl)) rfl ?_)
 refine stF rfl rfl (fun hg => have hg' := BP.t hg; OK1.mv (.t rfl)) rfl ?_
 refine stF rfl rfl (fun hg => have hg' := BP.t hg; OK1.len sl22 (Has.g rfl hg)) rfl ?_
 refine stF rfl rfl (fun hg => have hg' := BP.t hg; OK1.mv (.t rfl)) rfl ?_
 refine stF rfl rfl (fun hg => have hg' := BP.t hg; OK1.mv (.t rfl)) rfl ?_
 refine stF rfl rfl (fun hg => have hg' := BP.t hg; OK1.eq (.mulI (Has.g rfl hg) (Has.g rfl hg) (by first | omega | (rw [hcp]; omega)) (by first | omega | (rw [hcp]; omega))) ((show isI _ = isI ((R * C : Nat) : Int) from isI_eq hcp))) rfl ?_
 refine stF rfl rfl (fun hg => have hg' := BP.t hg; OK1.neI (Has.g rfl hg) (Has.g rfl hg)) rfl ?_
 refine st (.pickOr (.t rfl) (fun h => Has.g rfl (ng h))) rfl (nl (.thn (k3 _ _ (.cv (Cv.wk (.l [3, 4, 8, 32] rfl)) (.cond (.t rfl) (fun hc1 => ?_) (fun hc1 => ?_))))))
 ·have hc1 := BP.t hc1
  exfalso; simp at hc1; omega
 ·have hc1 := BP.f hc1
  refine .skip (.thn (k2 _ _ (.seq fun _ k4 => .seq fun _ k5 => .region (st (.as (.cI 0 rfl)) rfl (nl (.thn (k5 _ _ (.block (.loopF [3, 4] (fun (z : { i : Nat // i ≤ R * C }) => match z with | ⟨i, hi⟩ => [(9, isI (i : Int))]) (fun M => fun (z : { i : Nat // i ≤ R * C }) => match z with | ⟨i, hi⟩ => M) (fun (z : { i : Nat // i ≤ R * C }) => match z with | ⟨i, hi⟩ => R * C - i) (⟨0, Nat.zero_le _⟩) (Cv.mem (.c 9 rfl ?_ (.l [3, 4] rfl)) ?_) ?_)))))))))
  ·rfl
  ·rfl
  rintro ⟨i, hi⟩ K6 hK6
  refine .cv (Cv.wk (.l [9, 3, 4] rfl)) (.seq fun _ k7 => .seq fun _ k8 => .region (st (.mv (.t rfl)) rfl (st (.mv (.t rfl)) rfl (st (.len sl22 (.t rfl)) rfl (st (.ltI (.t rfl) (.t rfl)) rfl (nl (.thn (k8 _ _ (.cond (.t rfl) (fun hc2 => ?_) (fun hc2 => ?_))))))))))
  ·have hc2 := BP.t hc2
   have hbi := hx i
   have hyi := hy.raw i
   refine .skip (.thn (k7 _ _ (.seq fun _ k9 => .block (.seq fun _ k10 => .dr (.s [] rfl rfl rfl (.o rfl (.fieldAddr (.t rfl) fld24_2 ty22)) (.s [39] rfl rfl rfl (.o rfl (.load1 (.t rfl) (i := 0) rfl ty22 rfl)) (.s [] rfl rfl rfl (.o rfl (.mv (.t rfl))) (.s [40, 41] rfl rfl rfl (.o rfl (.ixK sl22 ty31 (.t rfl) (.t rfl) zc_len ⟨by omega, by omega⟩ (getZ (i := i) (by omega)))) (.s [42] rfl rfl rfl (.o rfl (.loadP (.t rfl) ty31 rfl (Ss' := [_, _]) rfl)) (.s [] rfl rfl rfl (.o rfl (.mv (.t rfl))) (.s [] rfl rfl rfl (.o rfl (.mv (.t rfl))) (.s [44, 45] rfl rfl rfl (.o rfl (.ixK sl22 ty31 (.t rfl) (.t rfl) zc_len ⟨by omega, by omega⟩ (getD_some (d := (false, [])) (by first | omega | (simp only [Int.toNat_natCast, List.length_set]; omega))))) ?_))))))))))))
   refine .s [46] rfl rfl rfl (.o rfl (.loadP (.t rfl) ty31 rfl (Ss' := [_, _]) rfl)) (.fin (n := 9) mixed (by kernel_rfl) (by kernel_rfl) (by kernel_rfl) (.cv (Cv.wk (.l [3, 4, 9, 33, 34, 35, 36, 39, 40, 41, 42, 43, 44, 45, 46, 47] rfl)) ?_))
   refine st (.eq (.call (zint_Same (by rw [val_words]; omega) (by show (List.length (words (val (ys.getD i (false, [])).2))) < _; omega)) (.cons (.t rfl) (.cons (.t rfl) .nil))) ((show isB _ = isB true from isB_eq (decide_eq_true (by rw [zv_nz, he i (by omega), cf_vals]; rfl))))) rfl ?_
   refine st (.not (.t rfl)) rfl (nl (.thn (k10 _ _ (.cond (.t rfl) (fun hc3 => ?_) (fun hc3 => ?_)))))
   ·have hc3 := BP.t hc3
    exfalso; simp at hc3
   ·have hc3 := BP.f hc3
    refine .skip (.bln (.thn (k9 _ _ (.region (st (.mv (.t rfl)) rfl (st (.addI (.t rfl) (.cI 1 rfl) (by first | omega | assumption) (by first | omega | assumption)) rfl (st (.as (.t rfl)) rfl (nl (.thn (hK6 (⟨i + 1, by omega⟩) _ _ ?_ (Cv.mem (.c 9 rfl ?_ (.l [3, 4] rfl)) ?_)))))))))))
    ·show R * C - (i + 1) < R * C - i; omega
    ·exact isI_eq (by omega)
    ·rfl
  ·have hc2 := BP.f hc2
   refine .exit (.the (.the (.blh (.thn (k4 _ _ (.cv (Cv.wk .nil) (.seq fun _ k11 => .region (st (.as (.cB true)) rfl (nl (.thn (k11 _ _ (.ret (rt1 (.inl rfl) Tryz.results46 rfl (.tmp (Has.t' rfl ?_) .nil))))))))))))))
   all_goals (rfl)
theorem ref11_Mul {R C D K N : Nat} {xs ys : List (Bool × List Nat)} (hx : Bd (vals xs) K) (hy : Bd (vals ys) N) (hK : K + N ≤ 400000000) (hR : R ≤ 64) (hC : C ≤ 64) (hD : D ≤ 64) (hxl : xs.length = R * C) (hyl : ys.length = C * D) : Ctr Tryz.prog 53 [isM (R : Int) (C : Int) xs, isM (C : Int) (D : Int) ys] (isP (tab (R * D) D fun i k => dotS (fun j => cf (vals xs) (i * C + j)) (fun j => cf (vals ys) (j * D + k)) C)) := by
 refine Ctr.intro Tryz.func53 rfl (by kernel_rfl) Tryz.ntmps53 rfl fun w0 F0 => .cv (Cv.wk (.l [0, 1] rfl)) ?_
 have h1 := side_le hR hC
 have h2 := side_le hC hD
 have h3 := side_le hR hD
 obtain ⟨G, hG⟩ : ∃ G : Nat → Nat → Int, G = fun i k => dotS (fun j => cf (vals xs) (i * C + j)) (fun j => cf (vals ys) (j * D + k)) C := ⟨_, rfl⟩
 rw [← hG]
 refine .seq fun _ k1 => .region (.box (.t rfl) rfl fun b1 => .box (.t rfl) rfl fun b2 => st (.as (.cWK (k := 2) (fk := zc))) rfl (nl (.thn (k1 _ _ (.seq fun _ k2 => .region (.cv (Cv.grow0K (α := Bool × List Nat) zc) (st (.as (Has.cGr (α := Bool × List Nat))) rfl (nl (.thn (k2 _ _ (.seq fun _ k3 => .seq fun _ k4 => .region (st (.as (.cI 0 rfl)) rfl (nl (.thn (k4 _ _ (.block (.loopF [2, 3, 4] (fun (z : { z : Nat × Gr (Bool × List Nat) // z.1 ≤ R }) => match z with | ⟨(i, g), hI⟩ => [(6, isI (i : Int)), (5, isGr g ((tab (i * D + 0) D G).map nz).length)]) (fun M => fun (z : { z : Nat × Gr (Bool × List Nat) // z.1 ≤ R }) => match z with | ⟨(i, g), hI⟩ => [grMK zc g ((tab (i * D + 0) D G).map nz), (some b2, cellM [isI (C : Int), isI (D : Int), SlK 2 zc ys]), (some b1, cellM [isI (R : Int), isI (C : Int), SlK 2 zc xs])]) (fun (z : { z : Nat × Gr (Bool × List Nat) // z.1 ≤ R }) => match z with | ⟨(i, g), hI⟩ => R - i) (⟨(0, Gr.nil), Nat.zero_le _⟩) (Cv.mem (.c 6 rfl ?_ (.c 5 rfl ?_ (.l [2, 3, 4] rfl))) ?_) ?_)))))))))))))))))
 ·rfl
 ·exact isGr_eq (by rw [List.length_map, tab_len, Nat.zero_mul])
 ·exact grMK_eq (show [] = (tab (0 * D + 0) D G).map nz by rw [Nat.zero_mul]; rfl)
 rintro ⟨⟨i, g⟩, hI⟩ K5 hK5
 refine .cv (Cv.wk (.l [6, 5, 2, 3, 4] rfl)) (.memEq (M' := [grMK zc g ((tab (i * D + 0) D G).map nz), (some b2, cellM [isI (C : Int), isI (D : Int), SlK 2 zc ys]), (some b1, cellM [isI (R : Int), isI (C : Int), SlK 2 zc xs])]) rfl ?_)
 simp only [] at hI
 refine .seq fun _ k6 => .seq fun _ k7 => .region (st (.mv (.t rfl)) rfl (st (.fieldAddr (.t rfl) fld24_0 ty3) rfl (st (.load1 (.t rfl) (i := 2) rfl ty3 rfl) rfl (st (.ltI (.t rfl) (.t rfl)) rfl (nl (.thn (k7 _ _ (.cond (.t rfl) (fun hc1 => ?_) (fun hc1 => ?_)))))))))
 ·have hc1 := BP.t hc1
  refine .skip (.thn (k6 _ _ (.seq fun _ k8 => .block (.seq fun _ k9 => .region (st (.as (.cI 0 rfl)) rfl (nl (.thn (k9 _ _ (.block (.loopF [2, 3, 4, 6, 10, 11, 12, 13] (fun (z : { z : Nat × Gr (Bool × List Nat) // z.1 ≤ D }) => match z with | ⟨(k, g2), hK2⟩ => [(7, isI (k : Int)), (5, isGr g2 ((tab (i * D + k) D G).map nz).length)]) (fun M => fun (z : { z : Nat × Gr (Bool × List Nat) // z.1 ≤ D }) => match z with | ⟨(k, g2), hK2⟩ => [grMK zc g2 ((tab (i * D + k) D G).map nz), (some b2, cellM [isI (C : Int), isI (D : Int), SlK 2 zc ys]), (some b1, cellM [isI (R : Int), isI (C : Int), SlK 2 zc xs])]) (fun (z : { z : Nat × Gr (Bool × List Nat) // z.1 ≤ D }) => match z with | ⟨(k, g2), hK2⟩ => D - k) (⟨(0, g), Nat.zero_le _⟩) (Cv.mem (.c 7 rfl ?_ (.c 5 rfl ?_ (.l [2, 3, 4, 6, 10, 11, 12, 13] rfl))) ?_) ?_))))))))))
  ·rfl
  ·rfl
  ·rfl
  rintro ⟨⟨k, g2⟩, hK2⟩ K10 hK10
  refine .cv (Cv.wk (.l [7, 5, 2, 3, 4, 6, 10, 11, 12, 13] rfl)) (.memEq (M' := [grMK zc g2 ((tab (i * D + k) D G).map nz), (some b2, cellM [isI (C : Int), isI (D : Int), SlK 2 zc ys]), (some b1, cellM [isI (R : Int), isI (C : Int), SlK 2 zc xs])]) rfl ?_)
  simp only [] at hK2
  refine .seq fun _ k11 => .seq fun _ k12 => .region (st (.mv (.t rfl)) rfl (st (.fieldAddr (.t rfl) fld24_1 ty3) rfl (st (.load1 (.t rfl) (i := 1) rfl ty3 rfl) rfl (st (.ltI (.t rfl) (.t rfl)) rfl (nl (.thn (k12 _ _ (.cond (.t rfl) (fun hc2 => ?_) (fun hc2 => ?_)))))))))
  ·have hc2 := BP.t hc2
   refine .skip (.thn (k11 _ _ (.seq fun _ k13 => .block (.seq fun _ k14 => .region (st (.call (zint_Of) (.cons (.cI 0 rfl) .nil)) rfl (.alloc [isB false, SlM isU []] zero31 (fun _ _ => ⟨rfl, nilM _ _, trivial⟩) rfl fun b3 => .store (.t rfl) (.t rfl) (i := 0) rfl ty31 rfl rfl (Ss' := [_, _]) rfl (M' := [(some _, cellM [_, _]), _, _, _]) rfl (nl (.thn (k14 _ _ (.seq fun _ k15 => .seq fun _ k16 => .region (st (.as (.cI 0 rfl)) rfl (nl (.thn (k16 _ _ (.block (.loopF [2, 3, 4, 6, 10, 11, 12, 13, 7, 5, 16, 17, 18, 19, 22, 8] (fun (z : { j : Nat // j ≤ C }) => match z with | ⟨j, hj⟩ => [(9, isI (j : Int))]) (fun M => fun (z : { j : Nat // j ≤ C }) => match z with | ⟨j, hj⟩ => [zM b3 (dotS (fun j => cf (vals xs) (i * C + j)) (fun j => cf (vals ys) (j * D + k)) j), grMK zc g2 ((tab (i * D + k) D G).map nz), (some b2, cellM [isI (C : Int), isI (D : Int), SlK 2 zc ys]), (some b1, cellM [isI (R : Int), isI (C : Int), SlK 2 zc xs])]) (fun (z : { j : Nat // j ≤ C }) => match z with | ⟨j, hj⟩ => C - j) (⟨0, Nat.zero_le _⟩) (Cv.mem (.c 9 rfl ?_ (.l [2, 3, 4, 6, 10, 11, 12, 13, 7, 5, 16, 17, 18, 19, 22, 8] rfl)) ?_) ?_))))))))))))))))
   ·rfl
   ·rfl
   rintro ⟨j, hj⟩ K17 hK17
   refine .cv (Cv.wk (.l [9, 2, 3, 4, 6, 10, 11, 12, 13, 7, 5, 16, 17, 18, 19, 22, 8] rfl)) (.memEq (M' := [zM b3 (dotS (fun j => cf (vals xs) (i * C + j)) (fun j => cf (vals ys) (j * D + k)) j), grMK zc g2 ((tab (i * D + k) D G).map nz), (some b2, cellM [isI (C : Int), isI (D : Int), SlK 2 zc ys]), (some b1, cellM [isI (R : Int), isI (C : Int), SlK 2 zc xs])]) rfl ?_)
   have hds := dotS_nw (f := fun j => cf (vals xs) (i * C + j)) (g := fun j => cf (vals ys) (j * D + k)) (K := K) (L := N) (fun j => hx _) (fun j => hy _) j
   obtain ⟨s, hs⟩ : ∃ s, s = dotS (fun j => cf (vals xs) (i * C + j)) (fun j => cf (vals ys) (j * D + k)) j := ⟨_, rfl⟩
   rw [← hs] at hds
   refine .seq fun _ k18 => .seq fun _ k19 => .region (st (.mv (.t rfl)) rfl (st (.fieldAddr (.t rfl) fld24_1 ty3) rfl (st (.load1 (.t rfl) (i := 3) rfl ty3 rfl) rfl (st (.ltI (.t rfl) (.t rfl)) rfl (nl (.thn (k19 _ _ (.cond (.t rfl) (fun hc3 => ?_) (fun hc3 => ?_)))))))))
   ·have hc3 := BP.t hc3
    have hj2 : j < C := (by omega)
    have hp1 := place_lt (show i < R by omega) hj2
    have hp2 := place_lt hj2 (show k < D by omega)
    have hxr := hx.raw (i * C + j)
    have hyr := hy.raw (j * D + k)
    have hfk := hx (i * C + j)
    have hgk := hy (j * D + k)
    have hmm := nz_mul (cf (vals xs) (i * C + j)) (cf (vals ys) (j * D + k))
    refine .skip (.thn (k18 _ _ (.seq fun _ k20 => .block (.dr (.s [] rfl rfl rfl (.o rfl (.load (.t rfl) (i := 0) rfl ty31 rfl (Ss' := [_, _]) rfl)) (.s [] rfl rfl rfl (.o rfl (.load (.t rfl) (i := 3) rfl ty24 rfl (Ss' := [_, _, _]) rfl)) (.s [] rfl rfl rfl (.o rfl (.mv (.t rfl))) (.s [] rfl rfl rfl (.o rfl (.mv (.t rfl))) (.s [30, 31, 32] rfl rfl rfl (.o rfl (.call (ref11_At (i := i) (k := j) (by omega) (by omega)) (.cons (.t rfl) (.cons (.t rfl) (.cons (.t rfl) .nil))))) (.s [] rfl rfl rfl (.o rfl (.load (.t rfl) (i := 2) rfl ty24 rfl (Ss' := [_, _, _]) rfl)) (.s [] rfl rfl rfl (.o rfl (.mv (.t rfl))) (.s [] rfl rfl rfl (.o rfl (.mv (.t rfl))) (.s [34, 35, 36] rfl rfl rfl (.o rfl (.call (ref11_At (i := j) (k := k) (by omega) (by omega)) (.cons (.t rfl) (.cons (.t rfl) (.cons (.t rfl) .nil))))) (.s [33, 37] rfl rfl rfl (.o rfl (.eq (.call (zint_Mul (by omega) (by omega)) (.cons (.t rfl) (.cons (.t rfl) .nil))) ((show isZ _ = isZ (cf (vals xs) (i * C + j) * cf (vals ys) (j * D + k)) from isZ_eq (by rw [cf_vals, cf_vals]))))) (.fin (n := 10) mixed (by kernel_rfl) (by kernel_rfl) (by kernel_rfl) (.cv (Cv.wk (.l [2, 3, 4, 6, 10, 11, 12, 13, 7, 5, 16, 17, 18, 19, 22, 8, 9, 23, 24, 25, 26, 29, 30, 31, 32, 33, 34, 35, 36, 37, 38] rfl)) (st (.eq (.call (zint_Add (by rw [val_words, ← hs]; omega) (by rw [val_words]; omega)) (.cons (.t rfl) (.cons (.t rfl) .nil))) ((show isZ _ = isZ (dotS (fun j => cf (vals xs) (i * C + j)) (fun j => cf (vals ys) (j * D + k)) (j + 1)) from isZ_eq (by simp only [zv_nf]; rfl)))) rfl ?_)))))))))))))))))
    refine .store (.t rfl) (.t rfl) (i := 0) rfl ty31 rfl rfl (Ss' := [_, _]) rfl (M' := [(some _, cellM [_, _]), _, _, _]) rfl (nl (.bln (.thn (k20 _ _ (.region (st (.mv (.t rfl)) rfl (st (.addI (.t rfl) (.cI 1 rfl) (by first | omega | assumption) (by first | omega | assumption)) rfl (st (.as (.t rfl)) rfl (nl (.thn (hK17 (⟨j + 1, by omega⟩) _ _ ?_ (Cv.mem (.c 9 rfl ?_ (.l [2, 3, 4, 6, 10, 11, 12, 13, 7, 5, 16, 17, 18, 19, 22, 8] rfl)) ?_))))))))))))
    ·show C - (j + 1) < C - j; omega
    ·exact isI_eq (by omega)
    ·rfl
   ·have hc3 := BP.f hc3
    have hjC : j = C := (by omega)
    refine .exit (.the (.the (.blh (.thn (k15 _ _ (.region (st (.mv (.t rfl)) rfl (st (.eq (.load (.t rfl) (i := 0) rfl ty31 rfl (Ss' := [_, _]) rfl) ((show _ = Flat (zc (nz (G i k))) from isZ_eq (by rw [hG, hjC])))) rfl (st (.buildS [isB false, SlM isU []] sl22 ty31 zero31 (fun _ _ => ⟨rfl, nilM _ _, trivial⟩) rfl rfl (.cons (.t rfl) rfl rfl rfl .nil) rfl (S := SlK 2 zc [nz (G i k)]) rfl) rfl (.appendGK (fk := zc) (u := (false, [])) zc_len (by decide) (fun _ => inferInstance) sl22 ty31 zero31 (fun _ _ => ⟨rfl, nilM _ _, trivial⟩) by31 (.t rfl) (i := 1) rfl (.t rfl) (by have hpl := place_lt (show i < R by omega) (show k < D by omega); rw [List.length_map, tab_len]; show i * D + k + 1 ≤ _; omega) (by simp) rfl fun gr1 => ?_))))))))))
    refine .memEq (M' := [_, grMK _ _ _, _, _]) rfl (st (.as (.t rfl)) rfl (nl (.bln (.thn (k13 _ _ (.region (st (.mv (.t rfl)) rfl (st (.addI (.t rfl) (.cI 1 rfl) (by first | omega | assumption) (by first | omega | assumption)) rfl (st (.as (.t rfl)) rfl (nl (.thn ?_)))))))))))
    refine hK10 (⟨(k + 1, gr1), by show k + 1 ≤ D; omega⟩) _ _ ?_ (Cv.trans (Cv.drop ((.cons _ (.cons_cons _ (.cons_cons _ (.cons_cons _ .slnil)))))) (Cv.mem (.c 7 rfl ?_ (.c 5 rfl ?_ (.l [2, 3, 4, 6, 10, 11, 12, 13] rfl))) ?_))
    ·show D - (k + 1) < D - k; omega
    ·exact isI_eq (by omega)
    ·exact isGr_eq (by rw [← tab_succ G (show k < D by omega), List.map_append, List.length_append]; rfl)
    ·exact grMK_eq (by rw [← tab_succ G (show k < D by omega), List.map_append]; rfl)
  ·have hc2 := BP.f hc2
   refine .exit (.the (.the (.blh (.bln (.thn (k8 _ _ (.region (st (.mv (.t rfl)) rfl (st (.addI (.t rfl) (.cI 1 rfl) (by first | omega | assumption) (by first | omega | assumption)) rfl (st (.as (.t rfl)) rfl (nl (.thn ?_))))))))))))
   have hkD : k = D := by omega
   refine hK5 (⟨(i + 1, g2), by show i + 1 ≤ R; omega⟩) _ _ ?_ (Cv.mem (.c 6 rfl ?_ (.c 5 rfl ?_ (.l [2, 3, 4] rfl))) ?_)
   ·show R - (i + 1) < R - i; omega
   ·exact isI_eq (by omega)
   ·exact isGr_eq (by rw [hkD, tab_next])
   ·exact grMK_eq (by rw [hkD, tab_next])
 ·have hc1 := BP.f hc1
  refine .exit (.the (.the (.blh (.thn (k3 _ _ (.cv (Cv.wk (.l [4, 5] rfl)) (.seq fun _ k21 => .cv (Cv.freezeGK (t := 5) (i := 0) (ys := (tab (i * D + 0) D G).map nz) zc_len rfl rfl rfl) (.memEq (M' := [_, _]) rfl (.cv (Cv.wk (.l [4, 5] rfl)) (.region (st (.mv (.t rfl)) rfl (st (.as (.t rfl)) rfl (nl (.thn (k21 _ _ (.ret (rt1 (.inl rfl) Tryz.results53 rfl (.tmp (Has.t' rfl ?_) .nil))))))))))))))))))
  all_goals (exact isPl_eq (by rw [Nat.add_zero, show i = R by omega]))
theorem gram_must {r c : Int} {l : List Int} : Ctr Tryz.prog 123 [isM r c (l.map nz), isI 0] (isM r c (l.map nz)) := by
 refine Ctr.intro Tryz.func123 rfl (by kernel_rfl) Tryz.ntmps123 rfl fun w0 F0 => .cv (Cv.wk (.l [0, 1] rfl)) (.fact (Has.rngI (Has.t (t := 1) rfl)) fun lt1 => .seq fun _ k1 => .region (.box (.t rfl) rfl fun b1 => .alloc [isI 0, isI 0, nilS] zero24 (fun _ _ => ⟨⟨rfl, by decide, by decide⟩, ⟨rfl, by decide, by decide⟩, rfl, trivial⟩) rfl fun b2 => nl (.thn (k1 _ _ (.seq fun _ k2 => .region (st (.load (.t rfl) (i := 1) rfl ty24 rfl (Ss' := [_, _, _]) rfl) rfl (.store (.t rfl) (.t rfl) (i := 0) rfl ty24 rfl rfl (Ss' := [_, _, _]) rfl (M' := [(some _, cellM [_, _, _]), _]) rfl (nl (.thn (k2 _ _ (.ret (rt1 (.inl rfl) Tryz.results123 rfl (.cell rfl (i := 0) rfl ty24 rfl ?_ .nil)))))))))))))
 all_goals (rfl)
theorem zmat_Transpose_bad {r c : Int} {xs : List (Bool × List Nat)} (hf : formB r c xs.length = false) : Ctr Tryz.prog 121 [isM r c xs] (isTup [isM0, isI 2]) := by
 refine Ctr.intro Tryz.func121 rfl (by kernel_rfl) Tryz.ntmps121 rfl fun w0 F0 => .cv (Cv.wk (.l [0] rfl)) (.seq fun _ k1 => .region (.box (.t rfl) rfl fun b1 => .alloc [isI 0, isI 0, SlK 2 zc ([] : List (Bool × List Nat))] zero24 (fun _ _ => ⟨⟨rfl, by decide, by decide⟩, ⟨rfl, by decide, by decide⟩, nilK, trivial⟩) rfl fun b2 => st (.as (.cI 0 rfl)) rfl (nl (.thn (k1 _ _ (.seq fun _ k2 => .seq fun _ k3 => .region (st (.load (.t rfl) (i := 1) rfl ty24 rfl (Ss' := [_, _, _]) rfl) rfl (st (.eq (.call (zmat_Formed) (.cons (.t rfl) .nil)) ((show isB _ = isB false from isB_eq (hf)))) rfl (st (.not (.t rfl)) rfl (nl (.thn (k3 _ _ (.cond (.t rfl) (fun hc1 => ?_) (fun hc1 => ?_))))))))))))))
 ·have hc1 := BP.t hc1
  refine .seq fun _ k4 => .region (st (.build [isI 0, isI 0, SlK 2 zc ([] : List (Bool × List Nat))] pl24 zero24 (fun _ _ => ⟨⟨rfl, by decide, by decide⟩, ⟨rfl, by decide, by decide⟩, nilK, trivial⟩) .nil (Z'' := [_, _, _]) rfl) rfl (.store (.t rfl) (.t rfl) (i := 0) rfl ty24 rfl rfl (Ss' := [_, _, _]) rfl (M' := [(some _, cellM [_, _, _]), _]) rfl (st (.as (.cI 2 rfl)) rfl (nl (.thn (k4 _ _ (.cv (Cv.wk (.l [1, 2, 3] rfl)) (.ret (.thr (rtN (.inl rfl) Tryz.results121 rfl rfl (.cell rfl (i := 0) rfl ty24 rfl ?_ (.tmp (Has.t' rfl ?_) .nil))))))))))))
  ·rfl
  ·rfl
 ·have hc1 := BP.f hc1
  exfalso; simp at hc1
theorem gram_Of_bad {r c : Int} {xs : List (Bool × List Nat)} (hf : formB r c xs.length = false) : Ctr Tryz.prog 45 [isM r c xs] (isTup [isM0, isI 2]) := by
 refine Ctr.intro Tryz.func45 rfl (by kernel_rfl) Tryz.ntmps45 rfl fun w0 F0 => .cv (Cv.wk (.l [0] rfl)) (.seq fun _ k1 => .region (.box (.t rfl) rfl fun b1 => .alloc [isI 0, isI 0, SlK 2 zc ([] : List (Bool × List Nat))] zero24 (fun _ _ => ⟨⟨rfl, by decide, by decide⟩, ⟨rfl, by decide, by decide⟩, nilK, trivial⟩) rfl fun b2 => st (.as (.cI 0 rfl)) rfl (nl (.thn (k1 _ _ (.seq fun _ k2 => .region (st (.load (.t rfl) (i := 1) rfl ty24 rfl (Ss' := [_, _, _]) rfl) rfl (st (.call (zmat_Transpose_bad hf) (.cons (.t rfl) .nil)) rfl (st (.mv (.t rfl)) rfl (st (.ext (.t rfl) rfl) rfl (st (.ext (.t rfl) rfl) rfl (.alloc [isI 0, isI 0, SlK 2 zc ([] : List (Bool × List Nat))] zero24 (fun _ _ => ⟨⟨rfl, by decide, by decide⟩, ⟨rfl, by decide, by decide⟩, nilK, trivial⟩) rfl fun b3 => .store (.t rfl) (.t rfl) (i := 0) rfl ty24 rfl rfl (Ss' := [_, _, _]) rfl (M' := [(some _, cellM [_, _, _]), _, _]) rfl (st (.as (.t rfl)) rfl (nl (.thn (k2 _ _ (.cv (Cv.wk (.l [1, 2, 3, 4, 5] rfl)) (.seq fun _ k3 => .seq fun _ k4 => .region (st (.mv (.t rfl)) rfl (st (.neI (.t rfl) (.cI 0 rfl)) rfl (nl (.thn (k4 _ _ (.cond (.t rfl) (fun hc1 => ?_) (fun hc1 => ?_)))))))))))))))))))))))))
 ·have hc1 := BP.t hc1
  skip
  refine .seq fun _ k5 => .region (st (.build [isI 0, isI 0, SlK 2 zc ([] : List (Bool × List Nat))] pl24 zero24 (fun _ _ => ⟨⟨rfl, by decide, by decide⟩, ⟨rfl, by decide, by decide⟩, nilK, trivial⟩) .nil (Z'' := [_, _, _]) rfl) rfl (st (.mv (.t rfl)) rfl (.store (.t rfl) (.t rfl) (i := 1) rfl ty24 rfl rfl (Ss' := [_, _, _]) rfl (M' := [_, (some _, cellM [_, _, _]), _]) rfl (st (.as (.t rfl)) rfl (nl (.thn (k5 _ _ (.cv (Cv.wk (.l [1, 2, 3, 4] rfl)) (.ret (.thr (rtN (.inl rfl) Tryz.results45 rfl rfl (.cell rfl (i := 1) rfl ty24 rfl ?_ (.tmp (Has.t' rfl ?_) .nil)))))))))))))
  ·rfl
  ·rfl
 ·have hc1 := BP.f hc1
  exfalso; omega
theorem gram_Of {R C K : Nat} {xs : List (Bool × List Nat)} (hx : Bd (vals xs) K) (hK : K ≤ 100000000) (hR : R ≤ 64) (hC : C ≤ 64) (hl : xs.length = R * C) : Ctr Tryz.prog 45 [isM (R : Int) (C : Int) xs] (isTup [isMz R R (gmL R C (vals xs)), isI 0]) := by
 refine Ctr.intro Tryz.func45 rfl (by kernel_rfl) Tryz.ntmps45 rfl fun w0 F0 => .cv (Cv.wk (.l [0] rfl)) ?_
 have hTb : Bd (tab (C * R) R fun i k => cf (vals xs) (k * C + i)) K := Bd_tab fun i k => hx _
 refine .seq fun _ k1 => .region (.box (.t rfl) rfl fun b1 => .alloc [isI 0, isI 0, nilS] zero24 (fun _ _ => ⟨⟨rfl, by decide, by decide⟩, ⟨rfl, by decide, by decide⟩, rfl, trivial⟩) rfl fun b2 => st (.as (.cI 0 rfl)) rfl (nl (.thn (k1 _ _ (.seq fun _ k2 => .region (st (.load (.t rfl) (i := 1) rfl ty24 rfl (Ss' := [_, _, _]) rfl) rfl (st (.call (zmat_Transpose hx (by omega) hR hC hl) (.cons (.t rfl) .nil)) rfl (st (.mv (.t rfl)) rfl (st (.ext (.t rfl) rfl) rfl (st (.ext (.t rfl) rfl) rfl (.alloc [isI 0, isI 0, nilS] zero24 (fun _ _ => ⟨⟨rfl, by decide, by decide⟩, ⟨rfl, by decide, by decide⟩, rfl, trivial⟩) rfl fun b3 => .store (.t rfl) (.t rfl) (i := 0) rfl ty24 rfl rfl (Ss' := [_, _, _]) rfl (M' := [(some _, cellM [_, _, _]), _, _]) rfl (st (.as (.t rfl)) rfl (nl (.thn (k2 _ _ (.cv (Cv.wk (.l [1, 2, 3, 4, 5] rfl)) (.seq fun _ k3 => .seq fun _ k4 => .region (st (.mv (.t rfl)) rfl (st (.neI (.t rfl) (.cI 0 rfl)) rfl (nl (.thn (k4 _ _ (.cond (.t rfl) (fun hc1 => ?_) (fun hc1 => ?_))))))))))))))))))))))))
 ·have hc1 := BP.t hc1
  exfalso; omega
 ·have hc1 := BP.f hc1
  skip
  refine .skip (.thn (k3 _ _ (.seq fun _ k5 => .region (st (.load (.t rfl) (i := 2) rfl ty24 rfl (Ss' := [_, _, _]) rfl) rfl (st (.load (.t rfl) (i := 0) rfl ty24 rfl (Ss' := [_, _, _]) rfl) rfl (st (.eq (.call (zmat_Mul (R := R) (C := C) (D := R) (K := K) (L := K) hx (by rw [vals_nz]; exact hTb) (by omega) hR hC hR hl (by rw [List.length_map, tab_len])) (.cons (.t rfl) (.cons (.t rfl) .nil))) ((show _ = isTup [isMz R R (gmL R C (vals xs)), isI 0] from by rw [vals_nz, gm_mul (gm_tab (vals xs))]))) rfl ?_))))))
  refine st (.ext (.t rfl) rfl) rfl (st (.ext (.t rfl) rfl) rfl (.store (.t rfl) (.t rfl) (i := 1) rfl ty24 rfl rfl (Ss' := [_, _, _]) rfl (M' := [_, (some _, cellM [_, _, _]), _]) rfl (st (.as (.t rfl)) rfl (nl (.thn (k5 _ _ (.cv (Cv.wk (.l [2, 3] rfl)) (.ret (rtN (.inl rfl) Tryz.results45 rfl rfl (.cell rfl (i := 1) rfl ty24 rfl ?_ (.tmp (Has.t' rfl ?_) .nil)))))))))))
  ·rfl
  ·rfl
theorem gram_Square {K : Nat} {vs : List (Bool × List Nat)} (hv : Bd (vals vs) K) (hK : K ≤ 100000000) (hl : vs.length ≤ 4096) : Ctr Tryz.prog 48 [SlK 2 zc vs] (isZ (sqS (vals vs) vs.length)) := by
 refine Ctr.intro Tryz.func48 rfl (by kernel_rfl) Tryz.ntmps48 rfl fun w0 F0 => .cv (Cv.wk (.l [0] rfl)) (.fact (Has.lenLt (Has.t (t := 0) rfl)) fun lt0 => .seq fun _ k1 => .region (.alloc [isB false, SlM isU []] zero31 (fun _ _ => ⟨rfl, nilM _ _, trivial⟩) rfl fun b1 => nl (.thn (k1 _ _ (.seq fun _ k2 => .region (.alloc [isB false, SlM isU []] zero31 (fun _ _ => ⟨rfl, nilM _ _, trivial⟩) rfl fun b2 => nl (.thn (k2 _ _ (.seq fun _ k3 => .seq fun _ k4 => .region (st (.mv (.t rfl)) rfl (st (.len sl22 (.t rfl)) rfl (st (.mv (.cI 0 rfl)) rfl (nl (.thn (k4 _ _ (.block (.loopF [2, 3, 6, 7] (fun (z : { n : Nat // n ≤ vs.length }) => match z with | ⟨n, hn⟩ => [(8, isI (n : Int))]) (fun M => fun (z : { n : Nat // n ≤ vs.length }) => match z with | ⟨n, hn⟩ => [zM b2 (sqS (vals vs) n), (some b1, cellM [isB false, SlM isU []])]) (fun (z : { n : Nat // n ≤ vs.length }) => match z with | ⟨n, hn⟩ => vs.length - n) (⟨0, Nat.zero_le _⟩) (Cv.mem (.c 8 rfl ?_ (.l [2, 3, 6, 7] rfl)) ?_) ?_)))))))))))))))))
 ·rfl
 ·exact zM0
 rintro ⟨n, hn⟩ K5 hK5
 refine .cv (Cv.wk (.l [8, 2, 3, 6, 7] rfl)) (.memEq (M' := [zM b2 (sqS (vals vs) n), (some b1, cellM [isB false, SlM isU []])]) rfl ?_)
 have hds : (List.length (words (sqS (vals vs) n).natAbs)) ≤ K + K + n := dotS_nw (fun _ => hv _) (fun _ => hv _) n
 have hvr := hv.raw n
 have hvn := hv n
 have hmm := nz_mul (cf (vals vs) n) (cf (vals vs) n)
 refine .seq fun _ k6 => .region (st (.ltI (.t rfl) (.t rfl)) rfl (nl (.thn (k6 _ _ (.seq fun _ k7 => .cond (.t rfl) (fun hc1 => ?_) (fun hc1 => ?_))))))
 ·have hc1 := BP.t hc1
  refine .skip (.thn (k7 _ _ (.seq fun _ k8 => .block (.seq fun _ k9 => .region (st (.ixK sl22 ty31 (.t rfl) (.t rfl) zc_len ⟨by omega, by omega⟩ (getD_some (d := (false, [])) (i := n) (by omega))) rfl (st (.loadP (.t rfl) ty31 rfl (Ss' := [_, _]) rfl) rfl (.alloc [isB false, SlM isU []] zero31 (fun _ _ => ⟨rfl, nilM _ _, trivial⟩) rfl fun b3 => .store (.t rfl) (.t rfl) (i := 0) rfl ty31 rfl rfl (Ss' := [_, _]) rfl (M' := [(some _, cellM [_, _]), _, _]) rfl (nl (.thn (k9 _ _ (.dr (.s [] rfl rfl rfl (.o rfl (.load (.t rfl) (i := 1) rfl ty31 rfl (Ss' := [_, _]) rfl)) (.s [] rfl rfl rfl (.o rfl (.load (.t rfl) (i := 0) rfl ty31 rfl (Ss' := [_, _]) rfl)) (.s [] rfl rfl rfl (.o rfl (.load (.t rfl) (i := 0) rfl ty31 rfl (Ss' := [_, _]) rfl)) (.s [13, 14] rfl rfl rfl (.o rfl (.eq (.call (zint_Mul (by omega) (by omega)) (.cons (.t rfl) (.cons (.t rfl) .nil))) ((show isZ _ = isZ (cf (vals vs) n * cf (vals vs) n) from isZ_eq (by rw [cf_vals]))))) (.fin (n := 4) mixed (by kernel_rfl) (by kernel_rfl) (by kernel_rfl) (.cv (Cv.wk (.l [2, 3, 6, 7, 8, 9, 10, 11, 5, 12, 13, 14, 15] rfl)) (st (.eq (.call (zint_Add (by rw [val_words]; omega) (by rw [val_words]; omega)) (.cons (.t rfl) (.cons (.t rfl) .nil))) ((show isZ _ = isZ (sqS (vals vs) (n + 1)) from isZ_eq (by simp only [zv_nf]; rfl)))) rfl ?_))))))))))))))))))
  refine .store (.t rfl) (.t rfl) (i := 1) rfl ty31 rfl rfl (Ss' := [_, _]) rfl (M' := [_, (some _, cellM [_, _]), _]) rfl (nl (.bln (.thn (k8 _ _ (.region (st (.addI (.t rfl) (.cI 1 rfl) (by first | omega | assumption) (by first | omega | assumption)) rfl (st (.mv (.t rfl)) rfl (nl (.thn (hK5 (⟨n + 1, by omega⟩) _ _ ?_ (Cv.trans (Cv.drop ((.cons _ (.cons_cons _ (.cons_cons _ .slnil))))) (Cv.mem (.c 8 rfl ?_ (.l [2, 3, 6, 7] rfl)) ?_))))))))))))
  ·show vs.length - (n + 1) < vs.length - n; omega
  ·exact isI_eq (by omega)
  ·rfl
 ·have hc1 := BP.f hc1
  refine .exit (.the (.the (.blh (.thn (k3 _ _ (.seq fun _ k10 => .region (st (.load (.t rfl) (i := 0) rfl ty31 rfl (Ss' := [_, _]) rfl) rfl (.store (.t rfl) (.t rfl) (i := 1) rfl ty31 rfl rfl (Ss' := [_, _]) rfl (M' := [_, (some _, cellM [_, _])]) rfl (nl (.thn (k10 _ _ (.cv (Cv.wk (.l [2] rfl)) (.ret (rt1 (.inl rfl) Tryz.results48 rfl (.cell rfl (i := 1) rfl ty31 rfl ?_ .nil)))))))))))))))
  all_goals (exact isZ_eq (by rw [show vs.length = n by omega]))
theorem ref17_Turned {R C : Nat} {xs : List (Bool × List Nat)} (hR : R ≤ 64) (hC : C ≤ 64) (hl : xs.length = R * C) : Ctr Tryz.prog 122 [isM (R : Int) (C : Int) xs] (isM (C : Int) (R : Int) (tabR (C * R) R (trG C xs))) := by
 refine Ctr.intro Tryz.func122 rfl (by kernel_rfl) Tryz.ntmps122 rfl fun w0 F0 => .cv (Cv.wk (.l [0] rfl)) ?_
 have hRC := side_le hR hC
 have hCR := side_le hC hR
 refine .seq fun _ k1 => .region (.box (.t rfl) rfl fun b1 => .alloc [isI 0, isI 0, nilS] zero24 (fun _ _ => ⟨⟨rfl, by decide, by decide⟩, ⟨rfl, by decide, by decide⟩, rfl, trivial⟩) rfl fun b2 => nl (.thn (k1 _ _ (.seq fun _ k2 => .region (st (.fieldAddr (.t rfl) fld24_1 ty3) rfl (st (.load1 (.t rfl) (i := 1) rfl ty3 rfl) rfl (st (.fieldAddr (.t rfl) fld24_0 ty3) rfl (st (.load1 (.t rfl) (i := 1) rfl ty3 rfl) rfl (st (.build [isI 0, isI 0, nilS] pl24 zero24 (fun _ _ => ⟨⟨rfl, by decide, by decide⟩, ⟨rfl, by decide, by decide⟩, rfl, trivial⟩) (.cons (.t rfl) rfl rfl rfl (.cons (.t rfl) rfl rfl rfl .nil)) (Z'' := [_, _, _]) rfl) rfl (.alloc [isI 0, isI 0, nilS] zero24 (fun _ _ => ⟨⟨rfl, by decide, by decide⟩, ⟨rfl, by decide, by decide⟩, rfl, trivial⟩) rfl fun b3 => .store (.t rfl) (.t rfl) (i := 0) rfl ty24 rfl rfl (Ss' := [_, _, _]) rfl (M' := [(some _, cellM [_, _, _]), _, _]) rfl (nl (.thn (k2 _ _ (.cv (Cv.wk (.l [1, 2, 3] rfl)) (.seq fun _ k3 => .seq fun _ k4 => .cv (Cv.growF (Bool × List Nat) (i := 0) (o := 2) rfl rfl rfl) (.memEq (M' := [grMK zc Gr.nil [], _, _, _]) rfl (.region (st (.as (.cI 0 rfl)) rfl (nl (.thn (k4 _ _ (.block (.loopF [1, 2, 3] (fun (z : { z : Nat × Gr (Bool × List Nat) // z.1 ≤ C }) => match z with | ⟨(i, g), hI⟩ => [(4, isI (i : Int))]) (fun M => fun (z : { z : Nat × Gr (Bool × List Nat) // z.1 ≤ C }) => match z with | ⟨(i, g), hI⟩ => [grMK zc g (tabR (i * R + 0) R (trG C xs)), (some b3, cellM [isI (C : Int), isI (R : Int), isGr g (tabR (i * R + 0) R (trG C xs)).length]), (some b2, cellM [isI 0, isI 0, nilS]), (some b1, cellM [isI (R : Int), isI (C : Int), SlK 2 zc xs])]) (fun (z : { z : Nat × Gr (Bool × List Nat) // z.1 ≤ C }) => match z with | ⟨(i, g), hI⟩ => C - i) (⟨(0, Gr.nil), Nat.zero_le _⟩) (Cv.mem (.c 4 rfl ?_ (.l [1, 2, 3] rfl)) ?_) ?_)))))))))))))))))))))))
 ·rfl
 ·exact grR_eq (n := 0) (ys := []) (by rw [tabR_len, Nat.zero_mul]) (show [] = tabR (0 * R + 0) R (trG C xs) by rw [Nat.zero_mul]; rfl)
 rintro ⟨⟨i, g⟩, hI⟩ K5 hK5
 refine .cv (Cv.wk (.l [4, 1, 2, 3] rfl)) (.memEq (M' := [grMK zc g (tabR (i * R + 0) R (trG C xs)), (some b3, cellM [isI (C : Int), isI (R : Int), isGr g (tabR (i * R + 0) R (trG C xs)).length]), (some b2, cellM [isI 0, isI 0, nilS]), (some b1, cellM [isI (R : Int), isI (C : Int), SlK 2 zc xs])]) rfl ?_)
 simp only [] at hI
 refine .seq fun _ k6 => .seq fun _ k7 => .region (st (.mv (.t rfl)) rfl (st (.fieldAddr (.t rfl) fld24_1 ty3) rfl (st (.load1 (.t rfl) (i := 3) rfl ty3 rfl) rfl (st (.ltI (.t rfl) (.t rfl)) rfl (nl (.thn (k7 _ _ (.cond (.t rfl) (fun hc1 => ?_) (fun hc1 => ?_)))))))))
 ·have hc1 := BP.t hc1
  refine .skip (.thn (k6 _ _ (.seq fun _ k8 => .block (.seq fun _ k9 => .region (st (.as (.cI 0 rfl)) rfl (nl (.thn (k9 _ _ (.block (.loopF [1, 2, 3, 4, 11, 12, 13, 14] (fun (z : { z : Nat × Gr (Bool × List Nat) // z.1 ≤ R }) => match z with | ⟨(k, g2), hK2⟩ => [(5, isI (k : Int))]) (fun M => fun (z : { z : Nat × Gr (Bool × List Nat) // z.1 ≤ R }) => match z with | ⟨(k, g2), hK2⟩ => [grMK zc g2 (tabR (i * R + k) R (trG C xs)), (some b3, cellM [isI (C : Int), isI (R : Int), isGr g2 (tabR (i * R + k) R (trG C xs)).length]), (some b2, cellM [isI 0, isI 0, nilS]), (some b1, cellM [isI (R : Int), isI (C : Int), SlK 2 zc xs])]) (fun (z : { z : Nat × Gr (Bool × List Nat) // z.1 ≤ R }) => match z with | ⟨(k, g2), hK2⟩ => R - k) (⟨(0, g), Nat.zero_le _⟩) (Cv.mem (.c 5 rfl ?_ (.l [1, 2, 3, 4, 11, 12, 13, 14] rfl)) ?_) ?_))))))))))
  ·rfl
  ·rfl
  rintro ⟨⟨k, g2⟩, hK2⟩ K10 hK10
  refine .cv (Cv.wk (.l [5, 1, 2, 3, 4, 11, 12, 13, 14] rfl)) (.memEq (M' := [grMK zc g2 (tabR (i * R + k) R (trG C xs)), (some b3, cellM [isI (C : Int), isI (R : Int), isGr g2 (tabR (i * R + k) R (trG C xs)).length]), (some b2, cellM [isI 0, isI 0, nilS]), (some b1, cellM [isI (R : Int), isI (C : Int), SlK 2 zc xs])]) rfl ?_)
  simp only [] at hK2
  refine .seq fun _ k11 => .seq fun _ k12 => .region (st (.mv (.t rfl)) rfl (st (.fieldAddr (.t rfl) fld24_0 ty3) rfl (st (.load1 (.t rfl) (i := 3) rfl ty3 rfl) rfl (st (.ltI (.t rfl) (.t rfl)) rfl (nl (.thn (k12 _ _ (.cond (.t rfl) (fun hc2 => ?_) (fun hc2 => ?_)))))))))
  ·have hc2 := BP.t hc2
   have hpl := place_lt (show k < R by omega) (show i < C by omega)
   have hpq := place_lt (show i < C by omega) (show k < R by omega)
   refine .skip (.thn (k11 _ _ (.seq fun _ k13 => .block (.dr (.s [] rfl rfl rfl (.o rfl (.fieldAddr (.t rfl) fld24_2 ty22)) (.s [23] rfl rfl rfl (.o rfl (.load1 (.t rfl) (i := 1) rfl ty22 rfl)) (.s [] rfl rfl rfl (.o rfl (.load (.t rfl) (i := 3) rfl ty24 rfl (Ss' := [_, _, _]) rfl)) (.s [] rfl rfl rfl (.o rfl (.mv (.t rfl))) (.s [] rfl rfl rfl (.o rfl (.mv (.t rfl))) (.s [25, 26, 27] rfl rfl rfl (.o rfl (.call (ref11_At (i := k) (k := i) (by omega) (by omega)) (.cons (.t rfl) (.cons (.t rfl) (.cons (.t rfl) .nil))))) (.s [28] rfl rfl rfl (.o rfl (.buildS [isB false, SlM isU []] sl22 ty31 zero31 (fun _ _ => ⟨rfl, nilM _ _, trivial⟩) rfl rfl (.cons (.t rfl) rfl rfl rfl .nil) rfl (S := SlK 2 zc [xs.getD (k * C + i) (false, [])]) rfl)) (.fin (n := 7) mixed (by kernel_rfl) (by kernel_rfl) (by kernel_rfl) (.cv (Cv.wk (.l [1, 2, 3, 4, 11, 12, 13, 14, 5, 17, 18, 19, 20, 23, 24, 25, 26, 27, 28, 29] rfl)) (.appendGK (fk := zc) (u := (false, [])) zc_len (by decide) (fun _ => inferInstance) sl22 ty31 zero31 (fun _ _ => ⟨rfl, nilM _ _, trivial⟩) by31 (.t rfl) (i := 0) rfl (.t rfl) (by rw [tabR_len, List.length_singleton]; omega) (by simp) rfl fun gr1 => ?_))))))))))))))
   refine .memEq (M' := [grMK _ _ _, _, _, _]) rfl (st (.fieldAddr (.t rfl) fld24_2 ty22) rfl (.store (.t rfl) (.t rfl) (i := 1) rfl ty22 rfl rfl (Ss' := [_, _, _]) rfl (M' := [_, (some _, cellM [_, _, _]), _, _]) rfl (nl (.bln (.thn (k13 _ _ (.region (st (.mv (.t rfl)) rfl (st (.addI (.t rfl) (.cI 1 rfl) (by first | omega | assumption) (by first | omega | assumption)) rfl (st (.as (.t rfl)) rfl (nl (.thn ?_))))))))))))
   refine hK10 (⟨(k + 1, gr1), by show k + 1 ≤ R; omega⟩) _ _ ?_ (Cv.mem (.c 5 rfl ?_ (.l [1, 2, 3, 4, 11, 12, 13, 14] rfl)) ?_)
   ·show R - (k + 1) < R - k; omega
   ·exact isI_eq (by omega)
   ·exact grR_eq (by rw [← tabR_succ (trG C xs) (show k < R by omega), List.length_append]; rfl) (tabR_succ (trG C xs) (show k < R by omega))
  ·have hc2 := BP.f hc2
   skip
   refine .exit (.the (.the (.blh (.bln (.thn (k8 _ _ (.region (st (.mv (.t rfl)) rfl (st (.addI (.t rfl) (.cI 1 rfl) (by first | omega | assumption) (by first | omega | assumption)) rfl (st (.as (.t rfl)) rfl (nl (.thn ?_))))))))))))
   have hkR : k = R := by omega
   refine hK5 (⟨(i + 1, g2), by show i + 1 ≤ C; omega⟩) _ _ ?_ (Cv.mem (.c 4 rfl ?_ (.l [1, 2, 3] rfl)) ?_)
   ·show C - (i + 1) < C - i; omega
   ·exact isI_eq (by omega)
   ·exact grR_eq (by rw [hkR, tabR_next]) (by rw [hkR, tabR_next])
 ·have hc1 := BP.f hc1
  refine .exit (.the (.the (.blh (.thn (k3 _ _ (.cv (Cv.wk (.l [2, 3] rfl)) (.seq fun _ k14 => .cv (Cv.freezeF (k := 2) (i := 0) (j := 0) (o := 2) rfl rfl rfl rfl (gr_lenK zc_len) (gr_takeK zc_len) (Ss' := [_, _, SlK 2 zc (tabR (i * R + 0) R (trG C xs))]) rfl) (.memEq (M' := [(some _, cellM [_, _, SlK 2 zc (tabR (i * R + 0) R (trG C xs))]), _, _]) rfl (.cv (Cv.wk (.l [2, 3] rfl)) (.region (st (.load (.t rfl) (i := 0) rfl ty24 rfl (Ss' := [_, _, _]) rfl) rfl (.store (.t rfl) (.t rfl) (i := 1) rfl ty24 rfl rfl (Ss' := [_, _, _]) rfl (M' := [_, (some _, cellM [_, _, _]), _]) rfl (nl (.thn (k14 _ _ (.ret (rt1 (.inl rfl) Tryz.results122 rfl (.cell rfl (i := 1) rfl ty24 rfl ?_ .nil))))))))))))))))))
  all_goals (rw [show i = C by omega, Nat.add_zero])
theorem law19_Of {R C K : Nat} {xs : List (Bool × List Nat)} (hx : Bd (vals xs) K) (hK : K ≤ 100000000) (hR : R ≤ 64) (hC : C ≤ 64) (hl : xs.length = R * C) : Ctr Tryz.prog 47 [isM (R : Int) (C : Int) xs] (isMz R R (gmL R C (vals xs))) := by
 refine Ctr.intro Tryz.func47 rfl (by kernel_rfl) Tryz.ntmps47 rfl fun w0 F0 => .cv (Cv.wk (.l [0] rfl)) (.seq fun _ k1 => .region (.box (.t rfl) rfl fun b1 => .alloc [isI 0, isI 0, nilS] zero24 (fun _ _ => ⟨⟨rfl, by decide, by decide⟩, ⟨rfl, by decide, by decide⟩, rfl, trivial⟩) rfl fun b2 => nl (.thn (k1 _ _ (.seq fun _ k2 => .dr (.s [] rfl rfl rfl (.o rfl (.fieldAddr (.t rfl) fld24_0 ty3)) (.s [3] rfl rfl rfl (.o rfl (.load1 (.t rfl) (i := 1) rfl ty3 rfl)) (.s [] rfl rfl rfl (.o rfl (.fieldAddr (.t rfl) fld24_0 ty3)) (.s [5] rfl rfl rfl (.o rfl (.load1 (.t rfl) (i := 1) rfl ty3 rfl)) (.s [] rfl rfl rfl (.o rfl (.load (.t rfl) (i := 1) rfl ty24 rfl (Ss' := [_, _, _]) rfl)) (.s [] rfl rfl rfl (.o rfl (.load (.t rfl) (i := 1) rfl ty24 rfl (Ss' := [_, _, _]) rfl)) (.s [8] rfl rfl rfl (.o rfl (.call (ref17_Turned hR hC hl) (.cons (.t rfl) .nil))) (.s [7, 9] rfl rfl rfl (.o rfl (.eq (.call (ref11_Mul (R := R) (C := C) (D := R) (K := K) (N := K) hx (trG_bd hx) (by omega) hR hC hR hl (tabR_len _ _ _)) (.cons (.t rfl) (.cons (.t rfl) .nil))) ((show _ = isP (gmL R C (vals xs)) from isPl_eq (by rw [trG_vals, gm_mul (gm_tab (vals xs))]))))) (.fin (n := 8) mixed (by kernel_rfl) (by kernel_rfl) (by kernel_rfl) (.cv (Cv.wk (.l [2, 4, 6, 10] rfl)) (st (.build [isI 0, isI 0, nilS] pl24 zero24 (fun _ _ => ⟨⟨rfl, by decide, by decide⟩, ⟨rfl, by decide, by decide⟩, rfl, trivial⟩) (.cons (.t rfl) rfl rfl rfl (.cons (.t rfl) rfl rfl rfl (.cons (.t rfl) rfl rfl rfl .nil))) (Z'' := [_, _, _]) rfl) rfl (.store (.t rfl) (.t rfl) (i := 0) rfl ty24 rfl rfl (Ss' := [_, _, _]) rfl (M' := [(some _, cellM [_, _, _]), _]) rfl (nl (.thn (k2 _ _ (.ret (rt1 (.inl rfl) Tryz.results47 rfl (.cell rfl (i := 0) rfl ty24 rfl ?_ .nil)))))))))))))))))))))))
 all_goals (rfl)
end Go.Proofs.YthkdmhaafanjlaaGreat
namespace Go.En
open Go.RowKit Go.Nt Go.Pz
section
variable {E : Env} {P : Program} {Γ : Ctx} {M : Mem}
theorem All2.conv {α : Type} {f g : α → VP} {w : World} {F : Blk} : ∀ {xs : List α} {Us : List VP} {vs : List Value}, (∀ x ∈ xs, ∀ v, (f x).h w F v → (g x).h w F v) → All2 (xs.map f ++ Us) w F vs → All2 (xs.map g ++ Us) w F vs
 | [], Us, vs, _, h => h
 | x :: xs, Us, v :: vs, hc, h => ⟨hc x (by simp) v h.1, All2.conv (fun y hy => hc y (by simp [hy])) h.2⟩
 | _ :: _, _, [], _, h => h.elim
end
end Go.En
namespace Go.En
open Go.RowKit
section
variable {E : Env} {P : Program} {Γ : Ctx} {M : Mem} {ty : TypeId} {pos : String} {after : Array Edge} {gd : Option (Nat × Bool)} {d : Option Tmp}
 {ops : Array Oper} {Q : Exit → Act → World → Prop} {rest : List Oper} {T T' : TypeId} {x y : Operand} {α : Type} {f : α → VP} {xs : List α}
theorem OKY.eq {o : Oper} {S S' : VP} (h : OKY E P Γ M o S) (e : S = S') : OKY E P Γ M o S' := e ▸ h
theorem OKY.addI {d : Option Tmp} {i j : Int} (hx : Has E Γ M x (isI i)) (hy : Has E Γ M y (isI j)) (h1 : -9223372036854775808 ≤ i + j) (h2 : i + j < 9223372036854775808) : OKY E P Γ M ⟨d, .binOp .add T x y T', ty, pos, after, none⟩ (isI (i + j)) := fun a w F s => by
 refine ⟨.int .i64 (i + j), fun w' => ?_, isI_of h1 h2 w F⟩
 have g1 := evI hx a w F s
 have g2 := evI hy a w F s
 have g3 := run_add (P := P) (T := T) .i64 i j w'
 simp only [execOp, g1, g2]
 simp [go_sem, g3]
 exact wrap_i64 h1 h2
end
end Go.En
namespace Go.En
open Go.RowKit Go.Nt Go.Pz
section
variable {E : Env} {P : Program} {Γ : Ctx} {M : Mem} {ops : Array Oper} {Q : Exit → Act → World → Prop} {rest : List Oper}
theorem Has.wk {x : Operand} {S S' : VP} (h : Has E Γ M x S) (k : ∀ w F v, S.h w F v → S'.h w F v) : Has E Γ M x S' := fun a w F s => k _ _ _ (h a w F s)
theorem OK1.wk {o : Oper} {S S' : VP} (h : OK1 E P Γ M o S) (k : ∀ w F v, S.h w F v → S'.h w F v) : OK1 E P Γ M o S' := fun a w F s K Q hK => h a w F s K Q fun v w' F' ad hv => hK v w' F' ad (k _ _ _ hv)
theorem OKY.wk {o : Oper} {S S' : VP} (h : OKY E P Γ M o S) (k : ∀ w F v, S.h w F v → S'.h w F v) : OKY E P Γ M o S' := fun a w F s => by
 obtain ⟨v, h1, h2⟩ := h a w F s
 exact ⟨v, h1, k _ _ _ h2⟩
theorem Cv.memEq {M' : Mem} (h : M = M') : Cv E Γ M Γ M' := h ▸ Cv.refl
theorem Cv.winRow {t b n i : Nat} {xs ys : List (Bool × List Nat)} (ht : look Γ t = some (isWin b 0 n n)) (hM : M[i]? = some (some b, cellM (xs.flatMap zc))) (hy : xs = ys) (hl : ys.length = n) :
  Cv E Γ M ((t, isGr (⟨some b, n, []⟩ : Gr (Bool × List Nat)) ys.length) :: Γ) (M.set i (grMK zc ⟨some b, n, []⟩ ys)) := by
 subst hy
 have h := Cv.winGrK (E := E) (fk := zc) (ys := xs) ht hM (by omega) hl (by rw [List.take_of_length_le (by omega)])
 rwa [List.drop_eq_nil_of_le (by omega)] at h
end
end Go.En
namespace Go.En
open Go.RowKit
def CellsIn (w w' : World) : Prop := ∀ a c, w.cell? a = some c → w'.cell? a = some c
theorem CellsIn.refl (w : World) : CellsIn w w := fun _ _ h => h
theorem CellsIn.trans {a b c : World} (h : CellsIn a b) (k : CellsIn b c) : CellsIn a c := fun x v hx => k x v (h x v hx)
theorem CellsIn.of_heap {w w' : World} (h : ∀ (k : Nat) (o : Obj), w.heap[k]? = some o → w'.heap[k]? = some o) : CellsIn w w' := fun a c hc => by
 unfold World.cell? at hc ⊢
 cases ho : w.heap[a.block]? with
 | none => rw [ho] at hc; cases hc
 | some o => rw [ho] at hc; rw [h _ _ ho]; exact hc
inductive Calm {α : Type} : Sem α → Prop
 | pure (a : α) : Calm (.pure a)
 | load (m : Mode) (a : Addr) (k : Value → Sem α) (h : ∀ v, Calm (k v)) : Calm (.load m a k)
 | new (o : Obj) (k : Nat → Sem α) (h : ∀ n, Calm (k n)) : Calm (.new o k)
 | choose (q : Question) (k : Nat → Sem α) (h : ∀ n, Calm (k n)) : Calm (.choose q k)
 | program (k : Program → Sem α) (h : ∀ p, Calm (k p)) : Calm (.program k)
 | mark (m : Mark) (k : Sem α) (h : Calm k) : Calm (.mark m k)
 | halt (x : Halt) : Calm (.halt x)
theorem Calm.run {α : Type} {P : Program} {s : Sem α} (h : Calm s) : ∀ (w : World) (a : α) (w' : World), s.run P w = .ok a w' → CellsIn w w' := by
  induction h with
  | pure a => intro w a' w' e; cases e; exact CellsIn.refl _
  | load m a k _ ih =>
    intro w a' w' e
    unfold Sem.run at e
    split at e
    · exact ih _ w a' w' e
    · split at e
      · exact ih _ w a' w' e
      · cases e
  | new o k _ ih =>
    intro w a' w' e
    refine CellsIn.trans (CellsIn.of_heap fun k' o' ho => ?_) (ih _ _ a' w' e)
    have hk : k' < w.heap.size := by
      rcases Nat.lt_or_ge k' w.heap.size with h | h
      · exact h
      · rw [Array.getElem?_eq_none h] at ho; cases ho
    show (w.heap.push o)[k']? = some o'
    rw [Array.getElem?_push_lt hk, ← ho, Array.getElem?_eq_getElem hk]
  | choose q k _ ih =>
    intro w a' w' e
    unfold Sem.run at e
    split at e <;> first | exact ih _ w a' w' e | exact CellsIn.trans (b := { w with drawn := w.drawn + 1 }) (CellsIn.of_heap fun _ _ h => h) (ih _ _ a' w' e)
  | program k _ ih => intro w a' w' e; exact ih _ w a' w' e
  | mark m k _ ih => intro w a' w' e; exact ih w a' w' e
  | halt x => intro w a' w' e; cases e
theorem Calm.bind {α β : Type} {s : Sem α} {f : α → Sem β} (h : Calm s) (k : ∀ a, Calm (f a)) : Calm (s >>= f) := by
 show Calm (Sem.bind s f)
 induction h with
 | pure a => exact k a
 | load m a k' _ ih => exact .load m a _ ih
 | new o k' _ ih => exact .new o _ ih
 | choose q k' _ ih => exact .choose q _ ih
 | program k' _ ih => exact .program _ ih
 | mark m k' _ ih => exact .mark m _ ih
 | halt x => exact .halt x
theorem calm_pure {α : Type} (a : α) : Calm (Pure.pure a : Sem α) := .pure a
theorem calm_stuck {α : Type} (m : String) : Calm (stuck m : Sem α) := .halt _
theorem calm_unsupported {α : Type} (u : Unsupported) : Calm (unsupported u : Sem α) := .halt _
theorem calm_program : Calm Go.program := .program _ fun p => .pure p
theorem calm_typeInfo (t : TypeId) : Calm (typeInfo t) := by unfold typeInfo; exact calm_program.bind fun p => by split; exact calm_pure _; exact calm_stuck _
theorem calm_underlying (t : TypeId) : Calm (underlying t) := by unfold underlying; exact calm_program.bind fun p => by split; exact calm_pure _; exact calm_stuck _
theorem calm_sizeOf (t : TypeId) : Calm (sizeOf t) := by unfold sizeOf; exact (calm_typeInfo t).bind fun p => calm_pure _
theorem calm_zeroValue (t : TypeId) : Calm (zeroValue t) := by unfold zeroValue; exact (calm_typeInfo t).bind fun p => by split; exact calm_pure _; exact calm_unsupported _
theorem calm_isAgg (t : TypeId) : Calm (isAgg t) := by unfold isAgg; exact (calm_underlying t).bind fun p => by split <;> exact calm_pure _
theorem calm_sureAddr (v : Value) : Calm (Instr.sureAddr v) := by unfold Instr.sureAddr; split; exact calm_pure _; exact calm_stuck _
theorem calm_load (a : Addr) : Calm (Go.load a) := .load _ _ _ fun v => .pure v
theorem calm_loadCellsFrom (a : Addr) : ∀ (n i : Nat) (acc : Array Value), Calm (loadCellsFrom a i n acc)
 | 0, _, _ => calm_pure _
 | n + 1, i, acc => (calm_load _).bind fun v => calm_loadCellsFrom a n (i + 1) (acc.push v)
theorem calm_loadVar (t : TypeId) (a : Addr) : Calm (loadVar t a) := by
 unfold loadVar
 refine (calm_isAgg t).bind fun b => ?_
 split
 ·exact (calm_sizeOf t).bind fun n => (calm_loadCellsFrom a n 0 #[]).bind fun _ => calm_pure _
 ·exact calm_load a
theorem calm_loadAt (t : TypeId) (v : Value) : Calm (Instr.loadAt t v) := by unfold Instr.loadAt; exact (calm_sureAddr v).bind fun a => calm_loadVar t a
theorem calm_newRow (e : TypeId) (cs : Array Value) : Calm (newRow e cs) := by unfold newRow; exact Calm.bind (.new _ _ fun n => .pure n) fun _ => calm_pure _
theorem calm_goPanic {α : Type} (v : Value) : Calm (goPanic v : Sem α) := .halt _
theorem calm_runtimePanic {α : Type} (e : RuntimeError) : Calm (runtimePanic e : Sem α) := by
 unfold runtimePanic
 refine calm_program.bind fun p => ?_
 cases e <;> (first | exact calm_goPanic _ | (repeat' (first | exact calm_goPanic _ | exact calm_pure _ | exact calm_stuck _ | exact calm_unsupported _ | exact calm_program | exact calm_underlying _ | exact calm_zeroValue _ | exact calm_sizeOf _ | exact calm_newRow _ _ | exact (Calm.halt _) | split | refine Calm.bind ?_ fun _ => ?_)))
theorem calm_choose (q : Question) : Calm (Go.choose q) := .choose _ _ fun n => .pure n
theorem calm_askRoom (n : Nat) : Calm (askRoom n) := by unfold askRoom; split; exact .mark _ _ (.pure _); exact calm_pure _
theorem calm_asIntOf (v : Value) : Calm (asIntOf v) := by unfold asIntOf; split <;> first | exact calm_pure _ | exact calm_stuck _ | exact calm_unsupported _
theorem calm_asInt (v : Value) : Calm (asInt v) := by unfold asInt; exact (calm_asIntOf v).bind fun _ => calm_pure _
theorem calm_makeSlice (t : TypeId) (l c : Value) : Calm (Instr.makeSlice t l c) := by
 unfold Instr.makeSlice
 repeat' (first | exact calm_pure _ | exact calm_stuck _ | exact calm_underlying _ | exact calm_asInt _ | exact calm_typeInfo _ | exact calm_runtimePanic _ | exact calm_choose _ | exact calm_askRoom _ | exact calm_sizeOf _ | exact calm_zeroValue _ | exact calm_newRow _ _ | dsimp only | split | refine Calm.bind ?_ fun _ => ?_)
theorem calm_buildSlice (t : TypeId) (n : Nat) (ps : Array (Nat × Value)) : Calm (Instr.buildSlice t n ps) := by
 unfold Instr.buildSlice
 repeat' (first | exact calm_pure _ | exact calm_stuck _ | exact calm_unsupported _ | exact calm_underlying _ | exact calm_sizeOf _ | exact calm_zeroValue _ | exact calm_newRow _ _ | dsimp only | split | refine Calm.bind ?_ fun _ => ?_)
def calmB (o : Oper) : Bool := match o.op with
 | .load .. => true
 | .makeSlice .. => true
 | .buildSlice .. => true
 | .move .. => true
 | _ => false
theorem calm_run {o : Oper} (h : calmB o = true) {ρ : Operand → Value} {P : Program} {w w' : World} {n : Next} (hr : (execOp ρ o).run P w = .ok n w') : (∃ u, n = .value u) ∧ CellsIn w w' := by
 have key : ∀ {s : Sem Value}, Calm s → (do pure (Next.value (← s)) : Sem Next).run P w = .ok n w' → (∃ u, n = .value u) ∧ CellsIn w w' := fun {s} hs e => by
  refine ⟨?_, (hs.bind fun _ => calm_pure _).run _ _ _ e⟩
  rw [Sem.run_bind] at e
  cases hv : s.run P w with
  | ok v w1 => rw [hv] at e; exact ⟨v, by simp at e; exact e.1.symm⟩
  | halt x w1 => rw [hv] at e; simp at e
 obtain ⟨d, op, ty, pos, af, gd⟩ := o
 cases op <;> simp only [calmB] at h <;> first | cases h | skip
 ·simp only [execOp] at hr
  cases hr
  exact ⟨⟨_, rfl⟩, CellsIn.refl _⟩
 all_goals (simp only [execOp] at hr)
 ·exact key (calm_buildSlice _ _ _) hr
 ·exact key (calm_loadAt _ _) hr
 ·exact key (calm_makeSlice _ _ _) hr
section
variable {P : Program} {ops : Array Oper} {md : Region.Mode} {Q : Exit → Act → World → Prop}
def YieldsIn (P : Program) (w0 : World) (o : Oper) (v : Value) (a : Act) : Prop := ∀ w, CellsIn w0 w → (execOp a.eval o).run P w = .ok (.value v) w
theorem wpOp_putC {j : Nat} {oi oj : Oper} {v : Value} {w0 : World} (hj : ops[j]? = some oj) (hap : oi.apart ops oj = true) (hc : calmB oj = true)
    (hsi : ∀ cs b, oi.op ≠ .select cs b) (hsj : ∀ cs b, oj.op ≠ .select cs b)
    (hQ : ∀ c a w, Q (.panic c) (a.put oi.dst v) w → Q (.panic c) a w) {K : Act → World → Prop} {a : Act} {w : World}
    (hw0 : CellsIn w0 w) (hy : YieldsIn P w0 oi v a) (h : wpOp P ops Q j K (a.put oi.dst v) w) :
    wpOp P ops Q j (fun a' w' => (CellsIn w0 w' ∧ YieldsIn P w0 oi v a') ∧ K (a'.put oi.dst v) w') a w := by
  obtain ⟨h1, h2, h3⟩ := Oper.apart_spec hap
  have keep : ∀ u, YieldsIn P w0 oi v (a.put oj.dst u) := fun u w' hw' => by rw [execOp_put oi hsi a oj.dst u h3]; exact hy w' hw'
  unfold wpOp at *
  simp only [hj] at *
  rw [wanted_put oj a oi.dst v h1] at h
  split
  · rename_i hw
    simp only [hw, if_true] at h
    rcases h with h | ⟨hasks, hlets⟩
    case inr => exact .inr ⟨by unfold Oper.asks at *; rw [execOp_put oj hsj a oi.dst v h1] at hasks; exact hasks, hlets⟩
    refine .inl ?_
    unfold Oper.wp at *
    rw [execOp_put oj hsj a oi.dst v h1] at h
    cases hr : (execOp a.eval oj).run P w with
    | ok n w' =>
      obtain ⟨⟨u, rfl⟩, hci⟩ := calm_run hc hr
      rw [hr] at h
      simp only [Oper.upon] at h ⊢
      exact ⟨⟨hw0.trans hci, keep u⟩, by rw [← Act.put_comm a v u h2]; exact h⟩
    | halt x w' =>
      rw [hr] at h
      cases x <;> simp only [Oper.upon] at h ⊢
      case panic u => exact hQ _ _ _ h
  · rename_i hw
    simp only [hw] at h
    exact ⟨⟨hw0, keep _⟩, by rw [← Act.put_comm a v undef h2]; exact h⟩
theorem wpAny_firstC {i : Nat} {oi : Oper} {v : Value} {w0 : World} (hi : ops[i]? = some oi) (hg : oi.guard = none) (hsel : ∀ (j : Nat) (o : Oper) cs b, ops[j]? = some o → o.op ≠ .select cs b)
    (hQ : ∀ c a w, Q (.panic c) (a.put oi.dst v) w → Q (.panic c) a w) :
    ∀ (fuel : Nat) (listed : Array Bool) (a : Act) (w : World), CellsIn w0 w →
      (∀ j oj, ops[j]? = some oj → j ≠ i → listed.getD j true = false → (∀ e ∈ oj.after, Region.binds md e = true → e.on ≠ i) → oi.apart ops oj = true ∧ calmB oj = true) →
      i ∈ Region.ready md ops listed → YieldsIn P w0 oi v a →
      wpAny P md ops Q fuel (listed.setIfInBounds i true) (a.put oi.dst v) w → wpAny P md ops Q (fuel + 1) listed a w := by
  have self : ∀ {K : Act → World → Prop} {a : Act} {w : World}, CellsIn w0 w → YieldsIn P w0 oi v a → K (a.put oi.dst v) w → wpOp P ops Q i K a w := fun {K a w} hw hy hK => by
    unfold wpOp
    simp only [hi]
    rw [if_pos (by simp [Region.wanted, hg])]
    refine .inl ?_
    unfold Oper.wp
    rw [hy w hw]
    exact hK
  intro fuel
  induction fuel with
  | zero =>
    intro listed a w hw _ hr hy H
    refine ⟨fun h => (by rw [h] at hr; cases hr), fun j hj => ?_⟩
    by_cases hji : j = i
    · subst hji; exact self hw hy H
    · have := ready_mono hj hji
      rw [H.1] at this
      cases this
  | succ fuel ih =>
    intro listed a w hw hfree hr hy H
    refine ⟨fun h => (by rw [h] at hr; cases hr), fun j hj => ?_⟩
    by_cases hji : j = i
    · subst hji; exact self hw hy H
    · have h1 := H.2 j (ready_mono hj hji)
      obtain ⟨hjun, oj, hoj, hall⟩ := mem_ready.1 hj
      have hnot : ∀ e ∈ oj.after, Region.binds md e = true → e.on ≠ i := fun e he hb heq => by
        have h1 := hall e he hb
        have h0 := (mem_ready.1 hr).1
        rw [heq] at h1
        rcases Nat.lt_or_ge i listed.size with h' | h'
        · simp [h'] at h0 h1; rw [h0] at h1; cases h1
        · simp [Array.getElem?_eq_none h'] at h1
      obtain ⟨f1, f2⟩ := hfree j oj hoj hji hjun hnot
      have h2 := wpOp_putC hoj f1 f2 (fun cs b => hsel i oi cs b hi) (fun cs b => hsel j oj cs b hoj) hQ hw hy h1
      have hfree' : ∀ k ok, ops[k]? = some ok → k ≠ i → (listed.setIfInBounds j true).getD k true = false →
          (∀ e ∈ ok.after, Region.binds md e = true → e.on ≠ i) → oi.apart ops ok = true ∧ calmB ok = true := fun k ok hk hki hun hno => by
        refine hfree k ok hk hki ?_ hno
        by_cases hjk : j = k
        · subst hjk; exact hjun
        · rw [getD_set_ne true hjk] at hun; exact hun
      refine wpOp_mono (fun a' w' h3 => ih (listed.setIfInBounds j true) a' w' h3.1.1 hfree' (ready_mono hr (Ne.symm hji)) h3.1.2 ?_) h2
      rw [Array.setIfInBounds_comm _ _ hji]
      exact h3.2
end
def freeC (l : List Oper) (listed : Array Bool) (i : Nat) : Bool := match l[i]? with
 | none => false
 | some oi => (List.range l.length).all fun j => j == i || listed.getD j true || match l[j]? with
   | some oj => oj.after.any (fun e => Region.binds .any e && e.on == i) || (oi.apart l.toArray oj && calmB oj)
   | none => true
theorem freeC_spec {l : List Oper} {i : Nat} {oi : Oper} {listed : Array Bool} (hi : l[i]? = some oi) (h : freeC l listed i = true) (j : Nat) (oj : Oper)
  (hj : l[j]? = some oj) (hne : j ≠ i) (hun : listed.getD j true = false) (hno : ∀ e ∈ oj.after, Region.binds .any e = true → e.on ≠ i) : oi.apart l.toArray oj = true ∧ calmB oj = true := by
 simp only [freeC, hi, List.all_eq_true, List.mem_range] at h
 have h1 := h j (List.getElem?_eq_some_iff.1 hj).1
 simp only [hj, Bool.or_eq_true, beq_iff_eq, hne, false_or, hun, Bool.false_eq_true] at h1
 rcases h1 with h1 | h1
 ·obtain ⟨e, he, hb⟩ := Array.any_eq_true'.1 h1
  simp only [Bool.and_eq_true, beq_iff_eq] at hb
  exact absurd hb.2 (hno e he hb.1)
 ·simpa [Bool.and_eq_true] using h1
section
variable {E : Env} {P : Program} {Γ : Ctx} {M : Mem} {ty : TypeId} {pos : String} {after : Array Edge} {Q : Exit → Act → World → Prop}
def OKL (E : Env) (P : Program) (Γ : Ctx) (M : Mem) (o : Oper) (S : VP) : Prop :=
 ∀ a w F, Sat E Γ M a w F → ∃ v, (∀ w', CellsIn w w' → (execOp a.eval o).run P w' = .ok (.value v) w') ∧ S.h w F v
theorem DrB.tl {l : List Oper} {bs : List Nat} {d : Nat} {o : Oper} {S : VP} (i : Nat) (hi : l[i]? = some o) (hd : o.dst = some d) (hg : o.guard = none) (hn : Nat.blt d E.n = true)
  (hok : OKL E P Γ M o S) (k : DrB E P l ((d, S) :: Γ) M Q (bs ++ [i])) (hs : Region.noSelect l.toArray = true := by kernel_rfl)
  (hf : freeC l (arrOf l.length bs) i = true := by kernel_rfl) (hr : (Region.ready .any l.toArray (arrOf l.length bs)).contains i = true := by kernel_rfl) (hl : Nat.blt bs.length l.length = true := by kernel_rfl)
  (hQ : ∀ c a w v, Q (.panic c) (Act.put a (some d) v) w → Q (.panic c) a w := by exact fun _ _ _ _ h => h) : DrB E P l Γ M Q bs := by
 intro a w F s
 obtain ⟨v, hv, hS⟩ := hok a w F s
 have hd' : d < E.n := by simpa [Nat.blt_eq] using hn
 have hl' : bs.length < l.length := by simpa [Nat.blt_eq] using hl
 have hk := k (a.put (some d) v) w F (s.put hd' hS)
 obtain ⟨f, hfu⟩ : ∃ f, l.length - bs.length = f + 1 := ⟨l.length - bs.length - 1, by omega⟩
 rw [hfu]
 refine wpAny_firstC (i := i) (oi := o) (v := v) (w0 := w) (by simpa using hi) hg (Region.noSelect_spec hs) (fun c a w h => hQ c a w v (by rw [hd] at h; exact h)) f _ a w (CellsIn.refl w) (fun j oj hj => freeC_spec hi hf j oj (by simpa using hj)) (by simpa using hr) hv ?_
 rw [hd, ← arrOf_snoc]
 rw [List.length_append, List.length_singleton, show l.length - (bs.length + 1) = f by omega] at hk
 exact hk
theorem OKL.load1 {d : Option Tmp} {x : Operand} {b off i : Nat} {T : TypeId} {Ss : List VP} {S : VP} (hx : Has E Γ M x (isPtr b off)) (hM : M[i]? = some (some b, cellM Ss)) (hT : tyB P T = some (1, false))
  (hS : Ss[off]? = some S) : OKL E P Γ M ⟨d, .load T x, ty, pos, after, none⟩ S := fun a w F s => by
 obtain ⟨o, hb, vs, T', rfl, hv⟩ := mem_at s hM
 have h1 : a.eval x = .pointer (some ⟨b, off, none⟩) := hx a w F s
 obtain ⟨v, hv1, hv2⟩ := hv.get off S hS
 have hc : w.cell? ⟨b, off, none⟩ = some v := by simp [World.cell?, hb, hv1]
 refine ⟨v, fun w' hw' => ?_, hv2⟩
 simp only [execOp, h1, Instr.loadAt, Instr.sureAddr, loadVar, Sem.run_bind, Sem.run_pure, Result.andThen_ok, run_isAgg hT]
 simp [hw' _ _ hc]
end
end Go.En
namespace Go.En
open Go.RowKit
section
variable {E : Env} {P : Program} {Γ : Ctx} {M : Mem} {ty : TypeId} {pos : String} {after : Array Edge} {gd : Option (Nat × Bool)} {d : Option Tmp}
 {ops : Array Oper} {Q : Exit → Act → World → Prop} {rest : List Oper} {T T' : TypeId} {x y : Operand} {α : Type} {fk : α → List VP} {xs : List α} {k : Nat}
def SlE (k : Nat) (fk : α → List VP) (xs : List α) : VP := ⟨fun w F v => 0 < xs.length ∧ xs.length ≤ maxLen ∧ ∃ b vs, v = .slice (some ⟨b, 0, none⟩) xs.length xs.length ∧ F b ∧ All2 (xs.flatMap fk) w F vs ∧ ∀ (j : Nat) u, vs[j]? = some u → w.cell? ⟨b, j, none⟩ = some u,
 fun w w' F F' v h h1 h2 => by
  obtain ⟨g0, gm, b, vs, e, g1, g2, g3⟩ := h
  refine ⟨g0, gm, b, vs, e, h2 b g1, All2.mono h1 h2 _ _ g2, fun j u hj => ?_⟩
  have := g3 j u hj
  unfold World.cell? at this ⊢
  rw [h1 b g1]; exact this⟩
instance : One (SlE k fk xs) := ⟨fun w F v h => by obtain ⟨_, _, b, vs, rfl, _⟩ := h; rfl⟩
instance : Shape (SlE k fk xs) [SlE k fk xs] := .of_one inferInstance
theorem SlE.sl (w : World) (F : Blk) (v : Value) (h : (SlE k fk xs).h w F v) (hk : ∀ y, (fk y).length = k) : (SlK k fk xs).h w F v := by
 obtain ⟨g0, gm, b, vs, e, g1, g2, g3⟩ := h
 refine ⟨some ⟨b, 0, none⟩, xs.length, e, Nat.le_refl _, gm, flat_len hk xs, .inr ⟨b, 0, rfl, g1, vs, g2, fun j u hj => ?_⟩⟩
 rw [Nat.zero_add]; exact g3 j u hj
theorem OK1.buildSE {T e : TypeId} {n m : Nat} {g : Bool} {z : Value} {ps : List (Nat × Operand)} (Z : List VP) (xs : List α) (hT : slB P T = some e) (ht : tyB P e = some (m, g)) (hz : zeroB P e = some z) (hZ : ∀ w F, All2 Z w F ((List.replicate n z.cells.toList).flatten)) (hnm : Nat.ble (n * m) 1000 = true) (hn0 : Nat.beq (n * m) 0 = false)
    (h : Parts E Γ M (fun i => some (i * m, m)) Z ps (xs.flatMap fk)) (hl : Nat.beq (xs.flatMap fk).length (n * m) = true) (hx : n = xs.length) : OK1 E P Γ M ⟨d, .buildSlice T n ps.toArray, ty, pos, after, gd⟩ (SlE m fk xs) := by
  intro a w F s K Q hK
  have hu := slB_under hT
  have hnm' := Nat.le_of_ble_eq_true hnm
  have hn0' := Nat.ne_of_beq_eq_false hn0
  have hm : (n * z.cells.size) = n * m := by
    have h1 := (hZ w F).len
    have h2 := Nat.eq_of_beq_eq_true hl
    have h3 : (xs.flatMap fk).length = Z.length := by
      clear h1 h2 hK hZ hl
      generalize xs.flatMap fk = Z' at h
      induction h with
      | nil => rfl
      | @cons Z Z' i off k x S0 Ss r sh a1 a2 a3 a4 _ ih =>
        rw [ih, spliceV_eq _ _ _ (by have := Nat.le_of_ble_eq_true a4; have := Nat.eq_of_beq_eq_true a3; omega)]
        have := Nat.le_of_ble_eq_true a4; have := Nat.eq_of_beq_eq_true a3
        simp; omega
    simp at h1
    omega
  have hz0 : z.cells.size = m := by
    rcases Nat.eq_zero_or_pos n with h0 | h0
    · subst h0; simp at hn0'
    · exact Nat.eq_of_mul_eq_mul_left h0 hm
  have hfl : ((Array.range (n * m)).map fun j => z.cells[j % z.cells.size]!) = ((List.replicate n z.cells.toList).flatten).toArray := make_flat hz0
  obtain ⟨cells, h1, h2⟩ := h.fill s ((List.replicate n z.cells.toList).flatten).toArray (by simpa using hZ w F)
  have hr : (execOp a.eval (⟨d, .buildSlice T n ps.toArray, ty, pos, after, gd⟩ : Oper)).run P w = .ok (.value (.slice (some ⟨w.heap.size, 0, none⟩) n n)) { w with heap := w.heap.push (.cells cells e) } := by
    have hmap : (ps.toArray.map fun (p : Nat × Operand) => (p.1, a.eval p.2)).toList = ps.map fun p => (p.1, a.eval p.2) := by simp
    have hbig : ¬ n * m > 2 ^ 24 := by omega
    simp only [execOp, Instr.buildSlice, Sem.run_bind, run_under hu, Result.andThen_ok, run_size ht, if_neg hbig, if_neg hn0', run_zero hz, Sem.run_pure, hmap, hfl, h1, newRow, run_newObj]
  unfold Oper.wp
  rw [hr]
  have ad := alloc_new s (.cells cells e)
  have h2' := All2.mono (ad.same s.flt) ad.sub _ _ h2
  have hnp : 0 < n := by
    rcases Nat.eq_zero_or_pos n with h0 | h0
    · subst h0; simp at hn0'
    · exact h0
  have hmp : 0 < m := by
    rcases Nat.eq_zero_or_pos m with h0 | h0
    · subst h0; simp at hn0'
    · exact h0
  refine hK _ _ _ ad ⟨by omega, ?_, w.heap.size, cells.toList, by rw [hx], .inr rfl, h2', fun j u hj => ?_⟩
  · have := Nat.le_mul_of_pos_right n hmp
    rw [maxLen_eq]; omega
  · show World.cell? { w with heap := w.heap.push (.cells cells e) } ⟨w.heap.size, j, none⟩ = some u
    simp only [World.cell?, Array.getElem?_push_size]
    simpa using hj
theorem Ops.appendE {d : Nat} {e : TypeId} {g0 : Bool} {z : Value} {u : α} {ys zs : List α} (hk : ∀ y, (fk y).length = k) (hk0 : 0 < k) (hT : slB P T = some e) (ht : tyB P e = some (k, g0)) (hz : zeroB P e = some z) (hZ : ∀ w F, All2 (fk u) w F z.cells.toList) (hby : byLe P e 1024 = true)
  (hx : Has E Γ M x (SlE k fk ys)) (hy : Has E Γ M y (SlK k fk zs)) (hn' : ys.length + zs.length ≤ 4294967296) (h0 : 0 < zs.length) (hd : Nat.blt d E.n = true)
  (kk : ∀ g' : Gr α, Ops E P ops Q rest ((d, isGr g' (ys.length + zs.length)) :: Γ) (grMK fk g' (ys ++ zs) :: M)) :
  Ops E P ops Q (⟨some d, .call ⟨.builtin .append, #[x, y], #[T, T]⟩, ty, pos, after, none⟩ :: rest) Γ M := by
 intro a w F s
 refine wpList_plain rfl fun K hK => ?_
 have hd' : d < E.n := by simpa [Nat.blt_eq] using hd
 obtain ⟨a1, cap, e2, g1, g2, g3, g4⟩ := hy a w F s
 have hu := slB_under hT
 obtain ⟨inf, hi, hb⟩ : ∃ i, P.info? e = some i ∧ i.bytes ≤ 1024 := by
  unfold byLe at hby
  cases hi : P.info? e with
  | none => simp [hi] at hby
  | some i => rw [hi] at hby; exact ⟨i, rfl, Nat.le_of_ble_eq_true hby⟩
 have hsz : inf.size = k := by
  have := run_size (P := P) (w := w) ht
  simp [sizeOf, typeInfo, go_sem, hi] at this; exact this
 have hzz : inf.zero = some z := by unfold zeroB at hz; rw [hi] at hz; simpa using hz
 have hone : z.cells.size = k := by have := (hZ w F).len; rw [hk] at this; simpa using this.symm
 have hzs : ∀ k, (Builtin.zeroCells z.cells k).toList = (List.replicate k z.cells.toList).flatten := fun k => by
  unfold Builtin.zeroCells
  rw [make_flat rfl]
 have hall : ∀ c, All2 ((List.replicate c u).flatMap fk) w F ((List.replicate c z.cells.toList).flatten) := fun c => by rw [rep_flat]; exact (hZ w F).rep c
 rcases g4 with g4 | ⟨b1, off, rfl, hF, vs, hv, hc⟩
 ·omega
 have hlen := hv.ofFlat hk
 have hnews : ∀ j u, vs[j]? = some u → w.cell? ((⟨b1, off, none⟩ : Addr).add j) = some u := fun j u hj => by rw [add_mk]; exact hc j u hj
 have hnl : vs.length = zs.length * inf.size := by rw [hsz]; exact hlen
 obtain ⟨hy0, hym, b, us, e1, hFb, hus, hcu⟩ := hx a w F s
 have husl := hus.ofFlat hk
 have hml : ys.length + zs.length ≤ maxLen := by rw [maxLen_eq]; omega
 have hg : ys.length < ys.length + zs.length := by omega
 have hcell : ∀ j u, us[j]? = some u → w.cell? ((⟨b, 0, none⟩ : Addr).add j) = some u := fun j u hj => by
  rw [add_mk, Nat.zero_add]; exact hcu j u hj
 have hfit : Builtin.nextslicecap (ys.length + zs.length) ys.length * inf.bytes ≤ 281474976710656 := by
  have h1 := nextslicecap_le hg
  have h2 := Nat.mul_le_mul (Nat.le_trans h1 (show 2 * (ys.length + zs.length) ≤ 8589934592 by omega)) hb
  omega
 have hr := run_append_grow (P := P) w T ty e inf z hu hi hzz ⟨b, 0, none⟩ ys.length ys.length us (by rw [husl, hsz]) hcell ⟨b1, off, none⟩ zs.length cap vs hnl hnews hg (by omega) hfit
 have hf : K (a.put (some d) (.slice (some ⟨w.heap.size, 0, none⟩) (ys.length + zs.length) (grownCap w (ys.length + zs.length) ys.length e))) { w with heap := w.heap.push (.cells (us ++ vs ++ (Builtin.zeroCells z.cells (grownCap w (ys.length + zs.length) ys.length e - (ys.length + zs.length))).toList).toArray e), drawn := w.drawn + 1 } := by
  obtain ⟨cp, hcp⟩ : ∃ cp, cp = grownCap w (ys.length + zs.length) ys.length e := ⟨_, rfl⟩
  have h1 : ys.length + zs.length ≤ cp := by rw [hcp]; exact grownCap_ge _ _ _ _
  have h2 : cp ≤ maxLen := by rw [hcp]; exact grownCap_le_maxLen _ _ _ _ hml
  rw [← hcp]
  have hcs : All2 ((ys ++ zs ++ List.replicate (cp - (ys.length + zs.length)) u).flatMap fk) w F (us ++ vs ++ (Builtin.zeroCells z.cells (cp - (ys.length + zs.length))).toList) := by
   rw [List.flatMap_append, List.flatMap_append, hzs]; exact All2.append (All2.append hus hv) (hall _)
  have s1 := (s.adv (Adv.drew w F)).alloc (T := e) (All2.mono (w := w) (w' := { w with drawn := w.drawn + 1 }) (fun _ _ => rfl) (fun _ h => h) _ _ hcs)
  refine hK _ _ (kk ⟨some w.heap.size, cp, List.replicate (cp - (ys.length + zs.length)) u⟩ _ _ F (s1.put hd' (.inr ⟨_, rfl, rfl, ?_, h2⟩)))
  simp; omega
 have hr2 : (execOp a.eval (⟨some d, .call ⟨.builtin .append, #[x, y], #[T, T]⟩, ty, pos, after, none⟩ : Oper)).run P w = .ok (.value (.slice (some ⟨w.heap.size, 0, none⟩) (ys.length + zs.length) (grownCap w (ys.length + zs.length) ys.length e))) { w with heap := w.heap.push (.cells (us ++ vs ++ (Builtin.zeroCells z.cells (grownCap w (ys.length + zs.length) ys.length e - (ys.length + zs.length))).toList).toArray e), drawn := w.drawn + 1 } := by
  have earr : us.toArray ++ vs.toArray ++ Builtin.zeroCells z.cells (grownCap w (ys.length + zs.length) ys.length e - (ys.length + zs.length)) = (us ++ vs ++ (Builtin.zeroCells z.cells (grownCap w (ys.length + zs.length) ys.length e - (ys.length + zs.length))).toList).toArray := by apply Array.ext'; simp
  simp only [execOp, resolve, invoke, builtin, Sem.run_bind]
  rw [← earr]
  simp [e1, e2, Sem.run_bind, hr]
  first | rfl | exact ⟨rfl, rfl⟩ | done
 unfold Oper.wp
 rw [hr2]
 exact hf
end
end Go.En
namespace Go.En
open Go.RowKit Go.Dt Go.Pz Go.Nt Go.Mz
section
variable {P : Program} {α : Type} {f : α → VP}
theorem CtrX.freeze {g : FuncId} {args : List VP} {ys : List α} (h : CtrX P g args [] (fun S M => ∃ gr : Gr α, S = isGr gr ys.length ∧ M = [grM f gr ys])) : Ctr P g args (SlM f ys) :=
 ⟨h.1, fun w F vs hF hargs => (h.2 w F vs hF ⟨List.Pairwise.nil, by simp⟩ hargs).mono (by
  rintro e w' ⟨v, S', M', F', rfl, ⟨gr, rfl, rfl⟩, hk, hsub, hnew, hv, _, heach⟩
  refine ⟨v, rfl, hk, ?_⟩
  rcases hv with ⟨h1, h2, rfl⟩ | ⟨b, hob, rfl, h1, h2⟩
  ·obtain rfl : ys = [] := List.eq_nil_of_length_eq_zero h2
   exact nilM _ _
  ·obtain ⟨g1, g2, g3, o, g4, us, T, rfl, hu⟩ := heach b (cellM ((ys ++ gr.sp).map f)) (by unfold grM; rw [hob]; simp)
   have hb : fresh F w w' b := by
    rcases g1 with g1 | g1
    ·exact .inr ⟨g1, g2⟩
    ·exact absurd g1 (by simp [blks])
   rw [List.map_append] at hu
   have hu2 := hu.take ys.length
   rw [List.take_left' (by simp)] at hu2
   refine ⟨_, _, rfl, by omega, h2, by simp, .inr ⟨b, 0, rfl, hb, us.take ys.length, All2.mono (fun _ _ => rfl) hnew _ _ hu2, fun j u hj => ?_⟩⟩
   rw [Nat.zero_add]
   have hj2 : j < ys.length := by
    rcases Nat.lt_or_ge j ys.length with h | h
    ·exact h
    ·rw [List.getElem?_take_eq_none h] at hj; cases hj
   rw [List.getElem?_take_of_lt hj2] at hj
   simp [World.cell?, g4, hj])⟩
end
theorem rtXND {E : Env} {P : Program} {Γ : Ctx} {M M' : Mem} {fn : Func} {rs : List ResultVar} {Rs : List VP} {R : VP → Mem → Prop} {W : List Nat} {e : Exit} (hs : M'.Sublist M) (he : e = .ret ∨ e = .normal) (hr : fn.results = rs.toArray) (hn : Nat.beq rs.length 1 = false) (hw : E.W = W) (h : ResL E P Γ M rs Rs) (hR : R (isTup Rs) M') : At E Γ M (bodyPost P fn (RetX E.w0 E.F0 W R)) e := by
 intro a w F s
 obtain ⟨vs, h1, h2⟩ := run_results hr h s
 have hl : Rs.length = rs.length := by
  clear h1 h2 s a w F vs hR
  clear hn hr
  induction h with
  | nil => rfl
  | tmp _ _ ih => simp [ih]
  | cell _ _ _ _ _ _ ih => simp [ih]
  | cell1 _ _ _ _ _ ih => simp [ih]
 have hne : vs.length ≠ 1 := by rw [← h2.len, hl]; exact Nat.ne_of_beq_eq_false hn
 rw [dif_neg hne] at h1
 exact fin_retXD (S := isTup Rs) hs he s hw h1 ⟨vs, rfl, h2⟩ hR
theorem tabR_succ {C i k : Nat} (g : Nat → Nat → Bool × List Nat) (hk : k < C) : tabR (i * C + k) C g ++ [g i k] = tabR (i * C + (k + 1)) C g := by
 unfold tabR
 rw [show i * C + (k + 1) = i * C + k + 1 by omega, List.range_succ, List.map_append]
 show _ ++ [g i k] = _ ++ [g ((i * C + k) / C) ((i * C + k) % C)]
 rw [(divmod hk).1, (divmod hk).2]
end Go.En
namespace Go.Proofs.YthkdmhaafanjlaaGreat
open Go.En Go.RowKit
set_option maxRecDepth 10000
set_option maxHeartbeats 4000000
open Go.Nt
open Go.Pz
open Go.Mz
open Go.Dt
theorem nz0 : nz 0 = (false, []) := Prod.ext rfl words_zero
abbrev lw1 (bw : Nat) (gd r s : Gr (Bool × List Nat)) (gl gu : Gr Row) (x : Int) (m n : Bool) (ps qs : List Nat) : Mem := [grMK zc gd [nz 1, nz x], grMK zc s ([1].map nz), grM rowV gu [(s, [1])], grMK zc r ([0].map nz), grM rowV gl [(r, [0])], (some bw, cellM [isI 1, isGr gd 2, isGr gl 1, isGr gu 1, isB m, isWords ps, isB n, isWords qs, isI 0])]
theorem lll_own1 {K : Nat} {xs : List (Bool × List Nat)} {x : Int} (hx : Bd (vals xs) K) (hK : K ≤ 100000000) (hl : xs.length = 1) (hx0 : cf (vals xs) 0 = x) : Ctr Tryz.prog 280 [isM 1 1 xs] (isB true) := by
 refine Ctr.intro Tryz.func280 rfl (by kernel_rfl) Tryz.ntmps280 rfl fun w0 F0 => .cv (Cv.wk (.l [0] rfl)) ?_
 have hTl : (tab (1 * 1) 1 fun i k => cf (vals xs) (k * 1 + i)).length = 1 := tab_len _ _ _
 obtain ⟨T, hT⟩ : ∃ T, T = tab (1 * 1) 1 fun i k => cf (vals xs) (k * 1 + i) := ⟨_, rfl⟩
 rw [← hT] at hTl
 have hTb : Bd T K := by rw [hT]; exact Bd_tab fun i k => hx _
 have hTv : T = vals xs := by
  obtain ⟨p, rfl⟩ := List.length_eq_one_iff.1 hl
  rw [hT]; rfl
 refine .seq fun _ k1 => .region (.box (.t rfl) rfl fun b1 => st (.as (.cB false)) rfl (nl (.thn (k1 _ _ (.seq fun _ k2 => .region (st (.load (.t rfl) (i := 0) rfl ty24 rfl (Ss' := [_, _, _]) rfl) rfl (st (.eq (.call (zmat_Transpose (R := 1) (C := 1) (K := K) hx (by omega) (by decide) (by decide) hl) (.cons (.t rfl) .nil)) ((show _ = isTup [isMz 1 1 T, isI 0] from by rw [hT]))) rfl (st (.mv (.t rfl)) rfl (st (.ext (.t rfl) rfl) rfl (st (.ext (.t rfl) rfl) rfl (.alloc [isI 0, isI 0, nilS] zero24 (fun _ _ => ⟨⟨rfl, by decide, by decide⟩, ⟨rfl, by decide, by decide⟩, rfl, trivial⟩) rfl fun b2 => .store (.t rfl) (.t rfl) (i := 0) rfl ty24 rfl rfl (Ss' := [_, _, _]) rfl (M' := [(some _, cellM [_, _, _]), _]) rfl (st (.as (.t rfl)) rfl (nl (.thn (k2 _ _ (.cv (Cv.wk (.l [1, 2, 3, 4] rfl)) (.seq fun _ k3 => .region (st (.mv (.t rfl)) rfl (st (.eqI (.t rfl) (.cI 0 rfl)) rfl (st (.mv (.t rfl)) rfl ?_))))))))))))))))))))
 refine stT rfl rfl (fun hg => have hg' := BP.t hg; OK1.load (.t rfl) (i := 0) rfl ty24 rfl (Ss' := [_, _, _]) rfl) rfl ?_
 refine stT rfl rfl (fun hg => have hg' := BP.t hg; OK1.load (.t rfl) (i := 1) rfl ty24 rfl (Ss' := [_, _, _]) rfl) rfl ?_
 refine stT rfl rfl (fun hg => have hg' := BP.t hg; OK1.eq (.call (zmat_Same (K := K) (by rw [vals_nz]; exact hTb) hx (by omega)) (.cons (Has.g rfl hg) (.cons (Has.g rfl hg) .nil))) ((show isB _ = isB true from isB_eq (by show (formB (1 : Int) (1 : Int) (T.map nz).length && formB (1 : Int) (1 : Int) xs.length && _ && _ && _) = true; rw [show formB (1 : Int) (1 : Int) (T.map nz).length = true from formB_true (R := 1) (C := 1) (by decide) (by decide) (by rw [List.length_map, hTl]), show formB (1 : Int) (1 : Int) xs.length = true from formB_true (R := 1) (C := 1) (by decide) (by decide) hl, vals_nz, hTv]; simp)))) rfl ?_
 refine st (.pickAnd (.t rfl) (fun h => Has.g rfl h)) rfl (st (.as (.t rfl)) rfl (nl (.thn (k3 _ _ (.cv (Cv.wk (.l [2] rfl)) (.ret (rt1 (.inl rfl) Tryz.results280 rfl (.tmp (Has.t' rfl ?_) .nil))))))))
 all_goals (rfl)
theorem lll_entry0 {K : Nat} {xs : List (Bool × List Nat)} {x : Int} (hx : Bd (vals xs) K) (hK : K ≤ 100000000) (hl : xs.length = 1) (hx0 : cf (vals xs) 0 = x) {bw : Nat} : Ctr Tryz.prog 281 [isPtr bw 0, isM 1 1 xs, isI 0, isI 0] (isZ x) := by
 refine Ctr.intro Tryz.func281 rfl (by kernel_rfl) Tryz.ntmps281 rfl fun w0 F0 => .cv (Cv.wk (.l [0, 1, 2, 3] rfl)) (.fact (Has.rngI (Has.t (t := 2) rfl)) fun lt2 => .fact (Has.rngI (Has.t (t := 3) rfl)) fun lt3 => .seq fun _ k1 => .region (.box (.t rfl) rfl fun b1 => .alloc [isB false, SlM isU []] zero31 (fun _ _ => ⟨rfl, nilM _ _, trivial⟩) rfl fun b2 => nl (.thn (k1 _ _ (.seq fun _ k2 => .region (st (.load (.t rfl) (i := 1) rfl ty24 rfl (Ss' := [_, _, _]) rfl) rfl (st (.mv (.t rfl)) rfl (st (.mv (.t rfl)) rfl (st (.eq (.call (zmat_At (R := 1) (C := 1) (i := 0) (k := 0) hx (by omega) (by decide) (by decide) hl (by decide) (by decide)) (.cons (.t rfl) (.cons (.t rfl) (.cons (.t rfl) .nil)))) ((show isZ _ = isZ x from isZ_eq hx0))) rfl (.alloc [isB false, SlM isU []] zero31 (fun _ _ => ⟨rfl, nilM _ _, trivial⟩) rfl fun b3 => .store (.t rfl) (.t rfl) (i := 0) rfl ty31 rfl rfl (Ss' := [_, _]) rfl (M' := [(some _, cellM [_, _]), _, _]) rfl (nl (.thn (k2 _ _ (.cv (Cv.wk (.l [0, 2, 3, 8, 9] rfl)) (.seq fun _ k3 => .seq fun _ k4 => .region (st (.mv (.t rfl)) rfl (st (.mv (.cI 0 rfl)) rfl (nl (.thn (k4 _ _ (.block (.loopF [0, 2, 3, 8, 9, 15] (fun (_ : Unit) => [(16, isI 0)]) (fun M => fun (_ : Unit) => M) (fun (_ : Unit) => 0) (()) (Cv.mem (.c 16 rfl ?_ (.l [0, 2, 3, 8, 9, 15] rfl)) ?_) ?_))))))))))))))))))))))
 ·rfl
 ·rfl
 rintro _ K5 hK5
 refine .cv (Cv.wk (.l [16, 0, 2, 3, 8, 9, 15] rfl)) (.seq fun _ k6 => .region (st (.ltI (.t rfl) (.t rfl)) rfl (nl (.thn (k6 _ _ (.seq fun _ k7 => .cond (.t rfl) (fun hc1 => ?_) (fun hc1 => ?_)))))))
 ·have hc1 := BP.t hc1
  exfalso; omega
 ·have hc1 := BP.f hc1
  skip
  refine .exit (.the (.the (.blh (.thn (k3 _ _ (.cv (Cv.wk (.l [8, 9] rfl)) (.seq fun _ k8 => .region (st (.load (.t rfl) (i := 0) rfl ty31 rfl (Ss' := [_, _]) rfl) rfl (.store (.t rfl) (.t rfl) (i := 1) rfl ty31 rfl rfl (Ss' := [_, _]) rfl (M' := [_, (some _, cellM [_, _]), _]) rfl (nl (.thn (k8 _ _ (.ret (rt1 (.inl rfl) Tryz.results281 rfl (.cell rfl (i := 1) rfl ty31 rfl ?_ .nil)))))))))))))))
  all_goals (rfl)
theorem lll_begun1 {K : Nat} {xs : List (Bool × List Nat)} {x : Int} (hx : Bd (vals xs) K) (hK : K ≤ 100000000) (hl : xs.length = 1) (hx0 : cf (vals xs) 0 = x) (hp : 0 < x) : CtrX Tryz.prog 252 [isM 1 1 xs] ([]) (fun S M => ∃ bw gd r s gl gu, S = isTup [isPtr bw 0, isI 0] ∧ M = lw1 bw gd r s gl gu x false false [] []) := by
 refine CtrX.intro Tryz.func252 rfl (by kernel_rfl) Tryz.ntmps252 rfl fun w0 F0 => .cv (Cv.wk (.l [0] rfl)) ?_
 have hfo : formB 1 1 xs.length = true := formB_true (R := 1) (C := 1) (by decide) (by decide) hl
 have hxw : (List.length (words x.natAbs)) ≤ K := by rw [← hx0]; exact hx 0
 refine .seq fun _ k1 => .region (.box (.t rfl) rfl fun b1 => st (.as Has.cP) rfl (st (.as (.cI 0 rfl)) rfl (nl (.thn (k1 _ _ (.seq fun _ k2 => .block (.seq fun _ k3 => .region (st (.load (.t rfl) (i := 0) rfl ty24 rfl (Ss' := [_, _, _]) rfl) rfl (st (.eq (.call (zmat_Formed) (.cons (.t rfl) .nil)) ((show isB _ = isB true from isB_eq (hfo)))) rfl (st (.not (.t rfl)) rfl (st (.mv (.t rfl)) rfl ?_)))))))))))
 refine stF rfl rfl (fun hg => have hg' := BP.t hg; OK1.fieldAddr (.t rfl) fld24_0 ty3) rfl ?_
 refine stF rfl rfl (fun hg => have hg' := BP.t hg; OK1.load1 (Has.g rfl hg) (i := 0) rfl ty3 rfl) rfl ?_
 refine stF rfl rfl (fun hg => have hg' := BP.t hg; OK1.fieldAddr (.t rfl) fld24_1 ty3) rfl ?_
 refine stF rfl rfl (fun hg => have hg' := BP.t hg; OK1.load1 (Has.g rfl hg) (i := 0) rfl ty3 rfl) rfl ?_
 refine stF rfl rfl (fun hg => have hg' := BP.t hg; OK1.neI (Has.g rfl hg) (Has.g rfl hg)) rfl ?_
 refine st (.pickOr (.t rfl) (fun h => Has.g rfl (ng h))) rfl (st (.as (.t rfl)) rfl (nl (.thn (k3 _ _ (.cv (Cv.wk (.l [1, 2, 3, 8] rfl)) (.cond (.t rfl) (fun hc1 => ?_) (fun hc1 => ?_)))))))
 ·have hc1 := BP.t hc1
  exfalso; simp at hc1
 ·have hc1 := BP.f hc1
  skip
  refine .seq fun _ k4 => .region (st (.load (.t rfl) (i := 0) rfl ty24 rfl (Ss' := [_, _, _]) rfl) rfl (st (.call (lll_own1 hx hK hl hx0) (.cons (.t rfl) .nil)) rfl (st (.not (.t rfl)) rfl (st (.as (.t rfl)) rfl (nl (.thn (k4 _ _ (.cond (.t rfl) (fun hc2 => ?_) (fun hc2 => ?_)))))))))
  ·have hc2 := BP.t hc2
   exfalso; simp at hc2
  ·have hc2 := BP.f hc2
   skip
   refine .skip (.bln (.thn (k2 _ _ (.cv (Cv.wk (.l [1, 2, 3] rfl)) (.seq fun _ k5 => .dr (.s [] rfl rfl rfl (.o rfl (.fieldAddr (.t rfl) fld24_0 ty3)) (.s [23] rfl rfl rfl (.o rfl (.load1 (.t rfl) (i := 0) rfl ty3 rfl)) (.s [] rfl rfl rfl (.o rfl (.call (zint_Of) (.cons (.cI 1 rfl) .nil))) (.s [25] rfl rfl rfl (.o rfl (.buildSE (fk := zc) [isB false, SlM isU []] ([nz 1]) sl22 ty31 zero31 (fun _ _ => ⟨rfl, nilM _ _, trivial⟩) rfl rfl (.cons (.t rfl) rfl rfl rfl .nil) rfl rfl)) (.fin (n := 4) mixed (by kernel_rfl) (by kernel_rfl) (by kernel_rfl) (.cv (Cv.wk (.l [1, 2, 3, 24, 26] rfl)) (st (.build [isI 0, nilS, nilS, nilS, isB false, SlM isU [], isB false, SlM isU [], isI 0] pl226 zero226 (fun _ _ => ⟨⟨rfl, by decide, by decide⟩, rfl, rfl, rfl, rfl, nilM _ _, rfl, nilM _ _, ⟨rfl, by decide, by decide⟩, trivial⟩) (.cons (.t rfl) rfl rfl rfl (.cons (.t rfl) rfl rfl rfl .nil)) (Z'' := [_, _, _, _, _, _, _, _, _]) rfl) rfl (.box (.t rfl) rfl fun b2 => st (.as (.t rfl)) rfl (nl (.thn (k5 _ _ (.seq fun _ k6 => .seq fun _ k7 => .region (st (.fieldAddr (.t rfl) fld24_0 ty3) rfl (st (.load1 (.t rfl) (i := 1) rfl ty3 rfl) rfl (st (.mv (.cI 0 rfl)) rfl (nl (.thn (k7 _ _ (.cv (Cv.wk (.l [1, 2, 3, 4, 30, 31] rfl)) (.block (.loopF [1, 4, 30] (fun (z : Option (Gr Row × Gr Row × Gr (Bool × List Nat) × Gr (Bool × List Nat) × Gr (Bool × List Nat))) => match z with | none => [(31, isI 0)] | some _ => [(31, isI 1)]) (fun M => fun (z : Option (Gr Row × Gr Row × Gr (Bool × List Nat) × Gr (Bool × List Nat) × Gr (Bool × List Nat))) => match z with | none => [(some b2, cellM [isI 1, SlE 2 zc [nz 1], nilS, nilS, isB false, SlM isU [], isB false, SlM isU [], isI 0]), (some b1, cellM [isI 1, isI 1, SlK 2 zc xs])] | some (gl, gu, r, s, gd) => [grMK zc gd [nz 1, nz x], grMK zc s ([1].map nz), grM rowV gu [(s, [1])], grMK zc r ([0].map nz), grM rowV gl [(r, [0])], (some b2, cellM [isI 1, isGr gd 2, isGr gl 1, isGr gu 1, isB false, isWords [], isB false, isWords [], isI 0]), (some b1, cellM [isI 1, isI 1, SlK 2 zc xs])]) (fun (z : Option (Gr Row × Gr Row × Gr (Bool × List Nat) × Gr (Bool × List Nat) × Gr (Bool × List Nat))) => match z with | none => 1 | some _ => 0) (none) (Cv.mem (.c 31 rfl ?_ (.l [1, 4, 30] rfl)) ?_) ?_))))))))))))))))))))))))))
   ·rfl
   ·rfl
   intro z K8 hK8
   rcases z with _ | ⟨gl, gu, r, s, gd⟩
   ·refine .cv (Cv.wk (.l [31, 1, 4, 30] rfl)) (.memEq (M' := [(some b2, cellM [isI 1, SlE 2 zc [nz 1], nilS, nilS, isB false, SlM isU [], isB false, SlM isU [], isI 0]), (some b1, cellM [isI 1, isI 1, SlK 2 zc xs])]) rfl (.seq fun _ k9 => .region (st (.ltI (.t rfl) (.t rfl)) rfl (nl (.thn (k9 _ _ (.seq fun _ k10 => .cond (.t rfl) (fun hc3 => ?_) (fun hc3 => ?_))))))))
    ·have hc3 := BP.t hc3
     skip
     refine .skip (.thn (k10 _ _ (.seq fun _ k11 => .block (.seq fun _ k12 => .region (st (.mv (.t rfl)) rfl (st (.as (.t rfl)) rfl (nl (.thn (k12 _ _ (.seq fun _ k13 => .cv (Cv.growF (Row) (i := 0) (o := 2) rfl rfl rfl) (.memEq (M' := [grM rowV Gr.nil [], _, _]) rfl (.dry mixed (.tk 0 rfl rfl rfl rfl (OKY.mv (.t rfl)) (.tk 1 rfl rfl rfl rfl (OKY.mv (.t rfl)) (.tk 2 rfl rfl rfl rfl (OKY.nilc (.t rfl)) (.tk 3 rfl rfl rfl rfl (OKY.fieldAddr (.t rfl) fld226_2 ty151) (.tk 5 rfl rfl rfl rfl (OKY.fieldAddr (.t rfl) fld24_0 ty3) (.tl 4 rfl rfl rfl rfl (OKL.load1 (.t rfl) (i := 1) rfl ty151 rfl) (.go [] (.fin [6, 7, 8, 9, 10, 11, 12] (by kernel_rfl) (by kernel_rfl) (fun _ _ _ _ _ h => h) (by kernel_rfl) (by kernel_rfl) (by kernel_rfl) (by kernel_rfl) (by kernel_rfl) (by kernel_rfl) (by kernel_rfl) (by kernel_rfl) (by kernel_rfl) (.cv (Cv.wk (.l [1, 4, 30, 31, 32, 33, 5, 34, 35, 36, 37, 39, 38] rfl)) (st (.load1 (.t rfl) (i := 2) rfl ty3 rfl) rfl (.makeK (fk := zc) (u := (false, [])) (n := 1) (c := 1) sl22 ty31 zero31 (fun _ _ => ⟨rfl, nilM _ _, trivial⟩) zc_len by31 (Has.t' rfl rfl) (Has.t' rfl rfl) ⟨by omega, by omega⟩ rfl fun b3 => .cv (Cv.trans (Cv.winRow (t := 41) (i := 0) (ys := [0].map nz) rfl rfl (by rw [show [0].map nz = [nz 0] from rfl, nz0]; rfl) rfl) (Cv.memEq (M' := [(grMK zc ⟨some b3, 1, []⟩ ([0].map nz)), _, _, _]) rfl)) ?_)))))))))))))))))))))))
     refine st (.buildS [nilS] sl151 ty22 zero22 (fun _ _ => ⟨rfl, trivial⟩) rfl rfl (.cons (.t rfl) rfl rfl rfl .nil) rfl (S := SlM rowV [((⟨some b3, 1, []⟩ : Gr (Bool × List Nat)), [0])]) rfl) rfl (.appendG (f := rowV) (u := (Gr.nil, [])) sl151 ty22 zero22 (fun _ _ => ⟨gr0, trivial⟩) (fun _ => inferInstance) by22 (.t rfl) (i := 1) rfl (.t rfl) (by simp only [List.length_cons, List.length_nil]; omega) (by simp) rfl fun gr2 => ?_)
     refine .memEq (M' := [_, grM _ _ _, _, _]) rfl (st (.nilc (.t rfl)) rfl (st (.fieldAddr (.t rfl) fld226_2 ty151) rfl (.store (.t rfl) (.t rfl) (i := 2) rfl ty151 rfl rfl (Ss' := [_, _, _, _, _, _, _, _, _]) rfl (M' := [_, _, (some _, cellM [_, _, _, _, _, _, _, _, _]), _]) rfl (nl (.thn (k13 _ _ (.seq fun _ k14 => .cv (Cv.growF (Row) (i := 2) (o := 3) rfl rfl rfl) (.memEq (M' := [grM rowV Gr.nil [], _, _, _, _]) rfl (.dry mixed (.tk 0 rfl rfl rfl rfl (OKY.mv (.t rfl)) (.tk 1 rfl rfl rfl rfl (OKY.mv (.t rfl)) (.tk 2 rfl rfl rfl rfl (OKY.nilc (.t rfl)) (.tk 3 rfl rfl rfl rfl (OKY.fieldAddr (.t rfl) fld226_3 ty151) (.tk 5 rfl rfl rfl rfl (OKY.fieldAddr (.t rfl) fld24_0 ty3) (.tl 4 rfl rfl rfl rfl (OKL.load1 (.t rfl) (i := 3) rfl ty151 rfl) (.go [] (.fin [6, 7, 8, 9, 10, 11, 12] (by kernel_rfl) (by kernel_rfl) (fun _ _ _ _ _ h => h) (by kernel_rfl) (by kernel_rfl) (by kernel_rfl) (by kernel_rfl) (by kernel_rfl) (by kernel_rfl) (by kernel_rfl) (by kernel_rfl) (by kernel_rfl) (.cv (Cv.wk (.l [1, 4, 30, 31, 32, 33, 5, 34, 35, 36, 37, 39, 38, 40, 41, 42, 43, 44, 45, 46, 47, 48, 49, 51, 50] rfl)) (st (.load1 (.t rfl) (i := 4) rfl ty3 rfl) rfl (.makeK (fk := zc) (u := (false, [])) (n := 1) (c := 1) sl22 ty31 zero31 (fun _ _ => ⟨rfl, nilM _ _, trivial⟩) zc_len by31 (Has.t' rfl rfl) (Has.t' rfl rfl) ⟨by omega, by omega⟩ rfl fun b4 => .cv (Cv.trans (Cv.winRow (t := 53) (i := 0) (ys := [0].map nz) rfl rfl (by rw [show [0].map nz = [nz 0] from rfl, nz0]; rfl) rfl) (Cv.memEq (M' := [(grMK zc ⟨some b4, 1, []⟩ ([0].map nz)), _, _, _, _, _]) rfl)) ?_))))))))))))))))))))
     refine st (.buildS [nilS] sl151 ty22 zero22 (fun _ _ => ⟨rfl, trivial⟩) rfl rfl (.cons (.t rfl) rfl rfl rfl .nil) rfl (S := SlM rowV [((⟨some b4, 1, []⟩ : Gr (Bool × List Nat)), [0])]) rfl) rfl (.appendG (f := rowV) (u := (Gr.nil, [])) sl151 ty22 zero22 (fun _ _ => ⟨gr0, trivial⟩) (fun _ => inferInstance) by22 (.t rfl) (i := 1) rfl (.t rfl) (by simp only [List.length_cons, List.length_nil]; omega) (by simp) rfl fun gr3 => ?_)
     refine .memEq (M' := [_, grM _ _ _, _, _, _, _]) rfl (st (.nilc (.t rfl)) rfl (st (.fieldAddr (.t rfl) fld226_3 ty151) rfl (.store (.t rfl) (.t rfl) (i := 4) rfl ty151 rfl rfl (Ss' := [_, _, _, _, _, _, _, _, _]) rfl (M' := [_, _, _, _, (some _, cellM [_, _, _, _, _, _, _, _, _]), _]) rfl (nl (.thn (k14 _ _ (.seq fun _ k15 => .dr (.s [] rfl rfl rfl (.o rfl (.mv (.t rfl))) (.s [58] rfl rfl rfl (.o rfl (.nilc (.t rfl))) (.s [59] rfl rfl rfl (.o rfl (.fieldAddr (.t rfl) fld226_3 ty151)) (.s [60] rfl rfl rfl (.o rfl (.load1 (.t rfl) (i := 4) rfl ty151 rfl)) (.s [] rfl rfl rfl (.o rfl (.mv (.t rfl))) (.s [61, 62] rfl rfl rfl (.o rfl (.ixGr sl151 ty22 (.t rfl) (.t rfl) ⟨by omega, by omega⟩)) ?_)))))))))))))
     refine .s [63] rfl rfl rfl (.o rfl (.loadGM (.t rfl) (i := 1) rfl ty22 rfl)) (.s [] rfl rfl rfl (.o rfl (.mv (.t rfl))) (.s [] rfl rfl rfl (.o rfl (.call (zint_Of) (.cons (.cI 1 rfl) .nil))) (.fin (n := 9) mixed (by kernel_rfl) (by kernel_rfl) (by kernel_rfl) (.cv (Cv.wk (.l [1, 4, 30, 31, 32, 33, 5, 34, 35, 36, 37, 39, 38, 40, 41, 42, 43, 44, 45, 46, 47, 48, 49, 51, 50, 52, 53, 54, 55, 56, 57, 58, 59, 60, 61, 62, 63, 64, 65, 66] rfl)) ?_))))
     refine st (.ixGr sl22 ty31 (.t rfl) (.t rfl) ⟨by decide, by show (0 : Int) < 1; decide⟩) rfl ?_
     refine .storeGK (z := nz 1) zc_len (.t rfl) (.t rfl) (i := 0) rfl ty31 (by decide) (M' := [grMK _ _ _, _, _, _, _, _]) rfl (nl (.thn (k15 _ _ (.seq fun _ k16 => .seq fun _ k17 => .region (st (.mv (.t rfl)) rfl (st (.mv (.cI 0 rfl)) rfl (nl (.thn (k17 _ _ (.block (.loopF [1, 4, 30, 31, 32, 33, 5, 34, 35, 36, 37, 39, 38, 40, 41, 42, 43, 44, 45, 46, 47, 48, 49, 51, 50, 52, 53, 54, 55, 56, 57, 58, 59, 60, 61, 62, 63, 64, 65, 66, 67, 68] (fun (_ : Unit) => [(69, isI 0)]) (fun M => fun (_ : Unit) => M) (fun (_ : Unit) => 0) (()) (Cv.mem (.c 69 rfl ?_ (.l [1, 4, 30, 31, 32, 33, 5, 34, 35, 36, 37, 39, 38, 40, 41, 42, 43, 44, 45, 46, 47, 48, 49, 51, 50, 52, 53, 54, 55, 56, 57, 58, 59, 60, 61, 62, 63, 64, 65, 66, 67, 68] rfl)) ?_) ?_)))))))))))
     ·rfl
     ·rfl
     rintro _ K18 hK18
     refine .cv (Cv.wk (.l [69, 1, 4, 30, 31, 32, 33, 5, 34, 35, 36, 37, 39, 38, 40, 41, 42, 43, 44, 45, 46, 47, 48, 49, 51, 50, 52, 53, 54, 55, 56, 57, 58, 59, 60, 61, 62, 63, 64, 65, 66, 67, 68] rfl)) (.seq fun _ k19 => .region (st (.ltI (.t rfl) (.t rfl)) rfl (nl (.thn (k19 _ _ (.seq fun _ k20 => .cond (.t rfl) (fun hc4 => ?_) (fun hc4 => ?_)))))))
     ·have hc4 := BP.t hc4
      exfalso; omega
     ·have hc4 := BP.f hc4
      skip
      refine .exit (.the (.the (.blh (.thn (k16 _ _ (.seq fun _ k21 => .region (st (.mv (.t rfl)) rfl (st (.load (.t rfl) (i := 5) rfl ty24 rfl (Ss' := [_, _, _]) rfl) rfl (st (.mv (.t rfl)) rfl (st (.mv (.t rfl)) rfl (st (.call (lll_entry0 hx hK hl hx0) (.cons (.t rfl) (.cons (.t rfl) (.cons (.t rfl) (.cons (.t rfl) .nil))))) rfl (.alloc [isB false, SlM isU []] zero31 (fun _ _ => ⟨rfl, nilM _ _, trivial⟩) rfl fun b5 => .store (.t rfl) (.t rfl) (i := 0) rfl ty31 rfl rfl (Ss' := [_, _]) rfl (M' := [(some _, cellM [_, _]), _, _, _, _, _, _]) rfl (nl (.thn (k21 _ _ (.seq fun _ k22 => .seq fun _ k23 => .region (st (.load (.t rfl) (i := 0) rfl ty31 rfl (Ss' := [_, _]) rfl) rfl (st (.call (zint_Sign (by rw [val_words]; omega)) (.cons (.t rfl) .nil)) rfl ?_))))))))))))))))))
      refine st (.leI (.t rfl) (.cI 0 rfl)) rfl (nl (.thn (k23 _ _ (.cond (.t rfl) (fun hc5 => ?_) (fun hc5 => ?_)))))
      ·have hc5 := BP.t hc5
       exfalso; rw [zv_nf] at hc5; rcases sgn_cases x with h | h | h <;> omega
      ·have hc5 := BP.f hc5
       skip
       refine .skip (.thn (k22 _ _ (.dry mixed (.tk 0 rfl rfl rfl rfl (OKY.mv (.t rfl)) (.tk 1 rfl rfl rfl rfl (OKY.mv (.t rfl)) (.tk 2 rfl rfl rfl rfl (OKY.nilc (.t rfl)) (.tk 3 rfl rfl rfl rfl (OKY.fieldAddr (.t rfl) fld226_1 ty22) (.tl 4 rfl rfl rfl rfl (OKL.load1 (.t rfl) (i := 5) rfl ty22 rfl) (.go [] (.fin [5, 6, 7, 8, 9, 10] (by kernel_rfl) (by kernel_rfl) (fun _ _ _ _ _ h => h) (by kernel_rfl) (by kernel_rfl) (by kernel_rfl) (by kernel_rfl) (by kernel_rfl) (by kernel_rfl) (by kernel_rfl) (by kernel_rfl) (by kernel_rfl) (.cv (Cv.wk (.l [1, 4, 30, 31, 32, 33, 5, 34, 35, 36, 37, 39, 38, 40, 41, 42, 43, 44, 45, 46, 47, 48, 49, 51, 50, 52, 53, 54, 55, 56, 57, 58, 59, 60, 61, 62, 63, 64, 65, 66, 67, 68, 69, 70, 87, 88, 89, 90, 91, 7, 92, 93, 94, 95, 96, 97, 98, 99] rfl)) (st (.load (.t rfl) (i := 0) rfl ty31 rfl (Ss' := [_, _]) rfl) rfl (st (.buildS [isB false, SlM isU []] sl22 ty31 zero31 (fun _ _ => ⟨rfl, nilM _ _, trivial⟩) rfl rfl (.cons (.t rfl) rfl rfl rfl .nil) rfl (S := SlK 2 zc [nz x]) rfl) rfl (.appendE (fk := zc) (u := (false, [])) zc_len (by decide) sl22 ty31 zero31 (fun _ _ => ⟨rfl, nilM _ _, trivial⟩) by31 (.t rfl) (.t rfl) (by simp only [List.length_cons, List.length_nil]; omega) (by simp) rfl fun gr4 => ?_))))))))))))))
       refine st (.nilc (.t rfl)) rfl (st (.fieldAddr (.t rfl) fld226_1 ty22) rfl (.store (.t rfl) (.t rfl) (i := 6) rfl ty22 rfl rfl (Ss' := [_, _, _, _, _, _, _, _, _]) rfl (M' := [_, _, _, _, _, _, (some _, cellM [_, _, _, _, _, _, _, _, _]), _]) rfl (nl (.bln (.thn (k11 _ _ (.region (st (.addI (.t rfl) (.cI 1 rfl) (by first | omega | assumption) (by first | omega | assumption)) rfl (st (.mv (.t rfl)) rfl (nl (.thn (hK8 (some (gr2, gr3, ⟨some b3, 1, []⟩, ⟨some b4, 1, []⟩, gr4)) _ _ ?_ (Cv.trans (Cv.drop ((.cons_cons _ (.cons _ (.cons_cons _ (.cons_cons _ (.cons_cons _ (.cons_cons _ (.cons_cons _ (.cons_cons _ .slnil)))))))))) (Cv.mem (.c 31 rfl ?_ (.l [1, 4, 30] rfl)) ?_))))))))))))))
       ·show 0 < 1; omega
       ·rfl
       ·rfl
    ·have hc3 := BP.f hc3
     exfalso; omega
   ·refine .cv (Cv.wk (.l [31, 1, 4, 30] rfl)) (.memEq (M' := [grMK zc gd [nz 1, nz x], grMK zc s ([1].map nz), grM rowV gu [(s, [1])], grMK zc r ([0].map nz), grM rowV gl [(r, [0])], (some b2, cellM [isI 1, isGr gd 2, isGr gl 1, isGr gu 1, isB false, isWords [], isB false, isWords [], isI 0]), (some b1, cellM [isI 1, isI 1, SlK 2 zc xs])]) rfl (.seq fun _ k24 => .region (st (.ltI (.t rfl) (.t rfl)) rfl (nl (.thn (k24 _ _ (.seq fun _ k25 => .cond (.t rfl) (fun hc6 => ?_) (fun hc6 => ?_))))))))
    ·have hc6 := BP.t hc6
     exfalso; omega
    ·have hc6 := BP.f hc6
     skip
     refine .exit (.the (.the (.blh (.thn (k6 _ _ (.seq fun _ k26 => .region (st (.mv (.t rfl)) rfl (st (.as (.t rfl)) rfl (st (.as (.cI 0 rfl)) rfl (nl (.thn (k26 _ _ (.cv (Cv.wk (.l [2, 3] rfl)) (.ret (rtXND (.cons_cons _ (.cons_cons _ (.cons_cons _ (.cons_cons _ (.cons_cons _ (.cons_cons _ (.cons _ .slnil))))))) (.inl rfl) Tryz.results252 rfl rfl (.tmp (.t rfl) (.tmp (.t rfl) .nil)) (⟨b2, gd, r, s, gl, gu, rfl, rfl⟩))))))))))))))))
theorem lll_may {m n : Bool} {ps qs : List Nat} (hpw : (List.length (words (val ps))) ≤ 100000000) (hqw : (List.length (words (val qs))) ≤ 100000000) : Ctr Tryz.prog 251 [Flat [isB m, isWords ps], Flat [isB n, isWords qs]] (isB (decide (0 < sgn (zv n qs)) && decide (0 < cmpZ (zv m ps * 4) (zv n qs)) && decide (cmpZ (zv m ps) (zv n qs) < 0))) := by
 refine Ctr.intro Tryz.func251 rfl (by kernel_rfl) Tryz.ntmps251 rfl fun w0 F0 => .cv (Cv.wk (.l [0, 1] rfl)) (.fact (Has.okZ (Has.t (t := 0) rfl)) fun okz0 => .fact (Has.okZ (Has.t (t := 1) rfl)) fun okz1 => ?_)
 have hp4 := nz_mul (zv m ps) 4
 rw [zv_nw] at hp4
 have h4 : (List.length (words (4 : Int).natAbs)) ≤ 1 := nw_small' (by decide)
 refine .seq fun _ k1 => .region (.box (.t rfl) rfl fun b1 => .box (.t rfl) rfl fun b2 => st (.as (.cB false)) rfl (nl (.thn (k1 _ _ (.seq fun _ k2 => .dr (.s [] rfl rfl rfl (.o rfl (.load (.t rfl) (i := 0) rfl ty31 rfl (Ss' := [_, _]) rfl)) (.s [5] rfl rfl rfl (.o rfl (.call (zint_Sign (by omega)) (.cons (.t rfl) .nil))) (.s [6] rfl rfl rfl (.o rfl (.gtI (.t rfl) (.cI 0 rfl))) (.s [7] rfl rfl rfl (.o rfl (.mv (.t rfl))) ?_)))))))))
 refine .s [8] rfl rfl rfl (.T rfl rfl rfl (fun hg => have hg' := BP.t hg; OK1.load (.t rfl) (i := 1) rfl ty31 rfl (Ss' := [_, _]) rfl)) ?_
 refine .s [8] rfl rfl rfl (.T rfl rfl rfl (fun hg => have hg' := BP.t hg; OK1.call (zint_Of) (.cons (.cI 4 rfl) .nil))) ?_
 refine .s [8, 9, 10] rfl rfl rfl (.T rfl rfl rfl (fun hg => have hg' := BP.t hg; OK1.eq (.call (zint_Mul (by omega) (by rw [val_words]; omega)) (.cons (Has.g rfl hg) (.cons (Has.g rfl hg) .nil))) ((show isZ _ = isZ (zv m ps * 4) from isZ_eq (by simp only [zv_nf]))))) ?_
 refine .s [8] rfl rfl rfl (.T rfl rfl rfl (fun hg => have hg' := BP.t hg; OK1.load (.t rfl) (i := 0) rfl ty31 rfl (Ss' := [_, _]) rfl)) ?_
 refine .s [8, 11, 12] rfl rfl rfl (.T rfl rfl rfl (fun hg => have hg' := BP.t hg; OK1.eq (.call (zint_Cmp (by rw [val_words]; omega) (by omega)) (.cons (Has.g rfl hg) (.cons (Has.g rfl hg) .nil))) ((show isI _ = isI (cmpZ (zv m ps * 4) (zv n qs)) from isI_eq (by rw [zv_nf]))))) ?_
 refine .s [8, 13] rfl rfl rfl (.T rfl rfl rfl (fun hg => have hg' := BP.t hg; OK1.gtI (Has.g rfl hg) (.cI 0 rfl))) ?_
 refine .s [8, 14] rfl rfl rfl (.o rfl (.pickAnd (.t rfl) (fun h => Has.g rfl h))) (.s [15] rfl rfl rfl (.o rfl (.mv (.t rfl))) ?_)
 refine .s [16] rfl rfl rfl (.T rfl rfl rfl (fun hg => have hg' := BP.t hg; OK1.load (.t rfl) (i := 1) rfl ty31 rfl (Ss' := [_, _]) rfl)) ?_
 refine .s [16] rfl rfl rfl (.T rfl rfl rfl (fun hg => have hg' := BP.t hg; OK1.load (.t rfl) (i := 0) rfl ty31 rfl (Ss' := [_, _]) rfl)) ?_
 refine .fin (n := 14) mixed (by kernel_rfl) (by kernel_rfl) (by kernel_rfl) (.cv (Cv.wk (.l [4, 16, 17, 18] rfl)) ?_)
 refine stT rfl rfl (fun hg => have hg' := BP.t hg; OK1.call (zint_Cmp (by omega) (by omega)) (.cons (Has.g rfl hg) (.cons (Has.g rfl hg) .nil))) rfl ?_
 refine stT rfl rfl (fun hg => have hg' := BP.t hg; OK1.ltI (Has.g rfl hg) (.cI 0 rfl)) rfl ?_
 refine st (.pickAnd (.t rfl) (fun h => Has.g rfl h)) rfl (st (.as (.t rfl)) rfl (nl (.thn (k2 _ _ (.cv (Cv.wk (.l [4] rfl)) (.ret (rt1 (.inl rfl) Tryz.results251 rfl (.tmp (Has.t' rfl ?_) .nil))))))))
 all_goals (rfl)
theorem lll_with1 {K : Nat} {xs : List (Bool × List Nat)} {x : Int} (hx : Bd (vals xs) K) (hK : K ≤ 100000000) (hl : xs.length = 1) (hx0 : cf (vals xs) 0 = x) {m n : Bool} {ps qs : List Nat} (hpw : (List.length (words (val ps))) ≤ 100000000) (hqw : (List.length (words (val qs))) ≤ 100000000) (hp : 0 < x) (hmy : (decide (0 < sgn (zv n qs)) && decide (0 < cmpZ (zv m ps * 4) (zv n qs)) && decide (cmpZ (zv m ps) (zv n qs) < 0)) = true) : CtrX Tryz.prog 195 [isM 1 1 xs, Flat [isB m, isWords ps], Flat [isB n, isWords qs]] ([]) (fun S M => ∃ bw gd r s gl gu, S = isTup [isPtr bw 0, isI 0] ∧ M = lw1 bw gd r s gl gu x m n ps qs) := by
 refine CtrX.intro Tryz.func195 rfl (by kernel_rfl) Tryz.ntmps195 rfl fun w0 F0 => .cv (Cv.wk (.l [0, 1, 2] rfl)) (.fact (Has.okZ (Has.t (t := 1) rfl)) fun okz1 => .fact (Has.okZ (Has.t (t := 2) rfl)) fun okz2 => ?_)
 have hfo : formB 1 1 xs.length = true := formB_true (R := 1) (C := 1) (by decide) (by decide) hl
 refine .seq fun _ k1 => .region (.box (.t rfl) rfl fun b1 => .box (.t rfl) rfl fun b2 => .box (.t rfl) rfl fun b3 => st (.as Has.cP) rfl (st (.as (.cI 0 rfl)) rfl (nl (.thn (k1 _ _ (.seq fun _ k2 => .block (.seq fun _ k3 => .region (st (.load (.t rfl) (i := 2) rfl ty24 rfl (Ss' := [_, _, _]) rfl) rfl (st (.eq (.call (zmat_Formed) (.cons (.t rfl) .nil)) ((show isB _ = isB true from isB_eq (hfo)))) rfl (st (.not (.t rfl)) rfl (st (.mv (.t rfl)) rfl ?_)))))))))))
 refine stF rfl rfl (fun hg => have hg' := BP.t hg; OK1.fieldAddr (.t rfl) fld24_0 ty3) rfl ?_
 refine stF rfl rfl (fun hg => have hg' := BP.t hg; OK1.load1 (Has.g rfl hg) (i := 2) rfl ty3 rfl) rfl ?_
 refine stF rfl rfl (fun hg => have hg' := BP.t hg; OK1.fieldAddr (.t rfl) fld24_1 ty3) rfl ?_
 refine stF rfl rfl (fun hg => have hg' := BP.t hg; OK1.load1 (Has.g rfl hg) (i := 2) rfl ty3 rfl) rfl ?_
 refine stF rfl rfl (fun hg => have hg' := BP.t hg; OK1.neI (Has.g rfl hg) (Has.g rfl hg)) rfl ?_
 refine st (.pickOr (.t rfl) (fun h => Has.g rfl (ng h))) rfl (st (.as (.t rfl)) rfl (nl (.thn (k3 _ _ (.cv (Cv.wk (.l [3, 4, 5, 6, 7, 10] rfl)) (.cond (.t rfl) (fun hc1 => ?_) (fun hc1 => ?_)))))))
 ·have hc1 := BP.t hc1
  exfalso; simp at hc1
 ·have hc1 := BP.f hc1
  skip
  refine .seq fun _ k4 => .region (st (.load (.t rfl) (i := 1) rfl ty31 rfl (Ss' := [_, _]) rfl) rfl (st (.load (.t rfl) (i := 0) rfl ty31 rfl (Ss' := [_, _]) rfl) rfl (st (.eq (.call (lll_may hpw hqw) (.cons (.t rfl) (.cons (.t rfl) .nil))) ((show isB _ = isB true from isB_eq (hmy)))) rfl (st (.not (.t rfl)) rfl (st (.as (.t rfl)) rfl (nl (.thn (k4 _ _ (.cv (Cv.wk (.l [3, 4, 5, 6, 7, 21] rfl)) (.cond (.t rfl) (fun hc2 => ?_) (fun hc2 => ?_)))))))))))
  ·have hc2 := BP.t hc2
   exfalso; simp at hc2
  ·have hc2 := BP.f hc2
   skip
   refine .skip (.bln (.thn (k2 _ _ (.seq fun _ k5 => .region (st (.load (.t rfl) (i := 2) rfl ty24 rfl (Ss' := [_, _, _]) rfl) rfl (.callX (lll_begun1 hx hK hl hx0 hp) (List.Perm.refl _) (.cons (.t rfl) .nil) rfl ?_))))))
   rintro _ _ ⟨bw, gd, r, s, gl, gu, rfl, rfl⟩
   refine .memEq (M' := [grMK zc gd [nz 1, nz x], grMK zc s ([1].map nz), grM rowV gu [(s, [1])], grMK zc r ([0].map nz), grM rowV gl [(r, [0])], (some bw, cellM [isI 1, isGr gd 2, isGr gl 1, isGr gu 1, isB false, isWords [], isB false, isWords [], isI 0]), (some b3, cellM [isB n, isWords qs]), (some b2, cellM [isB m, isWords ps]), (some b1, cellM [isI 1, isI 1, SlK 2 zc xs])]) rfl (st (.mv (.t rfl)) rfl (st (.ext (.t rfl) rfl) rfl (st (.ext (.t rfl) rfl) rfl (st (.as (.t rfl)) rfl (st (.as (.t rfl)) rfl (nl (.thn (k5 _ _ (.cv (Cv.wk (.l [4, 5, 6, 7, 8, 9] rfl)) (.seq fun _ k6 => .seq fun _ k7 => .region (st (.mv (.t rfl)) rfl (st (.eqI (.t rfl) (.cI 0 rfl)) rfl (nl (.thn (k7 _ _ (.cond (.t rfl) (fun hc3 => ?_) (fun hc3 => ?_)))))))))))))))))
   ·have hc3 := BP.t hc3
    skip
    refine .drh [true, true, true, true, true, false, true, true, true] (Ms := [_, _, _, _, _, _, _, _]) rfl (.s [] rfl rfl rfl (.o rfl (.mv (.t rfl))) (.s [] rfl rfl rfl (.o rfl (.mv (.t rfl))) (.s [] rfl rfl rfl (.o rfl (.load (.t rfl) (i := 6) rfl ty31 rfl (Ss' := [_, _]) rfl)) (.s [] rfl rfl rfl (.o rfl (.load (.t rfl) (i := 5) rfl ty31 rfl (Ss' := [_, _]) rfl)) (.s [33] rfl rfl rfl (.o rfl (.nilc (.t rfl))) (.s [37] rfl rfl rfl (.o rfl (.fieldAddr (.t rfl) fld226_4 ty31)) (.mid (.cons_cons _ (.cons_cons _ (.cons_cons _ (.cons_cons _ (.cons_cons _ (.cons _ (.cons_cons _ (.cons_cons _ (.cons_cons _ .slnil))))))))) (.st [35, 38] rfl rfl (by kernel_rfl) (by kernel_rfl) (StS.store (.t rfl) (.t rfl) (i := 5) rfl ty31 rfl rfl (Ss' := [_, _, _, _, _, _, _, _, _]) rfl (M' := [_, _, _, _, _, (some _, cellM [_, _, _, _, _, _, _, _, _]), _, _, _]) rfl) (.cons_cons _ (.cons_cons _ (.cons_cons _ (.cons_cons _ (.cons_cons _ (.cons _ (.cons_cons _ (.cons_cons _ (.cons_cons _ .slnil))))))))) (.fin (n := 7) mixed rfl (by kernel_rfl) (by kernel_rfl) (by kernel_rfl) (.cv (Cv.wk (.l [6, 7, 8, 9, 34, 36] rfl)) (st (.nilc (.t rfl)) rfl (st (.fieldAddr (.t rfl) fld226_5 ty31) rfl (.store (.t rfl) (.t rfl) (i := 5) rfl ty31 rfl rfl (Ss' := [_, _, _, _, _, _, _, _, _]) rfl (M' := [_, _, _, _, _, (some _, cellM [_, _, _, _, _, _, _, _, _]), _, _, _]) rfl (nl (.thn (k6 _ _ (.seq fun _ k8 => .region (st (.mv (.t rfl)) rfl (st (.mv (.t rfl)) rfl (st (.as (.t rfl)) rfl (st (.as (.t rfl)) rfl (nl (.thn (k8 _ _ (.cv (Cv.wk (.l [6, 7] rfl)) (.ret (rtXND (.cons_cons _ (.cons_cons _ (.cons_cons _ (.cons_cons _ (.cons_cons _ (.cons_cons _ (.cons _ (.cons _ (.cons _ .slnil))))))))) (.inl rfl) Tryz.results195 rfl rfl (.tmp (.t rfl) (.tmp (.t rfl) .nil)) (⟨bw, gd, r, s, gl, gu, rfl, rfl⟩))))))))))))))))))))))))))))
   ·have hc3 := BP.f hc3
    exact absurd rfl hc3
theorem lll_run1 {bw : Nat} {gd r s : Gr (Bool × List Nat)} {gl gu : Gr Row} {x : Int} {m n : Bool} {ps qs : List Nat} : CtrX Tryz.prog 196 [isPtr bw 0] (lw1 bw gd r s gl gu x m n ps qs) (fun S M => S = isTup [] ∧ M = lw1 bw gd r s gl gu x m n ps qs) := by
 refine CtrX.intro Tryz.func196 rfl (by kernel_rfl) Tryz.ntmps196 rfl fun w0 F0 => .cv (Cv.wk (.l [0] rfl)) (.seq fun _ k1 => .region (st (.as (.cI 1 rfl)) rfl (nl (.thn (k1 _ _ (.block (.loopF [0] (fun (_ : Unit) => [(2, isI 1)]) (fun M => fun (_ : Unit) => M) (fun (_ : Unit) => 0) (()) (Cv.mem (.c 2 rfl ?_ (.l [0] rfl)) ?_) ?_)))))))
 ·rfl
 ·rfl
 rintro _ K2 hK2
 refine .cv (Cv.wk (.l [2, 0] rfl)) (.seq fun _ k3 => .seq fun _ k4 => .region (st (.mv (.t rfl)) rfl (st (.mv (.t rfl)) rfl (st (.nilc (.t rfl)) rfl (st (.fieldAddr (.t rfl) fld226_0 ty3) rfl (st (.load1 (.t rfl) (i := 5) rfl ty3 rfl) rfl (st (.ltI (.t rfl) (.t rfl)) rfl (nl (.thn (k4 _ _ (.cond (.t rfl) (fun hc1 => ?_) (fun hc1 => ?_))))))))))))
 ·have hc1 := BP.t hc1
  exfalso; omega
 ·have hc1 := BP.f hc1
  skip
  refine .exit (.the (.the (.blh (rtX0 (.inr rfl) Tryz.results196 rfl (⟨rfl, rfl⟩)))))
theorem lll_Reduce1X {K : Nat} {xs : List (Bool × List Nat)} {x : Int} (hx : Bd (vals xs) K) (hK : K ≤ 100000000) (hl : xs.length = 1) (hx0 : cf (vals xs) 0 = x) {m n : Bool} {ps qs : List Nat} (hpw : (List.length (words (val ps))) ≤ 100000000) (hqw : (List.length (words (val qs))) ≤ 100000000) (hp : 0 < x) (hmy : (decide (0 < sgn (zv n qs)) && decide (0 < cmpZ (zv m ps * 4) (zv n qs)) && decide (cmpZ (zv m ps) (zv n qs) < 0)) = true) : CtrX Tryz.prog 124 [isM 1 1 xs, Flat [isB m, isWords ps], Flat [isB n, isWords qs]] ([]) (fun S M => S = isTup [isMz 1 1 [1], isI 0, isI 0]) := by
 refine CtrX.intro Tryz.func124 rfl (by kernel_rfl) Tryz.ntmps124 rfl fun w0 F0 => .cv (Cv.wk (.l [0, 1, 2] rfl)) (.fact (Has.okZ (Has.t (t := 1) rfl)) fun okz1 => .fact (Has.okZ (Has.t (t := 2) rfl)) fun okz2 => .seq fun _ k1 => .region (.box (.t rfl) rfl fun b1 => .box (.t rfl) rfl fun b2 => .box (.t rfl) rfl fun b3 => .alloc [isI 0, isI 0, nilS] zero24 (fun _ _ => ⟨⟨rfl, by decide, by decide⟩, ⟨rfl, by decide, by decide⟩, rfl, trivial⟩) rfl fun b4 => st (.as (.cI 0 rfl)) rfl (st (.as (.cI 0 rfl)) rfl (nl (.thn (k1 _ _ (.seq fun _ k2 => .region (st (.load (.t rfl) (i := 3) rfl ty24 rfl (Ss' := [_, _, _]) rfl) rfl (st (.load (.t rfl) (i := 2) rfl ty31 rfl (Ss' := [_, _]) rfl) rfl (st (.load (.t rfl) (i := 1) rfl ty31 rfl (Ss' := [_, _]) rfl) rfl (.callX (lll_with1 hx hK hl hx0 hpw hqw hp hmy) (List.Perm.refl _) (.cons (.t rfl) (.cons (.t rfl) (.cons (.t rfl) .nil))) rfl ?_)))))))))))
 rintro _ _ ⟨bw, gd, r, s, gl, gu, rfl, rfl⟩
 refine .memEq (M' := [grMK zc gd [nz 1, nz x], grMK zc s ([1].map nz), grM rowV gu [(s, [1])], grMK zc r ([0].map nz), grM rowV gl [(r, [0])], (some bw, cellM [isI 1, isGr gd 2, isGr gl 1, isGr gu 1, isB m, isWords ps, isB n, isWords qs, isI 0]), (some b4, cellM [isI 0, isI 0, nilS]), (some b3, cellM [isB n, isWords qs]), (some b2, cellM [isB m, isWords ps]), (some b1, cellM [isI 1, isI 1, SlK 2 zc xs])]) rfl (st (.mv (.t rfl)) rfl (st (.ext (.t rfl) rfl) rfl (st (.ext (.t rfl) rfl) rfl (st (.as (.t rfl)) rfl (st (.as (.t rfl)) rfl (nl (.thn (k2 _ _ (.cv (Cv.wk (.l [6, 7, 8, 9, 10] rfl)) (.seq fun _ k3 => .seq fun _ k4 => .region (st (.mv (.t rfl)) rfl (st (.neI (.t rfl) (.cI 0 rfl)) rfl (nl (.thn (k4 _ _ (.cond (.t rfl) (fun hc1 => ?_) (fun hc1 => ?_)))))))))))))))))
 ·have hc1 := BP.t hc1
  exact absurd rfl hc1
 ·have hc1 := BP.f hc1
  skip
  refine .skip (.thn (k3 _ _ (.seq fun _ k5 => .region (st (.mv (.t rfl)) rfl (.callX lll_run1 (List.Perm.refl _) (.cons (.t rfl) .nil) rfl ?_)))))
  rintro _ _ ⟨rfl, rfl⟩
  refine .memEq (M' := [grMK zc gd [nz 1, nz x], grMK zc s ([1].map nz), grM rowV gu [(s, [1])], grMK zc r ([0].map nz), grM rowV gl [(r, [0])], (some bw, cellM [isI 1, isGr gd 2, isGr gl 1, isGr gu 1, isB m, isWords ps, isB n, isWords qs, isI 0]), (some b4, cellM [isI 0, isI 0, nilS]), (some b3, cellM [isB n, isWords qs]), (some b2, cellM [isB m, isWords ps]), (some b1, cellM [isI 1, isI 1, SlK 2 zc xs])]) rfl (nl (.thn (k5 _ _ (.cv (Cv.wk (.l [6, 7, 8, 9] rfl)) (.seq fun _ k6 => .drh [true, true, true, true, true, true, true, true, true, true] (Ms := [_, _, _, _, _, _, _, _, _, _]) rfl (.s [] rfl rfl rfl (.o rfl (.mv (.t rfl))) (.s [27] rfl rfl rfl (.o rfl (.nilc (.t rfl))) (.s [28] rfl rfl rfl (.o rfl (.fieldAddr (.t rfl) fld226_0 ty3)) (.s [29] rfl rfl rfl (.o rfl (.load1 (.t rfl) (i := 5) rfl ty3 rfl)) (.s [] rfl rfl rfl (.o rfl (.mv (.t rfl))) (.s [31] rfl rfl rfl (.o rfl (.nilc (.t rfl))) (.s [32] rfl rfl rfl (.o rfl (.fieldAddr (.t rfl) fld226_0 ty3)) (.s [33] rfl rfl rfl (.o rfl (.load1 (.t rfl) (i := 5) rfl ty3 rfl)) (.s [30, 34] rfl rfl rfl (.o rfl (.build [isI 0, isI 0, nilS] pl24 zero24 (fun _ _ => ⟨⟨rfl, by decide, by decide⟩, ⟨rfl, by decide, by decide⟩, rfl, trivial⟩) (.cons (.t rfl) rfl rfl rfl (.cons (.t rfl) rfl rfl rfl .nil)) (Z'' := [_, _, _]) rfl)) (.als (n1 := 10) (ds := [11]) (zs := [[isI 0, isI 0, nilS]]) rfl (.cons rfl rfl zero24 (fun _ _ => ⟨⟨rfl, by decide, by decide⟩, ⟨rfl, by decide, by decide⟩, rfl, trivial⟩) .nil) (.cons_cons _ (.cons_cons _ (.cons_cons _ (.cons_cons _ (.cons_cons _ (.cons_cons _ (.cons_cons _ (.cons_cons _ (.cons_cons _ (.cons_cons _ .slnil)))))))))) (Cs := [_]) rfl (.fin (n := 10) mixed rfl (by kernel_rfl) (by kernel_rfl) (by kernel_rfl) (fun bs hbs => ?_)))))))))))))))))
  obtain ⟨b5, rfl⟩ := len1 hbs
  refine .memEq (M' := [_, _, _, _, _, _, _, _, _, _, _]) rfl (.cv (Cv.wk (.k 6 rfl (.k 7 rfl (.k 8 rfl (.k 9 rfl (.k 35 rfl (.cons (t := 11) (Has.op rfl) .nil))))))) (.store (.t rfl) (.t rfl) (i := 0) rfl ty24 rfl rfl (Ss' := [_, _, _]) rfl (M' := [(some _, cellM [_, _, _]), _, _, _, _, _, _, _, _, _, _]) rfl (nl (.thn (k6 _ _ (.seq fun _ k7 => .seq fun _ k8 => .cv (Cv.growF (Bool × List Nat) (i := 0) (o := 2) rfl rfl rfl) (.memEq (M' := [grMK zc Gr.nil [], _, _, _, _, _, _, _, _, _, _, _]) rfl (.region (st (.mv (.t rfl)) rfl (st (.nilc (.t rfl)) rfl (st (.fieldAddr (.t rfl) fld226_3 ty151) rfl (st (.load1 (.t rfl) (i := 7) rfl ty151 rfl) rfl (.cv (Cv.drop ((.cons_cons _ (.cons_cons _ (.cons _ (.cons_cons _ (.cons_cons _ (.cons _ (.cons _ (.cons_cons _ (.cons_cons _ (.cons _ (.cons _ (.cons _ .slnil)))))))))))))) (.cv (Cv.wk (.l [6, 7, 8, 9, 35, 11, 36, 37, 38, 39] rfl)) (st (.len sl151 (.t rfl)) rfl (st (.mv (.cI 0 rfl)) rfl (nl (.thn (k8 _ _ (.block (.loopF [6, 7, 8, 9, 11, 39, 40] (fun (z : Option (Gr (Bool × List Nat))) => match z with | none => [(41, isI 0)] | some _ => [(41, isI 1)]) (fun M => fun (z : Option (Gr (Bool × List Nat))) => match z with | none => [grMK zc Gr.nil [], (some b5, cellM [isI 1, isI 1, isGr (Gr.nil : Gr (Bool × List Nat)) 0]), grMK zc s ([1].map nz), grM rowV gu [(s, [1])], (some bw, cellM [isI 1, isGr gd 2, isGr gl 1, isGr gu 1, isB m, isWords ps, isB n, isWords qs, isI 0]), (some b4, cellM [isI 0, isI 0, nilS])] | some g => [grMK zc g [nz 1], (some b5, cellM [isI 1, isI 1, isGr g 1]), (some bw, cellM [isI 1, isGr gd 2, isGr gl 1, isGr gu 1, isB m, isWords ps, isB n, isWords qs, isI 0]), (some b4, cellM [isI 0, isI 0, nilS])]) (fun (z : Option (Gr (Bool × List Nat))) => match z with | none => 1 | some _ => 0) (none) (Cv.mem (.c 41 rfl ?_ (.l [6, 7, 8, 9, 11, 39, 40] rfl)) ?_) ?_)))))))))))))))))))))
  ·rfl
  ·rfl
  intro z K9 hK9
  rcases z with _ | g
  ·refine .cv (Cv.wk (.l [41, 6, 7, 8, 9, 11, 39, 40] rfl)) (.memEq (M' := [grMK zc Gr.nil [], (some b5, cellM [isI 1, isI 1, isGr (Gr.nil : Gr (Bool × List Nat)) 0]), grMK zc s ([1].map nz), grM rowV gu [(s, [1])], (some bw, cellM [isI 1, isGr gd 2, isGr gl 1, isGr gu 1, isB m, isWords ps, isB n, isWords qs, isI 0]), (some b4, cellM [isI 0, isI 0, nilS])]) rfl (.seq fun _ k10 => .region (st (.ltI (.t rfl) (.t rfl)) rfl (nl (.thn (k10 _ _ (.seq fun _ k11 => .cond (.t rfl) (fun hc2 => ?_) (fun hc2 => ?_))))))))
   ·have hc2 := BP.t hc2
    skip
    refine .skip (.thn (k11 _ _ (.seq fun _ k12 => .block (.seq fun _ k13 => .region (st (.ixGr sl151 ty22 (.t rfl) (.t rfl) ⟨by decide, by decide⟩) rfl (st (.loadGM (.t rfl) (i := 3) rfl ty22 rfl) rfl (st (.as (.t rfl)) rfl (nl (.thn (k13 _ _ (.region (st (.fieldAddr (.t rfl) fld24_2 ty22) rfl (st (.load1 (.t rfl) (i := 1) rfl ty22 rfl) rfl (st (.mv (.t rfl)) rfl (.cv (Cv.trans (Cv.freezeGK (t := 47) (i := 2) (ys := [nz 1]) zc_len rfl rfl rfl) (Cv.memEq (M' := [_, _, _, _, _]) rfl)) (.appendGK (fk := zc) (u := (false, [])) zc_len (by decide) (fun _ => inferInstance) sl22 ty31 zero31 (fun _ _ => ⟨rfl, nilM _ _, trivial⟩) by31 (.t rfl) (i := 0) rfl (.t rfl) (by decide) (by decide) rfl fun gr1 => .memEq (M' := [grMK _ _ _, _, _, _, _]) rfl (st (.fieldAddr (.t rfl) fld24_2 ty22) rfl (.store (.t rfl) (.t rfl) (i := 1) rfl ty22 rfl rfl (Ss' := [_, _, _]) rfl (M' := [_, (some _, cellM [_, _, _]), _, _, _]) rfl (nl (.bln (.thn (k12 _ _ (.region (st (.addI (.t rfl) (.cI 1 rfl) (by first | omega | assumption) (by first | omega | assumption)) rfl (st (.mv (.t rfl)) rfl (nl (.thn (hK9 (some gr1) _ _ ?_ (Cv.trans (Cv.drop ((.cons_cons _ (.cons_cons _ (.cons _ (.cons_cons _ (.cons_cons _ .slnil))))))) (Cv.mem (.c 41 rfl ?_ (.l [6, 7, 8, 9, 11, 39, 40] rfl)) ?_))))))))))))))))))))))))))))))
    ·show 0 < 1; omega
    ·rfl
    ·rfl
   ·have hc2 := BP.f hc2
    exfalso; omega
  ·refine .cv (Cv.wk (.l [41, 6, 7, 8, 9, 11, 39, 40] rfl)) (.memEq (M' := [grMK zc g [nz 1], (some b5, cellM [isI 1, isI 1, isGr g 1]), (some bw, cellM [isI 1, isGr gd 2, isGr gl 1, isGr gu 1, isB m, isWords ps, isB n, isWords qs, isI 0]), (some b4, cellM [isI 0, isI 0, nilS])]) rfl (.seq fun _ k14 => .region (st (.ltI (.t rfl) (.t rfl)) rfl (nl (.thn (k14 _ _ (.seq fun _ k15 => .cond (.t rfl) (fun hc3 => ?_) (fun hc3 => ?_))))))))
   ·have hc3 := BP.t hc3
    exfalso; omega
   ·have hc3 := BP.f hc3
    skip
    refine .exit (.the (.the (.blh (.thn (k7 _ _ (.seq fun _ k16 => .cv (Cv.freezeF (k := 2) (i := 0) (j := 0) (o := 2) rfl rfl rfl rfl (gr_lenK (ys := [nz 1]) zc_len) (gr_takeK (ys := [nz 1]) zc_len) (Ss' := [_, _, SlK 2 zc ([nz 1])]) rfl) (.memEq (M' := [(some _, cellM [_, _, SlK 2 zc ([nz 1])]), _, _]) rfl (.cv (Cv.wk (.l [6, 7, 8, 9, 11, 39, 40, 41, 42] rfl)) (.drh [true, true, false] (Ms := [_, _]) rfl (.s [] rfl rfl rfl (.o rfl (.load (.t rfl) (i := 0) rfl ty24 rfl (Ss' := [_, _, _]) rfl)) (.s [] rfl rfl rfl (.o rfl (.mv (.t rfl))) (.s [52] rfl rfl rfl (.o rfl (.nilc (.t rfl))) (.s [53] rfl rfl rfl (.o rfl (.fieldAddr (.t rfl) fld226_6 ty3)) (.s [54] rfl rfl rfl (.o rfl (.load1 (.t rfl) (i := 1) rfl ty3 rfl)) (.mid (.cons_cons _ (.cons_cons _ (.cons _ .slnil))) (.st [51] rfl rfl (by kernel_rfl) (by kernel_rfl) (StS.store (.t rfl) (.t rfl) (i := 2) rfl ty24 rfl rfl (Ss' := [_, _, _]) rfl (M' := [_, _, (some _, cellM [_, _, _])]) rfl) (.cons_cons _ (.cons_cons _ (.cons _ .slnil))) (.fin (n := 6) mixed rfl (by kernel_rfl) (by kernel_rfl) (by kernel_rfl) (.cv (Cv.wk (.l [6, 7, 8, 55] rfl)) (st (.as (.t rfl)) rfl (st (.as (.cI 0 rfl)) rfl (nl (.thn (k16 _ _ (.ret (rtXND (.cons _ (.cons _ (.cons _ .slnil))) (.inl rfl) Tryz.results124 rfl rfl (.cell rfl (i := 2) rfl ty24 rfl rfl (.tmp (.t rfl) (.tmp (.t rfl) .nil))) (rfl))))))))))))))))))))))))))
end Go.Proofs.YthkdmhaafanjlaaGreat
namespace Go.Proofs.YthkdmhaafanjlaaGreat
open Go.En Go.RowKit
set_option maxRecDepth 10000
set_option maxHeartbeats 4000000
open Go.Nt
open Go.Pz
open Go.Mz
open Go.Hn
open Go.Hp
open Go.Dt
theorem gram_Reduce1 {m n : Bool} {ps qs : List Nat} (hpw : (List.length (words (val ps))) ≤ 100000000) (hqw : (List.length (words (val qs))) ≤ 100000000) (hmy : (decide (0 < sgn (zv n qs)) && decide (0 < cmpZ (zv m ps * 4) (zv n qs)) && decide (cmpZ (zv m ps) (zv n qs) < 0)) = true) : CtrX Tryz.prog 50 [isM 2 1 ([1, 1].map nz), Flat [isB m, isWords ps], Flat [isB n, isWords qs]] ([]) (fun S M => S = isTup [isMz 2 1 [0, 1], isMz 2 2 gm11U, isI 0, isI 0]) := by
 refine CtrX.intro Tryz.func50 rfl (by kernel_rfl) Tryz.ntmps50 rfl fun w0 F0 => .cv (Cv.wk (.l [0, 1, 2] rfl)) (.fact (Has.okZ (Has.t (t := 1) rfl)) fun okz1 => .fact (Has.okZ (Has.t (t := 2) rfl)) fun okz2 => ?_)
 have hb := gm11_b
 have hb1 : Bd [1] 1 := bd64 (by decide)
 have hb0 : Bd [0] 1 := bd64 (by decide)
 have hb10 : Bd [1, 0] 1 := bd64 (by decide)
 obtain ⟨Ul, hUl⟩ : ∃ U, U = uL 2 1 [1, 1] := ⟨_, rfl⟩
 have uLl : Ul.length = 2 * 2 := by rw [hUl]; exact uL_len hb
 have uLb : Bd Ul 20 := by rw [hUl]; exact (uL_bd (R := 2) (C := 1) hb).mono (by decide)
 obtain ⟨U0, hU0⟩ : ∃ U, U = tab ((1 - 0) * 2) 2 fun i k => cf Ul ((0 + i) * 2 + k) := ⟨_, rfl⟩
 obtain ⟨U1, hU1⟩ : ∃ U, U = tab ((2 - 1) * 2) 2 fun i k => cf Ul ((1 + i) * 2 + k) := ⟨_, rfl⟩
 have hU0l : U0.length = 1 * 2 := by rw [hU0]; exact tab_len _ _ _
 have hU1l : U1.length = 1 * 2 := by rw [hU1]; exact tab_len _ _ _
 have hU0b : Bd U0 20 := by rw [hU0]; exact Bd_tab fun i k => uLb _
 have hU1b : Bd U1 20 := by rw [hU1]; exact Bd_tab fun i k => uLb _
 obtain ⟨V0, hV0⟩ : ∃ V, V = tab (1 * 2) 2 fun i k => dotS (fun j => cf [1] (i * 1 + j)) (fun j => cf U0 (j * 2 + k)) 1 := ⟨_, rfl⟩
 have hV0l : V0.length = 1 * 2 := by rw [hV0]; exact tab_len _ _ _
 have hV0b : Bd V0 22 := by rw [hV0]; exact Bd_tab fun i k => dotS_nw (K := 1) (L := 20) (fun _ => hb1 _) (fun _ => hU0b _) 1
 obtain ⟨W, hW⟩ : ∃ W, W = stkL 1 1 2 U1 V0 := ⟨_, rfl⟩
 have hWl : W.length = 4 := by rw [hW]; exact tab_len _ _ _
 have hWb : Bd W 22 := by rw [hW]; exact Bd_tab fun i k => (by split; exact Nat.le_trans (hU1b _) (by decide); exact hV0b _)
 refine .seq fun _ k1 => .region (.box (.t rfl) rfl fun b1 => .box (.t rfl) rfl fun b2 => .box (.t rfl) rfl fun b3 => .alloc [isI 0, isI 0, nilS] zero24 (fun _ _ => ⟨⟨rfl, by decide, by decide⟩, ⟨rfl, by decide, by decide⟩, rfl, trivial⟩) rfl fun b4 => .alloc [isI 0, isI 0, nilS] zero24 (fun _ _ => ⟨⟨rfl, by decide, by decide⟩, ⟨rfl, by decide, by decide⟩, rfl, trivial⟩) rfl fun b5 => st (.as (.cI 0 rfl)) rfl (st (.as (.cI 0 rfl)) rfl (nl (.thn (k1 _ _ (.seq fun _ k2 => .region (st (.load (.t rfl) (i := 4) rfl ty24 rfl (Ss' := [_, _, _]) rfl) rfl ?_)))))))
 refine st (.eq (.call (hnf_Hermite (R := 2) (C := 1) (K := 1) (xs := [1, 1].map nz) (by rw [vals_nz]; exact hb) (by decide) (by decide) (by decide) rfl) (.cons (.t rfl) .nil)) ((show _ = isTup [isMz 2 1 [1, 0], isMz 2 2 Ul, isI 0] from by rw [vals_nz, hUl]; exact congrArg (fun z => isTup [isMz 2 1 z, isMz 2 2 (uL 2 1 [1, 1]), isI 0]) hL11))) rfl ?_
 refine st (.mv (.t rfl)) rfl (st (.ext (.t rfl) rfl) rfl (st (.ext (.t rfl) rfl) rfl (st (.ext (.t rfl) rfl) rfl (.alloc [isI 0, isI 0, nilS] zero24 (fun _ _ => ⟨⟨rfl, by decide, by decide⟩, ⟨rfl, by decide, by decide⟩, rfl, trivial⟩) rfl fun b6 => .alloc [isI 0, isI 0, nilS] zero24 (fun _ _ => ⟨⟨rfl, by decide, by decide⟩, ⟨rfl, by decide, by decide⟩, rfl, trivial⟩) rfl fun b7 => .store (.t rfl) (.t rfl) (i := 1) rfl ty24 rfl rfl (Ss' := [_, _, _]) rfl (M' := [_, (some _, cellM [_, _, _]), _, _, _, _, _]) rfl (.store (.t rfl) (.t rfl) (i := 0) rfl ty24 rfl rfl (Ss' := [_, _, _]) rfl (M' := [(some _, cellM [_, _, _]), _, _, _, _, _, _]) rfl (st (.as (.t rfl)) rfl (nl (.thn (k2 _ _ (.cv (Cv.wk (.l [4, 5, 6, 7, 8, 9, 10, 11, 12] rfl)) (.seq fun _ k3 => .seq fun _ k4 => .region (st (.mv (.t rfl)) rfl (st (.neI (.t rfl) (.cI 0 rfl)) rfl (nl (.thn (k4 _ _ (.cond (.t rfl) (fun hc1 => ?_) (fun hc1 => ?_))))))))))))))))))
 ·have hc1 := BP.t hc1
  exfalso; omega
 ·have hc1 := BP.f hc1
  skip
  refine .skip (.thn (k3 _ _ (.seq fun _ k5 => .region (st (.load (.t rfl) (i := 1) rfl ty24 rfl (Ss' := [_, _, _]) rfl) rfl (st (.eq (.call (hnf_Pivots (R := 2) (C := 1) (K := 1) (xs := [1, 0].map nz) (by rw [vals_nz]; exact hb10) (by decide) (by decide) (by decide) rfl) (.cons (.t rfl) .nil)) ((show _ = SlM isI [0] from by rw [vals_nz, gm11_p]))) rfl ?_)))))
  refine st (.len sl108 (.t rfl)) rfl (st (.as (.t rfl)) rfl (nl (.thn (k5 _ _ (.cv (Cv.wk (.l [4, 5, 6, 7, 8, 9, 10, 11, 12, 13] rfl)) (.seq fun _ k6 => .region (st (.load (.t rfl) (i := 1) rfl ty24 rfl (Ss' := [_, _, _]) rfl) rfl ?_)))))))
  refine st (.mv (.t rfl)) rfl (st (.eq (.call (zmat_Rows (R := 2) (C := 1) (lo := 0) (hi := 1) (K := 1) (xs := [1, 0].map nz) (by rw [vals_nz]; exact hb10) (by decide) (by decide) (by decide) rfl (by decide) (by decide)) (.cons (.t rfl) (.cons (.cI 0 rfl) (.cons (.t rfl) .nil)))) ((show _ = isTup [isMz 1 1 [1], isI 0] from by rw [vals_nz] <;> rfl))) rfl ?_)
  refine st (.ext (.t rfl) rfl) rfl (st (.ext (.t rfl) rfl) rfl (st (.call gram_must (.cons (.t rfl) (.cons (.t rfl) .nil))) rfl (.alloc [isI 0, isI 0, nilS] zero24 (fun _ _ => ⟨⟨rfl, by decide, by decide⟩, ⟨rfl, by decide, by decide⟩, rfl, trivial⟩) rfl fun b8 => .store (.t rfl) (.t rfl) (i := 0) rfl ty24 rfl rfl (Ss' := [_, _, _]) rfl (M' := [(some _, cellM [_, _, _]), _, _, _, _, _, _, _]) rfl (nl (.thn (k6 _ _ (.cv (Cv.wk (.l [4, 5, 6, 7, 8, 9, 10, 11, 12, 13, 14] rfl)) (.seq fun _ k7 => .region (st (.load (.t rfl) (i := 0) rfl ty24 rfl (Ss' := [_, _, _]) rfl) rfl ?_)))))))))
  refine st (.eq (.call (gram_Of (R := 1) (C := 1) (K := 1) (xs := [1].map nz) (by rw [vals_nz]; exact hb1) (by decide) (by decide) (by decide) rfl) (.cons (.t rfl) .nil)) ((show _ = isTup [isMz 1 1 [1], isI 0] from by rw [vals_nz] <;> rfl))) rfl ?_
  refine st (.ext (.t rfl) rfl) rfl (st (.ext (.t rfl) rfl) rfl (st (.call gram_must (.cons (.t rfl) (.cons (.t rfl) .nil))) rfl (.alloc [isI 0, isI 0, nilS] zero24 (fun _ _ => ⟨⟨rfl, by decide, by decide⟩, ⟨rfl, by decide, by decide⟩, rfl, trivial⟩) rfl fun b9 => .store (.t rfl) (.t rfl) (i := 0) rfl ty24 rfl rfl (Ss' := [_, _, _]) rfl (M' := [(some _, cellM [_, _, _]), _, _, _, _, _, _, _, _]) rfl (nl (.thn (k7 _ _ (.cv (Cv.wk (.l [4, 5, 6, 7, 8, 9, 10, 11, 12, 13, 14, 15] rfl)) (.seq fun _ k8 => .region (st (.load (.t rfl) (i := 0) rfl ty24 rfl (Ss' := [_, _, _]) rfl) rfl (st (.load (.t rfl) (i := 7) rfl ty31 rfl (Ss' := [_, _]) rfl) rfl (st (.load (.t rfl) (i := 6) rfl ty31 rfl (Ss' := [_, _]) rfl) rfl (st (.call ((lll_Reduce1X (K := 1) (xs := [1].map nz) (x := 1) (by rw [vals_nz]; exact hb1) (by decide) rfl (by rw [vals_nz]; rfl) hpw hqw (by decide) hmy).toCtr fun S' M' hh => hh) (.cons (.t rfl) (.cons (.t rfl) (.cons (.t rfl) .nil)))) rfl ?_))))))))))))
  refine st (.mv (.t rfl)) rfl (st (.ext (.t rfl) rfl) rfl (st (.ext (.t rfl) rfl) rfl (st (.ext (.t rfl) rfl) rfl (.alloc [isI 0, isI 0, nilS] zero24 (fun _ _ => ⟨⟨rfl, by decide, by decide⟩, ⟨rfl, by decide, by decide⟩, rfl, trivial⟩) rfl fun b10 => .store (.t rfl) (.t rfl) (i := 0) rfl ty24 rfl rfl (Ss' := [_, _, _]) rfl (M' := [(some _, cellM [_, _, _]), _, _, _, _, _, _, _, _, _]) rfl (st (.as (.t rfl)) rfl (st (.as (.t rfl)) rfl (nl (.thn (k8 _ _ (.cv (Cv.wk (.l [6, 7, 8, 9, 10, 11, 12, 13, 14, 16, 17] rfl)) (.seq fun _ k9 => .seq fun _ k10 => .region (st (.mv (.t rfl)) rfl (st (.neI (.t rfl) (.cI 0 rfl)) rfl (nl (.thn (k10 _ _ (.cond (.t rfl) (fun hc2 => ?_) (fun hc2 => ?_))))))))))))))))))
  ·have hc2 := BP.t hc2
   exfalso; omega
  ·have hc2 := BP.f hc2
   skip
   refine .skip (.thn (k9 _ _ (.seq fun _ k11 => .region (st (.load (.t rfl) (i := 0) rfl ty24 rfl (Ss' := [_, _, _]) rfl) rfl ?_))))
   refine st (.load (.t rfl) (i := 2) rfl ty24 rfl (Ss' := [_, _, _]) rfl) rfl (st (.eq (.call (zmat_Mul (R := 1) (C := 1) (D := 1) (K := 1) (L := 1) (xs := [1].map nz) (ys := [1].map nz) (by rw [vals_nz]; exact hb1) (by rw [vals_nz]; exact hb1) (by decide) (by decide) (by decide) (by decide) rfl rfl) (.cons (.t rfl) (.cons (.t rfl) .nil))) ((show _ = isTup [isMz 1 1 [1], isI 0] from by rw [vals_nz] <;> rfl))) rfl ?_)
   refine st (.ext (.t rfl) rfl) rfl (st (.ext (.t rfl) rfl) rfl (st (.call gram_must (.cons (.t rfl) (.cons (.t rfl) .nil))) rfl (.alloc [isI 0, isI 0, nilS] zero24 (fun _ _ => ⟨⟨rfl, by decide, by decide⟩, ⟨rfl, by decide, by decide⟩, rfl, trivial⟩) rfl fun b11 => .store (.t rfl) (.t rfl) (i := 0) rfl ty24 rfl rfl (Ss' := [_, _, _]) rfl (M' := [(some _, cellM [_, _, _]), _, _, _, _, _, _, _, _, _, _]) rfl (nl (.thn (k11 _ _ (.cv (Cv.wk (.l [6, 7, 8, 9, 10, 11, 13, 16, 17, 18] rfl)) (.seq fun _ k12 => .drh [true, true, true, true, true, true, true, true, true, true, true] (Ms := [_, _, _, _, _, _, _, _, _, _, _]) rfl (.s [] rfl rfl rfl (.o rfl (.load (.t rfl) (i := 1) rfl ty24 rfl (Ss' := [_, _, _]) rfl)) (.s [] rfl rfl rfl (.o rfl (.load (.t rfl) (i := 4) rfl ty24 rfl (Ss' := [_, _, _]) rfl)) (.s [] rfl rfl rfl (.o rfl (.mv (.t rfl))) ?_)))))))))))
   refine .s [67, 68] rfl rfl rfl (.o rfl (.eq (.call (zmat_Rows (R := 2) (C := 2) (lo := 0) (hi := 1) (K := 20) (xs := Ul.map nz) (by rw [vals_nz]; exact uLb) (by decide) (by decide) (by decide) (by rw [List.length_map]; exact uLl) (by decide) (by decide)) (.cons (.t rfl) (.cons (.cI 0 rfl) (.cons (.t rfl) .nil)))) ((show _ = isTup [isMz 1 2 U0, isI 0] from by rw [vals_nz, hU0] <;> rfl)))) ?_
   refine .s [69] rfl rfl rfl (.o rfl (.ext (.t rfl) rfl)) (.s [69] rfl rfl rfl (.o rfl (.ext (.t rfl) rfl)) (.s [70, 71] rfl rfl rfl (.o rfl (.call gram_must (.cons (.t rfl) (.cons (.t rfl) .nil)))) ?_))
   refine .s [66, 72] rfl rfl rfl (.o rfl (.eq (.call (zmat_Mul (R := 1) (C := 1) (D := 2) (K := 1) (L := 20) (xs := [1].map nz) (ys := U0.map nz) (by rw [vals_nz]; exact hb1) (by rw [vals_nz]; exact hU0b) (by decide) (by decide) (by decide) (by decide) rfl (by rw [List.length_map]; exact hU0l)) (.cons (.t rfl) (.cons (.t rfl) .nil))) ((show _ = isTup [isMz 1 2 V0, isI 0] from by rw [vals_nz, vals_nz, hV0] <;> rfl)))) ?_
   refine .s [73] rfl rfl rfl (.o rfl (.ext (.t rfl) rfl)) (.s [73] rfl rfl rfl (.o rfl (.ext (.t rfl) rfl)) (.s [74, 75] rfl rfl rfl (.o rfl (.call gram_must (.cons (.t rfl) (.cons (.t rfl) .nil)))) (.als (n1 := 12) (ds := [19]) (zs := [[isI 0, isI 0, nilS]]) rfl (.cons rfl rfl zero24 (fun _ _ => ⟨⟨rfl, by decide, by decide⟩, ⟨rfl, by decide, by decide⟩, rfl, trivial⟩) .nil) (.cons_cons _ (.cons_cons _ (.cons_cons _ (.cons_cons _ (.cons_cons _ (.cons_cons _ (.cons_cons _ (.cons_cons _ (.cons_cons _ (.cons_cons _ (.cons_cons _ .slnil))))))))))) (Cs := [_]) rfl (.fin (n := 12) mixed rfl (by kernel_rfl) (by kernel_rfl) (by kernel_rfl) (fun bs hbs => ?_)))))
   obtain ⟨b12, rfl⟩ := len1 hbs
   refine .memEq (M' := [_, _, _, _, _, _, _, _, _, _, _, _]) rfl (.cv (Cv.wk (.k 6 rfl (.k 7 rfl (.k 8 rfl (.k 9 rfl (.k 10 rfl (.k 11 rfl (.k 13 rfl (.k 17 rfl (.k 18 rfl (.k 76 rfl (.cons (t := 19) (Has.op rfl) .nil)))))))))))) (.store (.t rfl) (.t rfl) (i := 0) rfl ty24 rfl rfl (Ss' := [_, _, _]) rfl (M' := [(some _, cellM [_, _, _]), _, _, _, _, _, _, _, _, _, _, _]) rfl (nl (.thn (k12 _ _ (.seq fun _ k13 => .region (st (.load (.t rfl) (i := 6) rfl ty24 rfl (Ss' := [_, _, _]) rfl) rfl (st (.mv (.t rfl)) rfl (st (.fieldAddr (.t rfl) fld24_0 ty3) rfl ?_)))))))))
   refine st (.load1 (.t rfl) (i := 6) rfl ty3 rfl) rfl (st (.eq (.call (zmat_Rows (R := 2) (C := 1) (lo := 1) (hi := 2) (K := 1) (xs := [1, 0].map nz) (by rw [vals_nz]; exact hb10) (by decide) (by decide) (by decide) rfl (by decide) (by decide)) (.cons (.t rfl) (.cons (.t rfl) (.cons (.t rfl) .nil)))) ((show _ = isTup [isMz 1 1 [0], isI 0] from by rw [vals_nz] <;> rfl))) rfl ?_)
   refine st (.ext (.t rfl) rfl) rfl (st (.ext (.t rfl) rfl) rfl (st (.call gram_must (.cons (.t rfl) (.cons (.t rfl) .nil))) rfl (.alloc [isI 0, isI 0, nilS] zero24 (fun _ _ => ⟨⟨rfl, by decide, by decide⟩, ⟨rfl, by decide, by decide⟩, rfl, trivial⟩) rfl fun b13 => .store (.t rfl) (.t rfl) (i := 0) rfl ty24 rfl rfl (Ss' := [_, _, _]) rfl (M' := [(some _, cellM [_, _, _]), _, _, _, _, _, _, _, _, _, _, _, _]) rfl (nl (.thn (k13 _ _ (.cv (Cv.wk (.l [6, 7, 8, 9, 11, 13, 17, 18, 19, 20] rfl)) (.seq fun _ k14 => .region (st (.load (.t rfl) (i := 6) rfl ty24 rfl (Ss' := [_, _, _]) rfl) rfl (st (.mv (.t rfl)) rfl (st (.fieldAddr (.t rfl) fld24_0 ty3) rfl ?_)))))))))))
   refine st (.load1 (.t rfl) (i := 6) rfl ty3 rfl) rfl (st (.eq (.call (zmat_Rows (R := 2) (C := 2) (lo := 1) (hi := 2) (K := 20) (xs := Ul.map nz) (by rw [vals_nz]; exact uLb) (by decide) (by decide) (by decide) (by rw [List.length_map]; exact uLl) (by decide) (by decide)) (.cons (.t rfl) (.cons (.t rfl) (.cons (.t rfl) .nil)))) ((show _ = isTup [isMz 1 2 U1, isI 0] from by rw [vals_nz, hU1] <;> rfl))) rfl ?_)
   refine st (.ext (.t rfl) rfl) rfl (st (.ext (.t rfl) rfl) rfl (st (.call gram_must (.cons (.t rfl) (.cons (.t rfl) .nil))) rfl (.alloc [isI 0, isI 0, nilS] zero24 (fun _ _ => ⟨⟨rfl, by decide, by decide⟩, ⟨rfl, by decide, by decide⟩, rfl, trivial⟩) rfl fun b14 => .store (.t rfl) (.t rfl) (i := 0) rfl ty24 rfl rfl (Ss' := [_, _, _]) rfl (M' := [(some _, cellM [_, _, _]), _, _, _, _, _, _, _, _, _, _, _, _, _]) rfl (nl (.thn (k14 _ _ (.cv (Cv.wk (.l [6, 7, 8, 9, 17, 18, 19, 20, 21] rfl)) (.seq fun _ k15 => .drh [true, true, true, true, true, true, true, true, true, false, false, true, true, true] (Ms := [_, _, _, _, _, _, _, _, _, _, _, _]) rfl (.s [] rfl rfl rfl (.o rfl (.load (.t rfl) (i := 1) rfl ty24 rfl (Ss' := [_, _, _]) rfl)) (.s [] rfl rfl rfl (.o rfl (.load (.t rfl) (i := 3) rfl ty24 rfl (Ss' := [_, _, _]) rfl)) ?_))))))))))
   refine .s [93, 94] rfl rfl rfl (.o rfl (.eq (.call (zmat_Stack (R := 1) (R' := 1) (C := 1) (K := 1) (xs := [0].map nz) (ys := [1].map nz) (by rw [vals_nz]; exact hb0) (by rw [vals_nz]; exact hb1) (by decide) (by decide) (by decide) rfl rfl) (.cons (.t rfl) (.cons (.t rfl) .nil))) ((show _ = isTup [isMz 2 1 [0, 1], isI 0] from by rw [vals_nz, vals_nz] <;> rfl)))) ?_
   refine .s [95] rfl rfl rfl (.o rfl (.ext (.t rfl) rfl)) (.s [95] rfl rfl rfl (.o rfl (.ext (.t rfl) rfl)) (.s [96, 97] rfl rfl rfl (.o rfl (.call gram_must (.cons (.t rfl) (.cons (.t rfl) .nil)))) (.s [] rfl rfl rfl (.o rfl (.load (.t rfl) (i := 0) rfl ty24 rfl (Ss' := [_, _, _]) rfl)) (.s [] rfl rfl rfl (.o rfl (.load (.t rfl) (i := 2) rfl ty24 rfl (Ss' := [_, _, _]) rfl)) ?_))))
   refine .s [99, 100] rfl rfl rfl (.o rfl (.eq (.call (zmat_Stack (R := 1) (R' := 1) (C := 2) (K := 22) (xs := U1.map nz) (ys := V0.map nz) (by rw [vals_nz]; exact hU1b.mono (by decide)) (by rw [vals_nz]; exact hV0b) (by decide) (by decide) (by decide) (by rw [List.length_map]; exact hU1l) (by rw [List.length_map]; exact hV0l)) (.cons (.t rfl) (.cons (.t rfl) .nil))) ((show _ = isTup [isMz 2 2 W, isI 0] from by rw [vals_nz, vals_nz, hW] <;> rfl)))) ?_
   refine .s [101] rfl rfl rfl (.o rfl (.ext (.t rfl) rfl)) (.s [101] rfl rfl rfl (.o rfl (.ext (.t rfl) rfl)) (.s [102, 103] rfl rfl rfl (.o rfl (.call gram_must (.cons (.t rfl) (.cons (.t rfl) .nil)))) (.s [] rfl rfl rfl (.o rfl (.mv (.t rfl))) (.mid (.cons_cons _ (.cons_cons _ (.cons_cons _ (.cons_cons _ (.cons_cons _ (.cons_cons _ (.cons_cons _ (.cons_cons _ (.cons_cons _ (.cons _ (.cons _ (.cons_cons _ (.cons_cons _ (.cons_cons _ .slnil)))))))))))))) (.st [98] rfl rfl (by kernel_rfl) (by kernel_rfl) (StS.store (.t rfl) (.t rfl) (i := 10) rfl ty24 rfl rfl (Ss' := [_, _, _]) rfl (M' := [_, _, _, _, _, _, _, _, _, _, (some _, cellM [_, _, _]), _, _, _]) rfl) (.cons_cons _ (.cons_cons _ (.cons_cons _ (.cons_cons _ (.cons_cons _ (.cons_cons _ (.cons_cons _ (.cons_cons _ (.cons_cons _ (.cons _ (.cons _ (.cons_cons _ (.cons_cons _ (.cons_cons _ .slnil)))))))))))))) (.st [104] rfl rfl (by kernel_rfl) (by kernel_rfl) (StS.store (.t rfl) (.t rfl) (i := 9) rfl ty24 rfl rfl (Ss' := [_, _, _]) rfl (M' := [_, _, _, _, _, _, _, _, _, (some _, cellM [_, _, _]), _, _, _, _]) rfl) (.cons_cons _ (.cons_cons _ (.cons_cons _ (.cons_cons _ (.cons_cons _ (.cons_cons _ (.cons_cons _ (.cons_cons _ (.cons_cons _ (.cons _ (.cons _ (.cons_cons _ (.cons_cons _ (.cons_cons _ .slnil)))))))))))))) (.fin (n := 15) mixed rfl (by kernel_rfl) (by kernel_rfl) (by kernel_rfl) (.cv (Cv.wk (.l [6, 7, 8, 9, 105] rfl)) (st (.as (.t rfl)) rfl (st (.as (.cI 0 rfl)) rfl (nl (.thn (k15 _ _ (.ret (rtXND (.cons _ (.cons _ (.cons _ (.cons _ (.cons _ (.cons _ (.cons _ (.cons _ (.cons _ (.cons _ (.cons _ (.cons _ (.cons _ (.cons _ .slnil)))))))))))))) (.inl rfl) Tryz.results50 rfl rfl (.cell rfl (i := 10) rfl ty24 rfl rfl (.cell rfl (i := 9) rfl ty24 rfl rfl (.tmp (.t rfl) (.tmp (.t rfl) .nil)))) ((by rw [hW, hU1, hV0, hU0, hUl] <;> rfl)))))))))))))))))
theorem gm11_m : Bd [0, 1] 1 := bd64 (by decide)
theorem law20_awake  : Ctr Tryz.prog 44 [] (isB true) := by
 refine Ctr.intro Tryz.func44 rfl (by kernel_rfl) Tryz.ntmps44 rfl fun w0 F0 => .cv (Cv.wk .nil) ?_
 have h3 : (List.length (words (3 : Int).natAbs)) ≤ 1 := nw_small' (by decide)
 have h4 : (List.length (words (4 : Int).natAbs)) ≤ 1 := nw_small' (by decide)
 have h0 : (List.length (words (0 : Int).natAbs)) ≤ 1 := nw_small' (by decide)
 have h1 : (List.length (words (1 : Int).natAbs)) ≤ 1 := nw_small' (by decide)
 refine .seq fun _ k1 => .region (st (.as (.cB false)) rfl (nl (.thn (k1 _ _ (.seq fun _ k2 => .region (st (.buildS [isI 0, isI 0] sl174 ty2 zero2 (fun _ _ => ⟨⟨rfl, by decide, by decide⟩, ⟨rfl, by decide, by decide⟩, trivial⟩) rfl rfl (.cons (.cI 1 rfl) rfl rfl rfl (.cons (.cI 1 rfl) rfl rfl rfl .nil)) rfl (S := SlM isI [_, _]) rfl) rfl (st (.eq (.call (zmat_Of (R := 2) (C := 1) (l := [1, 1]) (by decide) (by decide) rfl (by decide)) (.cons (.cI 2 rfl) (.cons (.cI 1 rfl) (.cons (.t rfl) .nil)))) ((show _ = isTup [isMz 2 1 [1, 1], isI 0] from by rw [gm11_t]))) rfl (st (.mv (.t rfl)) rfl (st (.ext (.t rfl) rfl) rfl (st (.ext (.t rfl) rfl) rfl (.alloc [isI 0, isI 0, nilS] zero24 (fun _ _ => ⟨⟨rfl, by decide, by decide⟩, ⟨rfl, by decide, by decide⟩, rfl, trivial⟩) rfl fun b1 => .store (.t rfl) (.t rfl) (i := 0) rfl ty24 rfl rfl (Ss' := [_, _, _]) rfl (M' := [(some _, cellM [_, _, _])]) rfl (st (.as (.t rfl)) rfl (nl (.thn (k2 _ _ (.cv (Cv.wk (.l [0, 1] rfl)) (.seq fun _ k3 => .drh [true] (Ms := [_]) rfl (.s [] rfl rfl rfl (.o rfl (.load (.t rfl) (i := 0) rfl ty24 rfl (Ss' := [_, _, _]) rfl)) (.s [] rfl rfl rfl (.o rfl (.call (zint_Of) (.cons (.cI 3 rfl) .nil))) (.s [] rfl rfl rfl (.o rfl (.call (zint_Of) (.cons (.cI 4 rfl) .nil))) (.s [13, 14, 15] rfl rfl rfl (.o rfl (.call ((gram_Reduce1 (by rw [val_words]; omega) (by rw [val_words]; omega) (by simp only [zv_nf]; decide)).toCtr fun S' M' hh => hh) (.cons (.t rfl) (.cons (.t rfl) (.cons (.t rfl) .nil))))) ?_)))))))))))))))))))))
 refine .s [16] rfl rfl rfl (.o rfl (.mv (.t rfl))) (.s [12] rfl rfl rfl (.o rfl (.ext (.t rfl) rfl)) (.s [12] rfl rfl rfl (.o rfl (.ext (.t rfl) rfl)) (.s [12] rfl rfl rfl (.o rfl (.ext (.t rfl) rfl)) (.s [12] rfl rfl rfl (.o rfl (.ext (.t rfl) rfl)) (.als2 (n1 := 11) (ds := [3, 4]) (zs := [[isI 0, isI 0, nilS], [isI 0, isI 0, nilS]]) rfl (.cons rfl rfl zero24 (fun _ _ => ⟨⟨rfl, by decide, by decide⟩, ⟨rfl, by decide, by decide⟩, rfl, trivial⟩) (.cons rfl rfl zero24 (fun _ _ => ⟨⟨rfl, by decide, by decide⟩, ⟨rfl, by decide, by decide⟩, rfl, trivial⟩) .nil)) (.cons_cons _ .slnil) (Cs := [_, _]) rfl (DrN2.new [17] 0 (Ss' := [_, _, _]) (Cs' := [cellM [_, _, _], _]) rfl (by kernel_rfl) (by kernel_rfl) rfl rfl rfl (by kernel_rfl) rfl (.t rfl) ty24 rfl rfl rfl rfl (DrN2.new [18] 1 (Ss' := [_, _, _]) (Cs' := [_, cellM [_, _, _]]) rfl (by kernel_rfl) (by kernel_rfl) rfl rfl rfl (by kernel_rfl) rfl (.t rfl) ty24 rfl rfl rfl rfl (DrN2.asg [19] rfl rfl (by kernel_rfl) (by kernel_rfl) (by kernel_rfl) (.o rfl (.as (.t rfl))) (.cons_cons _ .slnil) (DrN2.fin (n := 14) mixed rfl (by kernel_rfl) (by kernel_rfl) (by kernel_rfl) (fun bs hbs => ?_))))))))))
 obtain ⟨b2, b3, rfl⟩ := len2 hbs
 refine .memEq (M' := [_, _, _]) rfl (.cv (Cv.wk (.k 0 rfl (.k 20 rfl (.cons (t := 3) (Has.op rfl) (.cons (t := 4) (Has.op rfl) .nil))))) (st (.as (.t rfl)) rfl (nl (.thn (k3 _ _ (.seq fun _ k4 => .region (st (.mv (.t rfl)) rfl (st (.eqI (.t rfl) (.cI 0 rfl)) rfl (st (.mv (.t rfl)) rfl ?_)))))))))
 refine stT rfl rfl (fun hg => have hg' := BP.t hg; OK1.fieldAddr (.t rfl) fld24_0 ty3) rfl ?_
 refine stT rfl rfl (fun hg => have hg' := BP.t hg; OK1.load1 (Has.g rfl hg) (i := 0) rfl ty3 rfl) rfl ?_
 refine stT rfl rfl (fun hg => have hg' := BP.t hg; OK1.eqI (Has.g rfl hg) (.cI 2 rfl)) rfl ?_
 refine st (.pickAnd (.t rfl) (fun h => Has.g rfl h)) rfl (st (.mv (.t rfl)) rfl ?_)
 refine stT rfl rfl (fun hg => have hg' := BP.t hg; OK1.fieldAddr (.t rfl) fld24_0 ty3) rfl ?_
 refine stT rfl rfl (fun hg => have hg' := BP.t hg; OK1.load1 (Has.g rfl hg) (i := 1) rfl ty3 rfl) rfl ?_
 refine stT rfl rfl (fun hg => have hg' := BP.t hg; OK1.eqI (Has.g rfl hg) (.cI 2 rfl)) rfl ?_
 refine st (.pickAnd (.t rfl) (fun h => Has.g rfl h)) rfl (st (.mv (.t rfl)) rfl ?_)
 refine stT rfl rfl (fun hg => have hg' := BP.t hg; OK1.load (.t rfl) (i := 0) rfl ty24 rfl (Ss' := [_, _, _]) rfl) rfl ?_
 refine stT rfl rfl (fun hg => have hg' := BP.t hg; OK1.eq (.call (zmat_At (R := 2) (C := 1) (i := 0) (k := 0) (K := 1) (xs := [0, 1].map nz) (by rw [vals_nz]; exact gm11_m) (by decide) (by decide) (by decide) rfl (by decide) (by decide)) (.cons (Has.g rfl hg) (.cons (.cI 0 rfl) (.cons (.cI 0 rfl) .nil)))) ((show _ = isZ 0 from isZ_eq (by rw [vals_nz]; rfl)))) rfl ?_
 refine stT rfl rfl (fun hg => have hg' := BP.t hg; OK1.eq (.call (zint_Sign (by rw [val_words]; omega)) (.cons (Has.g rfl hg) .nil)) ((show isI _ = isI 0 from isI_eq (by rw [zv_nf]; rfl)))) rfl ?_
 refine stT rfl rfl (fun hg => have hg' := BP.t hg; OK1.eqI (Has.g rfl hg) (.cI 0 rfl)) rfl ?_
 refine st (.pickAnd (.t rfl) (fun h => Has.g rfl h)) rfl (st (.mv (.t rfl)) rfl ?_)
 refine stT rfl rfl (fun hg => have hg' := BP.t hg; OK1.load (.t rfl) (i := 0) rfl ty24 rfl (Ss' := [_, _, _]) rfl) rfl ?_
 refine stT rfl rfl (fun hg => have hg' := BP.t hg; OK1.eq (.call (zmat_At (R := 2) (C := 1) (i := 1) (k := 0) (K := 1) (xs := [0, 1].map nz) (by rw [vals_nz]; exact gm11_m) (by decide) (by decide) (by decide) rfl (by decide) (by decide)) (.cons (Has.g rfl hg) (.cons (.cI 1 rfl) (.cons (.cI 0 rfl) .nil)))) ((show _ = isZ 1 from isZ_eq (by rw [vals_nz]; rfl)))) rfl ?_
 refine stT rfl rfl (fun hg => have hg' := BP.t hg; OK1.eq (.call (zint_Sign (by rw [val_words]; omega)) (.cons (Has.g rfl hg) .nil)) ((show isI _ = isI 1 from isI_eq (by rw [zv_nf]; rfl)))) rfl ?_
 refine stT rfl rfl (fun hg => have hg' := BP.t hg; OK1.neI (Has.g rfl hg) (.cI 0 rfl)) rfl ?_
 refine st (.pickAnd (.t rfl) (fun h => Has.g rfl h)) rfl (st (.as (.t rfl)) rfl (nl (.thn (k4 _ _ (.cv (Cv.wk (.l [0] rfl)) (.ret (rt1 (.inl rfl) Tryz.results44 rfl (.tmp (Has.t' rfl ?_) .nil))))))))
 all_goals (rfl)
theorem rawZ {l : List Int} {i : Nat} {y : Int} (h : i < l.length) (e : cf l i = y) : Flat (zc ((l.map nz).getD i (false, []))) = isZ y := by
 have h1 := getZ h
 have h2 : (l.map nz).getD i (false, []) = nz (cf l i) := by rw [List.getD_eq_getElem?_getD, h1]; rfl
 rw [h2, e]
theorem c_GramOf_bad (r c : Int) (xs : List (Bool × List Nat)) (hf : formB r c xs.length = false) : CtrX Tryz.prog 7 [isM r c xs] ([]) (fun S M => S = isB true) := by
 refine CtrX.intro Tryz.func7 rfl (by kernel_rfl) Tryz.ntmps7 rfl fun w0 F0 => .cv (Cv.wk (.l [0] rfl)) (.seq fun _ k1 => .region (.box (.t rfl) rfl fun b1 => st (.as (.cB false)) rfl (nl (.thn (k1 _ _ (.seq fun _ k2 => .seq fun _ k3 => .region (st (.call law20_awake .nil) rfl (st (.not (.t rfl)) rfl (st (.mv (.t rfl)) rfl ?_)))))))))
 refine stF rfl rfl (fun hg => have hg' := BP.t hg; OK1.load (.t rfl) (i := 0) rfl ty24 rfl (Ss' := [_, _, _]) rfl) rfl ?_
 refine stF rfl rfl (fun hg => have hg' := BP.t hg; OK1.call (ref11_Few) (.cons (Has.g rfl hg) (.cons (.cI 4 rfl) (.cons (.cI 2 rfl) .nil)))) rfl ?_
 refine stF rfl rfl (fun hg => have hg' := BP.t hg; OK1.not (Has.g rfl hg)) rfl ?_
 refine st (.pickOr (.t rfl) (fun h => Has.g rfl (ng h))) rfl (nl (.thn (k3 _ _ (.cv (Cv.wk (.l [1, 2, 12] rfl)) (.cond (.t rfl) (fun hc1 => ?_) (fun hc1 => ?_))))))
 ·have hc1 := BP.t hc1
  refine .seq fun _ k4 => .region (st (.call law20_awake .nil) rfl (st (.as (.t rfl)) rfl (nl (.thn (k4 _ _ (.ret (.thr (rtX1D (.cons _ .slnil) (.inl rfl) Tryz.results7 rfl (.tmp (.t rfl) .nil) (rfl)))))))))
 ·have hc1 := BP.f hc1
  refine .skip (.thn (k2 _ _ (.seq fun _ k5 => .region (st (.load (.t rfl) (i := 0) rfl ty24 rfl (Ss' := [_, _, _]) rfl) rfl (st (.call (gram_Of_bad hf) (.cons (.t rfl) .nil)) rfl (st (.mv (.t rfl)) rfl (st (.ext (.t rfl) rfl) rfl (st (.ext (.t rfl) rfl) rfl (.alloc [isI 0, isI 0, nilS] zero24 (fun _ _ => ⟨⟨rfl, by decide, by decide⟩, ⟨rfl, by decide, by decide⟩, rfl, trivial⟩) rfl fun b2 => .store (.t rfl) (.t rfl) (i := 0) rfl ty24 rfl rfl (Ss' := [_, _, _]) rfl (M' := [(some _, cellM [_, _, _]), _]) rfl (st (.as (.t rfl)) rfl (nl (.thn (k5 _ _ (.cv (Cv.wk (.l [1, 2, 3, 4] rfl)) (.seq fun _ k6 => .seq fun _ k7 => .region (st (.load (.t rfl) (i := 1) rfl ty24 rfl (Ss' := [_, _, _]) rfl) rfl (st (.eq (.call (ref11_Formed) (.cons (.t rfl) .nil)) ((show isB _ = isB false from isB_eq (hf)))) rfl (st (.not (.t rfl)) rfl (nl (.thn (k7 _ _ (.cond (.t rfl) (fun hc2 => ?_) (fun hc2 => ?_)))))))))))))))))))))))
  ·have hc2 := BP.t hc2
   refine .seq fun _ k8 => .region (st (.mv (.t rfl)) rfl (st (.eqI (.t rfl) (.cI 2 rfl)) rfl (st (.mv (.t rfl)) rfl ?_)))
   refine stT rfl rfl (fun hg => have hg' := BP.t hg; OK1.load (.t rfl) (i := 0) rfl ty24 rfl (Ss' := [_, _, _]) rfl) rfl ?_
   refine stT rfl rfl (fun hg => have hg' := BP.t hg; OK1.call (ref11_None (r := 0) (c := 0) (xs := [])) (.cons (Has.g rfl hg) .nil)) rfl ?_
   refine st (.pickAnd (.t rfl) (fun h => Has.g rfl h)) rfl (st (.as (.t rfl)) rfl (nl (.thn (k8 _ _ (.cv (Cv.wk (.l [1, 2, 3, 4] rfl)) (.ret (.thr (rtX1D (.cons _ (.cons _ .slnil)) (.inl rfl) Tryz.results7 rfl (.tmp (.t rfl) .nil) (rfl)))))))))
  ·have hc2 := BP.f hc2
   exfalso; simp at hc2
theorem c_GramOf_ok (R C : Nat) (xs : List (Bool × List Nat)) (hR : R ≤ 64) (hC : C ≤ 64) (hl : xs.length = R * C) : CtrX Tryz.prog 7 [isM (R : Int) (C : Int) xs] ([]) (fun S M => S = isB true) := by
 refine CtrX.intro Tryz.func7 rfl (by kernel_rfl) Tryz.ntmps7 rfl fun w0 F0 => .cv (Cv.wk (.l [0] rfl)) (.fact (Has.okM (Has.t (t := 0) rfl)) fun okp0 => ?_)
 have hfo := formB_true hR hC hl
 have hRC := side_le hR hC
 have hRR := side_le hR hR
 refine .seq fun _ k1 => .region (.box (.t rfl) rfl fun b1 => st (.as (.cB false)) rfl (nl (.thn (k1 _ _ (.seq fun _ k2 => .seq fun _ k3 => .region (st (.call law20_awake .nil) rfl (st (.not (.t rfl)) rfl (st (.mv (.t rfl)) rfl ?_))))))))
 refine stF rfl rfl (fun hg => have hg' := BP.t hg; OK1.load (.t rfl) (i := 0) rfl ty24 rfl (Ss' := [_, _, _]) rfl) rfl ?_
 refine stF rfl rfl (fun hg => have hg' := BP.t hg; OK1.call (ref11_Few) (.cons (Has.g rfl hg) (.cons (.cI 4 rfl) (.cons (.cI 2 rfl) .nil)))) rfl ?_
 refine stF rfl rfl (fun hg => have hg' := BP.t hg; OK1.not (Has.g rfl hg)) rfl ?_
 refine st (.pickOr (.t rfl) (fun h => Has.g rfl (ng h))) rfl (nl (.thn (k3 _ _ (.cv (Cv.wk (.l [1, 2, 12] rfl)) (.cond (.t rfl) (fun hc1 => ?_) (fun hc1 => ?_))))))
 ·have hc1 := BP.t hc1
  skip
  refine .seq fun _ k4 => .region (st (.call law20_awake .nil) rfl (st (.as (.t rfl)) rfl (nl (.thn (k4 _ _ (.ret (.thr (rtX1D (.cons _ .slnil) (.inl rfl) Tryz.results7 rfl (.tmp (.t rfl) .nil) (rfl)))))))))
 ·have hc1 := BP.f hc1
  have HF0 : ((R : Int) ≤ 4 ∧ (C : Int) ≤ 4) ∧ fewB xs 100 2 = true := (by simpa [and_assoc] using hc1)
  obtain ⟨⟨hR5, hC5⟩, HF⟩ := HF0
  obtain ⟨hl0, hb⟩ := fewB_bd (N := 100) (K := 2) okp0 HF rfl rfl (by decide)
  have hGl : (gmL R C (vals xs)).length = R * R := gmL_len _ _ _
  have hGb : Bd (gmL R C (vals xs)) 100 := (gmL_bd hb).mono (by omega)
  obtain ⟨GL, hGL⟩ : ∃ G, G = gmL R C (vals xs) := ⟨_, rfl⟩
  rw [← hGL] at hGl hGb
  refine .skip (.thn (k2 _ _ (.seq fun _ k5 => .region (st (.load (.t rfl) (i := 0) rfl ty24 rfl (Ss' := [_, _, _]) rfl) rfl (st (.eq (.call (gram_Of hb (by decide) hR hC hl) (.cons (.t rfl) .nil)) ((show _ = isTup [isMz R R GL, isI 0] from by rw [hGL]))) rfl (st (.mv (.t rfl)) rfl (st (.ext (.t rfl) rfl) rfl (st (.ext (.t rfl) rfl) rfl (.alloc [isI 0, isI 0, nilS] zero24 (fun _ _ => ⟨⟨rfl, by decide, by decide⟩, ⟨rfl, by decide, by decide⟩, rfl, trivial⟩) rfl fun b2 => .store (.t rfl) (.t rfl) (i := 0) rfl ty24 rfl rfl (Ss' := [_, _, _]) rfl (M' := [(some _, cellM [_, _, _]), _]) rfl (st (.as (.t rfl)) rfl (nl (.thn (k5 _ _ (.cv (Cv.wk (.l [1, 2, 3, 4] rfl)) (.seq fun _ k6 => .seq fun _ k7 => .region (st (.load (.t rfl) (i := 1) rfl ty24 rfl (Ss' := [_, _, _]) rfl) rfl (st (.eq (.call (ref11_Formed) (.cons (.t rfl) .nil)) ((show isB _ = isB true from isB_eq (hfo)))) rfl (st (.not (.t rfl)) rfl (nl (.thn (k7 _ _ (.cond (.t rfl) (fun hc2 => ?_) (fun hc2 => ?_)))))))))))))))))))))))
  ·have hc2 := BP.t hc2
   exfalso; simp at hc2
  ·have hc2 := BP.f hc2
   skip
   refine .skip (.thn (k6 _ _ (.seq fun _ k8 => .seq fun _ k9 => .dr (.s [] rfl rfl rfl (.o rfl (.mv (.t rfl))) (.s [28] rfl rfl rfl (.o rfl (.neI (.t rfl) (.cI 0 rfl))) (.s [29] rfl rfl rfl (.o rfl (.mv (.t rfl))) ?_))))))
   refine .s [30] rfl rfl rfl (.F rfl rfl rfl (fun hg => have hg' := BP.t hg; OK1.load (.t rfl) (i := 0) rfl ty24 rfl (Ss' := [_, _, _]) rfl)) ?_
   refine .s [30] rfl rfl rfl (.F rfl rfl rfl (fun hg => have hg' := BP.t hg; OK1.fieldAddr (.t rfl) fld24_0 ty3)) ?_
   refine .s [30, 32] rfl rfl rfl (.F rfl rfl rfl (fun hg => have hg' := BP.t hg; OK1.load1 (Has.g rfl hg) (i := 1) rfl ty3 rfl)) ?_
   refine .s [30] rfl rfl rfl (.F rfl rfl rfl (fun hg => have hg' := BP.t hg; OK1.fieldAddr (.t rfl) fld24_0 ty3)) ?_
   refine .s [30, 34] rfl rfl rfl (.F rfl rfl rfl (fun hg => have hg' := BP.t hg; OK1.load1 (Has.g rfl hg) (i := 1) rfl ty3 rfl)) ?_
   refine .s [30] rfl rfl rfl (.F rfl rfl rfl (fun hg => have hg' := BP.t hg; OK1.load (.t rfl) (i := 1) rfl ty24 rfl (Ss' := [_, _, _]) rfl)) ?_
   refine .s [30, 36] rfl rfl rfl (.F rfl rfl rfl (fun hg => have hg' := BP.t hg; OK1.eq (.call (law19_Of hb (by decide) hR hC hl) (.cons (Has.g rfl hg) .nil)) ((show _ = isMz R R GL from by rw [hGL])))) ?_
   refine .s [30, 37] rfl rfl rfl (.F rfl rfl rfl (fun hg => have hg' := BP.t hg; OK1.field1 (Has.g rfl hg) fld24_2 ty22 rfl)) ?_
   refine .fin (n := 11) mixed (by kernel_rfl) (by kernel_rfl) (by kernel_rfl) (.cv (Cv.wk (.l [1, 2, 3, 30, 31, 33, 35, 38] rfl)) ?_)
   refine stF rfl rfl (fun hg => have hg' := BP.t hg; OK1.call (ref11_Is (l := GL) (ys := GL.map nz) hGb (by rw [vals_nz]; exact hGb) (by decide) (by decide) hR hR hGl (by rw [List.length_map]; exact hGl) (fun j hj => by rw [vals_nz])) (.cons (Has.g rfl hg) (.cons (Has.g rfl hg) (.cons (Has.g rfl hg) (.cons (Has.g rfl hg) .nil))))) rfl ?_
   refine stF rfl rfl (fun hg => have hg' := BP.t hg; OK1.not (Has.g rfl hg)) rfl ?_
   refine st (.pickOr (.t rfl) (fun h => Has.g rfl (ng h))) rfl (nl (.thn (k9 _ _ (.cv (Cv.wk (.l [1, 2, 3, 41] rfl)) (.cond (.t rfl) (fun hc3 => ?_) (fun hc3 => ?_))))))
   ·have hc3 := BP.t hc3
    exfalso; simp at hc3
   ·have hc3 := BP.f hc3
    skip
    refine .skip (.thn (k8 _ _ (.seq fun _ k10 => .seq fun _ k11 => .region (st (.as (.cI 0 rfl)) rfl (nl (.thn (k11 _ _ (.block (.loopF [1, 3] (fun (z : { i : Nat // i ≤ R }) => match z with | ⟨i, hi⟩ => [(5, isI (i : Int))]) (fun M => fun (z : { i : Nat // i ≤ R }) => match z with | ⟨i, hi⟩ => M) (fun (z : { i : Nat // i ≤ R }) => match z with | ⟨i, hi⟩ => R - i) (⟨0, Nat.zero_le _⟩) (Cv.mem (.c 5 rfl ?_ (.l [1, 3] rfl)) ?_) ?_)))))))))
    ·rfl
    ·rfl
    rintro ⟨i, hi⟩ K12 hK12
    refine .cv (Cv.wk (.l [5, 1, 3] rfl)) (.seq fun _ k13 => .seq fun _ k14 => .region (st (.mv (.t rfl)) rfl (st (.fieldAddr (.t rfl) fld24_0 ty3) rfl (st (.load1 (.t rfl) (i := 1) rfl ty3 rfl) rfl (st (.ltI (.t rfl) (.t rfl)) rfl (nl (.thn (k14 _ _ (.cond (.t rfl) (fun hc4 => ?_) (fun hc4 => ?_))))))))))
    ·have hc4 := BP.t hc4
     have hiR : i < R := (by omega)
     have hpl1 : (i + 1) * C ≤ R * C := Nat.mul_le_mul_right _ hiR
     have hpl2 : (i + 1) * C = i * C + C := Nat.succ_mul _ _
     have hcp : ((i : Int) * (C : Int)) = ((i * C : Nat) : Int) := (Int.natCast_mul i C).symm
     have hcq : (((i : Int) + 1) * (C : Int)) = (((i + 1) * C : Nat) : Int) := by rw [Int.natCast_mul]; rfl
     have hvv : vals ((xs.take ((i + 1) * C)).drop (i * C)) = Go.Hp.rowL C (vals xs) i := rowL_of (by omega)
     have hvl : ((xs.take ((i + 1) * C)).drop (i * C)).length = C := by rw [List.length_drop, List.length_take]; omega
     have hvb : Bd (vals ((xs.take ((i + 1) * C)).drop (i * C))) 2 := by rw [hvv]; exact fun k => by unfold Go.Hp.rowL; rw [cf_tab]; split; exact hb _; rw [Int.natAbs_zero, words_zero]; exact Nat.zero_le _
     have hpl := place_lt hiR hiR
     have hpc := place_lt hiR (show i < R from hiR)
     have hsw := gmF_bd (C := C) hb i i
     refine .skip (.thn (k13 _ _ (.seq fun _ k15 => .block (.seq fun _ k16 => .dr (.s [] rfl rfl rfl (.o rfl (.fieldAddr (.t rfl) fld24_2 ty22)) (.s [48] rfl rfl rfl (.o rfl (.load1 (.t rfl) (i := 1) rfl ty22 rfl)) (.s [] rfl rfl rfl (.o rfl (.mv (.t rfl))) (.s [] rfl rfl rfl (.o rfl (.fieldAddr (.t rfl) fld24_1 ty3)) (.s [51] rfl rfl rfl (.o rfl (.load1 (.t rfl) (i := 1) rfl ty3 rfl)) (.s [50, 52] rfl rfl rfl (.o rfl (.eq (.mulI (.t rfl) (.t rfl) (by first | omega | assumption) (by first | omega | assumption)) ((show isI _ = isI ((i * C : Nat) : Int) from isI_eq hcp)))) (.s [] rfl rfl rfl (.o rfl (.mv (.t rfl))) (.s [54] rfl rfl rfl (.o rfl (.addI (.t rfl) (.cI 1 rfl) (by first | omega | assumption) (by first | omega | assumption))) (.s [] rfl rfl rfl (.o rfl (.fieldAddr (.t rfl) fld24_1 ty3)) (.s [56] rfl rfl rfl (.o rfl (.load1 (.t rfl) (i := 1) rfl ty3 rfl)) (.s [55, 57] rfl rfl rfl (.o rfl (.eq (.mulI (.t rfl) (.t rfl) (by first | omega | assumption) (by first | omega | assumption)) ((show isI _ = isI (((i + 1) * C : Nat) : Int) from isI_eq hcq)))) (.s [49, 53, 58] rfl rfl rfl (.o rfl (.slLHK sl22 ty31 zc_len (.t rfl) (.t rfl) (.t rfl) ⟨by omega, by omega, by omega⟩)) ?_))))))))))))))))
     refine .s [59] rfl rfl rfl (.o rfl (.eq (.call (gram_Square (vs := ((xs.take ((i + 1) * C)).drop (i * C))) hvb (by decide) (by omega)) (.cons (.t rfl) .nil)) ((show _ = isZ (gmF C (vals xs) i i) from isZ_eq (by rw [hvl, hvv, sqS_row]))))) (.s [] rfl rfl rfl (.o rfl (.load (.t rfl) (i := 0) rfl ty24 rfl (Ss' := [_, _, _]) rfl)) (.s [] rfl rfl rfl (.o rfl (.mv (.t rfl))) (.s [] rfl rfl rfl (.o rfl (.mv (.t rfl))) (.fin (n := 16) mixed (by kernel_rfl) (by kernel_rfl) (by kernel_rfl) (.cv (Cv.wk (.l [1, 3, 5, 42, 43, 44, 45, 48, 49, 50, 51, 52, 53, 54, 55, 56, 57, 58, 59, 60, 61, 62, 63] rfl)) (st (.eq (.call (ref11_At (C := R) (i := i) (k := i) (xs := GL.map nz) (by rw [List.length_map]; omega) (by rw [List.length_map]; omega)) (.cons (.t rfl) (.cons (.t rfl) (.cons (.t rfl) .nil)))) ((rawZ (by omega) (by rw [hGL]; exact cf_tab' _ hiR hpl) : _ = isZ (gmF C (vals xs) i i)))) rfl ?_))))))
     refine st (.eq (.call (zint_Same (by rw [val_words]; omega) (by rw [val_words]; omega)) (.cons (.t rfl) (.cons (.t rfl) .nil))) ((show isB _ = isB true from isB_eq (decide_eq_true (by first | rfl | simp only [zv_nf]))))) rfl ?_
     refine st (.not (.t rfl)) rfl (nl (.thn (k16 _ _ (.cond (.t rfl) (fun hc5 => ?_) (fun hc5 => ?_)))))
     ·have hc5 := BP.t hc5
      exfalso; simp at hc5
     ·have hc5 := BP.f hc5
      skip
      refine .skip (.bln (.thn (k15 _ _ (.region (st (.mv (.t rfl)) rfl (st (.addI (.t rfl) (.cI 1 rfl) (by first | omega | assumption) (by first | omega | assumption)) rfl (st (.as (.t rfl)) rfl (nl (.thn (hK12 (⟨i + 1, by omega⟩) _ _ ?_ (Cv.mem (.c 5 rfl ?_ (.l [1, 3] rfl)) ?_)))))))))))
      ·show R - (i + 1) < R - i; omega
      ·exact isI_eq (by omega)
      ·rfl
    ·have hc4 := BP.f hc4
     skip
     refine .exit (.the (.the (.blh (.thn (k10 _ _ (.cv (Cv.wk .nil) (.seq fun _ k17 => .region (st (.as (.cB true)) rfl (nl (.thn (k17 _ _ (.ret (rtX1D (.cons _ (.cons _ .slnil)) (.inl rfl) Tryz.results7 rfl (.tmp (.t rfl) .nil) (rfl))))))))))))))
theorem c_GramOf (r c : Int) (xs : List (Bool × List Nat)) : Ctr Tryz.prog 7 [isM r c xs] (isB true) := by
  cases h : formB r c xs.length with
  | true =>
    obtain ⟨R, C, rfl, rfl, h1, h2, h3⟩ := formB_iff.1 h
    exact (c_GramOf_ok R C xs h1 h2 h3).toCtr fun S' M' hh => hh
  | false => exact (c_GramOf_bad r c xs h).toCtr fun S' M' hh => hh
end Go.Proofs.YthkdmhaafanjlaaGreat
namespace Go.En
open Go.RowKit Go.ChangeShapes Go.WideShapes Go.ChangeAt
theorem pair_get {α β : Type} (g h : α → β) : ∀ (l : List α) (j : Nat), (l.flatMap fun a => [g a, h a])[j]? = (l[j / 2]?).map (fun a => if j % 2 = 0 then g a else h a)
  | [], j => by simp
  | a :: l, 0 => by simp
  | a :: l, 1 => by simp
  | a :: l, j + 2 => by
    have := pair_get g h l j
    rw [show (j + 2) / 2 = j / 2 + 1 by omega, show (j + 2) % 2 = j % 2 by omega]
    simpa using this
section
variable {H : Type} {enc : TypeId × Value → H} {P : Program}
end
end Go.En
namespace Go.En
open Go.RowKit Go.ChangeShapes Go.WideShapes Go.ChangeAt
section
variable {H : Type} {enc : TypeId × Value → H} {P : Program}
theorem rd_Zs {W : World} {T e tb ts T' : TypeId} {fuel : Nat} {cs : List Value} {x : DataW H × List MemPlace} (hT : P.underlying T = some (.slice e)) (hfs : fsB P e = some [(tb, 0), (ts, 1)]) (hub : P.underlying tb = some .bool) (hu : P.underlying ts = some (.slice T')) (hu' : P.underlying T' = some (.int .u64)) (hc : P.cellsOf T' = 1) (hcb : P.cellsOf tb = 1) (hcs : P.cellsOf ts = 1) (hce : P.cellsOf e = 2)
    (hf : DataW.trod enc P W 0 (fun _ => true) true fuel T cs = some x) (hps : ∀ y ∈ x.2, y.block < W.heap.size) : ∃ (v : Value) (xs : List (Bool × List Nat)), cs = [v] ∧ (isZs xs).h W (fun b => b < W.heap.size) v := by
  obtain ⟨d, ps⟩ := x
  obtain ⟨fs, hue, hsz, hget⟩ := fsB_spec hfs
  obtain ⟨f0, g0, rfl, e0⟩ := hget 0 tb 0 rfl
  obtain ⟨f1, g1, rfl, e1⟩ := hget 1 ts 1 rfl
  have hfs2 : fs = #[f0, f1] := by
    apply Array.ext'
    have hl : fs.toList.length = 2 := by simpa using hsz
    match hq : fs.toList, hl with
    | [p, q], _ =>
      have a0 : fs.toList[0]? = some f0 := by simpa using g0
      have a1 : fs.toList[1]? = some f1 := by simpa using g1
      rw [hq] at a0 a1
      simp at a0 a1
      rw [a0, a1]
  subst hfs2
  rcases Deep.open_slice_pairs hT hue hce e0 e1 hcb hcs hf with ⟨h1, _⟩ | ⟨a, len, cap, m, n, V0, V1, D0, D1, P0, P1, h1, _, hlc, hcm, hm, hx, hel⟩
  · exact ⟨_, [], h1, nilK⟩
  · simp only [if_true] at hm
    subst m
    have hps' : ∀ i, i < cap → ∀ y ∈ P1 i, y.block < W.heap.size := fun i hi y hy => hps y (by
      have := (Prod.mk.inj hx).2
      rw [this]
      exact List.mem_append_right _ (List.mem_flatMap.2 ⟨i, List.mem_range.2 hi, List.mem_append_right _ hy⟩))
    obtain ⟨l, hl, hgl⟩ := list_of_get (p := fun i (x : Bool × List Nat) => V0 i = .bool x.1 ∧ (isWords x.2).h W (fun b => b < W.heap.size) (V1 i)) len (fun i hi => by
      obtain ⟨_, _, q0, q1⟩ := hel i (by omega)
      obtain ⟨b, hb, _⟩ := DataW.trod_bool hub q0
      obtain ⟨v, ws, hv1, hw⟩ := rd_row hu hu' hc word_of q1 (hps' i (by omega))
      obtain rfl : V1 i = v := by simpa using hv1
      exact ⟨(b, ws), by simpa using hb, hw⟩)
    refine ⟨_, l, h1, some a, cap, by rw [hl], by rw [hl]; exact hlc, hcm, flat_len zc_len l, ?_⟩
    rcases Nat.eq_zero_or_pos len with h0 | h0
    · exact .inl (by omega)
    · have hc0 := (hel 0 (by omega)).1
      have hs : a.spot = none := by
        cases hsp : a.spot with
        | none => rfl
        | some s =>
          simp only [Addr.add, Nat.zero_mul, if_true] at hc0
          unfold World.cell? at hc0
          rw [hsp] at hc0
          split at hc0 <;> simp at hc0
      obtain ⟨b, off, sp⟩ := a
      simp only at hs
      subst hs
      right
      refine ⟨b, off, rfl, ?_, (List.range len).flatMap (fun i => [V0 i, V1 i]), ?_, fun j u hj => ?_⟩
      · have : MemPlace.cell b (off + 0) ∈ ps := by
          have := (Prod.mk.inj hx).2
          rw [this]
          exact List.mem_append_left _ (List.mem_map.2 ⟨0, by simp; omega, rfl⟩)
        exact hps _ this
      · have hlen2 : ((List.range len).flatMap fun i => [V0 i, V1 i]).length = len * 2 := by
          have := flat_len (fk := fun (i : Nat) => [isB true, isB true]) (k := 2) (fun _ => rfl) (List.range len)
          rw [List.length_flatMap] at this ⊢
          simpa using this
        refine all2_of_get (by rw [flat_len zc_len, hlen2, hl]) (fun j S v hS hv => ?_)
        have hz := pair_get (fun p : Bool × List Nat => isB p.1) (fun p => isWords p.2) l j
        rw [show (l.flatMap fun a => [isB a.1, isWords a.2]) = l.flatMap zc from rfl, hS] at hz
        have hw := pair_get V0 V1 (List.range len) j
        rw [hv] at hw
        have hj : j / 2 < l.length := by
          rcases Nat.lt_or_ge (j / 2) l.length with h | h
          · exact h
          · rw [List.getElem?_eq_none h] at hz; cases hz
        rw [List.getElem?_eq_getElem hj] at hz
        rw [List.getElem?_range (by omega)] at hw
        simp only [Option.map_some, Option.some.injEq] at hz hw
        obtain ⟨k1, k2⟩ := hgl (j / 2) hj
        subst hz; subst hw
        by_cases hp : j % 2 = 0
        · rw [if_pos hp, if_pos hp, k1]; rfl
        · rw [if_neg hp, if_neg hp]; exact k2
      · have hw := pair_get V0 V1 (List.range len) j
        rw [hj] at hw
        have hjl : j / 2 < len := by
          rcases Nat.lt_or_ge (j / 2) len with h | h
          · exact h
          · rw [List.getElem?_eq_none (by simpa using h)] at hw; cases hw
        rw [List.getElem?_range hjl] at hw
        simp only [Option.map_some, Option.some.injEq] at hw
        obtain ⟨q0, q1, _, _⟩ := hel (j / 2) (by omega)
        rw [add_mk] at q0
        rw [add_mk] at q1
        by_cases hp : j % 2 = 0
        · rw [if_pos hp] at hw; subst hw
          rw [show off + j = off + j / 2 * 2 by omega]; exact q0
        · rw [if_neg hp] at hw; subst hw
          rw [show off + j = off + (j / 2 * 2 + 1) by omega]; exact q1
theorem open_M {W : World} {base : Nat} {T ti tm e tb ts T' : TypeId} {v : Value} {d : DataW H} {ps : List MemPlace} (hfM : fsB P T = some [(ti, 0), (ti, 1), (tm, 2)]) (hui : P.underlying ti = some (.int .i64)) (hT : P.underlying tm = some (.slice e)) (hfs : fsB P e = some [(tb, 0), (ts, 1)]) (hub : P.underlying tb = some .bool) (hu : P.underlying ts = some (.slice T')) (hu' : P.underlying T' = some (.int .u64)) (hc : P.cellsOf T' = 1) (hcb : P.cellsOf tb = 1) (hcs : P.cellsOf ts = 1) (hce : P.cellsOf e = 2)
    (hci : P.cellsOf ti = 1) (hcm : P.cellsOf tm = 1) (hcT : P.cellsOf T = 3) (hv : Value.okWide P W .any base T v) (h : DataW.Trod enc P W 0 (fun _ => true) true T v d ps) (hps : ∀ x ∈ ps, x.block < W.heap.size) : ∃ x : Int × Int × List (Bool × List Nat), (isM x.1 x.2.1 x.2.2).h W (fun b => b < W.heap.size) v := by
  obtain ⟨fs, huT, hsz, hget⟩ := fsB_spec hfM
  have hv' := hv
  simp only [Value.okWide, huT] at hv'
  obtain ⟨cs, rfl, _, _⟩ := hv'
  obtain ⟨fuel, hf⟩ := h
  obtain ⟨xs, m, _, hx, hl, hxl, hfe⟩ := DataW.trod_struct huT hf
  simp [Value.cells] at hl hx
  obtain ⟨f0, g0, rfl, e0⟩ := hget 0 ti 0 rfl
  obtain ⟨f1, g1, k1, e1⟩ := hget 1 _ 1 rfl
  obtain ⟨f2, g2, rfl, e2⟩ := hget 2 tm 2 rfl
  have h0 := hfe 0 f0 g0
  have h1 := hfe 1 f1 g1
  have h2 := hfe 2 f2 g2
  rw [List.getElem?_eq_getElem (by rw [hxl, hsz]; simp)] at h0 h1 h2
  rw [e0, hci] at h0
  rw [e1, k1, hci] at h1
  rw [e2, hcm] at h2
  obtain ⟨r, hr, hr1, hr2⟩ := rd_I hui h0
  obtain ⟨c, hc1, hc2, hc3⟩ := rd_I hui h1
  obtain ⟨u, ws, hu1, hw⟩ := rd_Zs hT hfs hub hu hu' hc hcb hcs hce h2 (fun y hy => hps y (by
    rw [hx.2]
    exact List.mem_flatMap.2 ⟨_, List.getElem_mem _, hy⟩))
  refine ⟨(r, c, ws), cs.toList, by simp, ?_⟩
  have hcs2 : cs.toList = [.int .i64 r, .int .i64 c, u] := by
    have hlen : cs.toList.length = 3 := by rw [← hcT]; simpa using hl
    match hq : cs.toList, hlen with
    | [p, q, t], _ =>
      have a1 : [p] = [Value.int .i64 r] := by have := hr; simpa [Value.cells, hq] using this
      have a2 : [q] = [Value.int .i64 c] := by have := hc1; simpa [Value.cells, hq] using this
      have a3 : [t] = [u] := by have := hu1; simpa [Value.cells, hq] using this
      rw [List.cons.inj a1 |>.1, List.cons.inj a2 |>.1, List.cons.inj a3 |>.1]
  rw [hcs2]
  exact ⟨⟨rfl, hr1, hr2⟩, ⟨rfl, hc2, hc3⟩, hw, trivial⟩
end
end Go.En
namespace Go.Proofs.YthkdmhaafanjlaaGreat
open Go.En Go.RowKit
set_option maxRecDepth 10000
open Go.ChangeShapes
open Go.WideShapes
open Go.ChangeAt
open Go.Nt
open Go.Pz
open Go.Mz
theorem opens_GramOf : Opens Tryz.prog Tryz.f7 7 := by
 intro H enc W base args ds ps hval hA hlt
 rw [Tryz.params7] at hA hval
 obtain ⟨v0, vs0, d0, ds0, p0, q0, hargs, rfl, rfl, h0, r0⟩ := trodAll_cons hA
 obtain ⟨rfl, rfl, rfl⟩ := trodAll_nil r0
 obtain rfl : args = #[v0] := by cases args; simp_all
 obtain ⟨x0, o0⟩ := open_M fs24 un3 un22 fs31 un4 un29 un39 (by kernel_rfl) (by kernel_rfl) (by kernel_rfl) (by kernel_rfl) (by kernel_rfl) (by kernel_rfl) (by kernel_rfl) (hval 0 24 v0 rfl rfl) h0 (fun x hx => hlt x (by simp [hx]))
 refine ⟨_, ?_, c_GramOf x0.1 x0.2.1 x0.2.2⟩
 exact ⟨o0, trivial⟩
theorem jn_GramOf : Tryz.pinned.checked.prog.funcNamed Rows.gramOfRow.func = some 7 := by kernel_rfl
theorem jf_GramOf : joinedFacts Tryz.pinned.checked.prog 7 Tryz.f7 Rows.gramOfSpec Rows.gramOfRow = true := by kernel_rfl
theorem jl_GramOf : laidOutB Tryz.checked.prog = true := by kernel_rfl
theorem gramOf_said : Rows.GramOfSaid :=
 OpenClaim.holds_of_wide 7 Tryz.f7 rfl rfl rfl rfl rfl rfl rfl ⟨rfl, rfl, rfl, rfl, rfl⟩ rfl rfl rfl rfl rfl jn_GramOf Tryz.func7 jf_GramOf
  (of_decide_eq_true (by kernel_rfl)) (by unfold Func.isWrapper; first | (rw [if_pos (by decide +kernel)]; kernel_rfl) | (rw [if_neg (by decide +kernel)]; exact ⟨rfl, rfl⟩))
  (fun os started H enc _ => lift_law (C := Tryz.checked) (s := Rows.gramOfSpec) (by kernel_rfl) started (by kernel_rfl) Tryz.func7
   (ChangeSpec.witness6 (enc := enc) (C := Tryz.checked) false ⟨#[], #[.agg #[.int .i64 0, .int .i64 0, .slice none 0 0]], []⟩ 8 (by kernel_rfl) (by kernel_rfl) (by kernel_rfl) (by kernel_rfl))
   jl_GramOf (by kernel_rfl) rfl rfl un4 (fun ds h => by match ds, h with | [d0], _ => rfl) opens_GramOf)
#print axioms gramOf_said
end Go.Proofs.YthkdmhaafanjlaaGreat
