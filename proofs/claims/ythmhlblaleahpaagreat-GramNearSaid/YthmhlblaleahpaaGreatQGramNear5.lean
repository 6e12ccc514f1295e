/- Rules and contracts, part 5 of 6. -/
import Derived.Test.YthmhlblaleahpaaGreatQGramNear4
namespace Go.Proofs.YthmhlblaleahpaaGreat
open Go.En Go.RowKit
set_option maxRecDepth 10000
set_option maxHeartbeats 4000000
open Go.Nt
open Go.Pz
theorem ref10_at {xs : List (Bool × List Nat)} {i : Nat} : Ctr Tryz.prog 35 [SlK 2 zc xs, isI (i : Int)] (Flat (zc (xs.getD i (false, [])))) := by
 refine Ctr.intro Tryz.func35 rfl (by kernel_rfl) Tryz.ntmps35 rfl fun w0 F0 => .cv (Cv.wk (.l [0, 1] rfl)) (.fact (Has.lenLt (Has.t (t := 0) rfl)) fun lt0 => .fact (Has.rngI (Has.t (t := 1) rfl)) fun lt1 => .seq fun _ k1 => .region (.alloc [isB false, SlM isU []] zG (fun _ _ => ⟨rfl, nilM _ _, trivial⟩) rfl fun b1 => nl (.thn (k1 _ _ (.seq fun _ k2 => .seq fun _ k3 => .region (st (.mv (.t rfl)) rfl (st (.geI (.t rfl) (.cI 0 rfl)) rfl (st (.mv (.t rfl)) rfl (stT rfl rfl (fun hg => .mv (.t rfl)) rfl (stT rfl rfl (fun hg => .mv (.t rfl)) rfl (stT rfl rfl (fun hg => .len sl22 (Has.g rfl hg)) rfl (stT rfl rfl (fun hg => .ltI (Has.g rfl hg) (Has.g rfl hg)) rfl (st (.pickAnd (.t rfl) (fun h => Has.g rfl h)) rfl (nl (.thn (k3 _ _ (.cv (Cv.wk (.l [0, 1, 4, 12] rfl)) (.cond (.t rfl) (fun hc1 => ?_) (fun hc1 => ?_)))))))))))))))))))
 ·have hc1 := BP.t hc1
  refine .seq fun _ k4 => .region (st (.mv (.t rfl)) rfl (st (.mv (.t rfl)) rfl (st (.ixK sl22 ty41 (.t rfl) (.t rfl) zO ⟨by omega, by omega⟩ (getD_some (d := (false, [])) (by omega))) rfl (st (.loadP (.t rfl) ty41 rfl (Ss' := [_, _]) rfl) rfl (.store (.t rfl) (.t rfl) (i := 0) rfl ty41 rfl rfl (Ss' := [_, _]) rfl (M' := [(some _, zB [_, _])]) rfl (nl (.thn (k4 _ _ (.cv (Cv.wk (.l [4] rfl)) (.ret (.thr (rt1 (.inl rfl) Tryz.results35 rfl (.cell rfl (i := 0) rfl ty41 rfl ?_ .nil)))))))))))))
  all_goals (rfl)
 ·have hc1 := BP.f hc1
  refine .skip (.thn (k2 _ _ (.seq fun _ k5 => .region (st (.call (qi) (.cons (.cI 0 rfl) .nil)) rfl (.store (.t rfl) (.t rfl) (i := 0) rfl ty41 rfl rfl (Ss' := [_, _]) rfl (M' := [(some _, zB [_, _])]) rfl (nl (.thn (k5 _ _ (.ret (rt1 (.inl rfl) Tryz.results35 rfl (.cell rfl (i := 0) rfl ty41 rfl ?_ .nil)))))))))))
  all_goals (exact isZ0.symm.trans (congrArg Flat (show zc (false, []) = _ by rw [List.getD, List.getElem?_eq_none (by omega)]; rfl)))
theorem ref10_Same {xs ys : List (Bool × List Nat)} {K L : Nat} (hx : Bd (vals xs) K) (hy : Bd (vals ys) L) (hK : K ≤ 400000000) (hL : L ≤ 400000000) (hn : xs.length ≤ 400000) (hm : ys.length ≤ 400000) : Ctr Tryz.prog 10 [SlK 2 zc xs, SlK 2 zc ys] (isB (decide (psub (vals xs) (vals ys) = []))) := by
 refine Ctr.intro Tryz.func10 rfl (by kernel_rfl) Tryz.ntmps10 rfl fun w0 F0 => .cv (Cv.wk (.l [0, 1] rfl)) (.fact (Has.lenLt (Has.t (t := 0) rfl)) fun lt0 => .fact (Has.lenLt (Has.t (t := 1) rfl)) fun lt1 => ?_)
 have hvx := qJ xs
 have hvy := qJ ys
 
 refine .seq fun _ k1 => .region (st (.as (.cB false)) rfl (nl (.thn (k1 _ _ (.seq fun _ k2 => .seq fun _ k3 => .region (st (.as (.cI 0 rfl)) rfl (nl (.thn (k3 _ _ (.block (.loopF [0, 1] (fun (z : { i : Nat // i ≤ max xs.length ys.length ∧ ∀ j, j < i → cf (vals xs) j = cf (vals ys) j }) => match z with | ⟨i, hi⟩ => [(5, isI (i : Int))]) (fun M => fun (z : { i : Nat // i ≤ max xs.length ys.length ∧ ∀ j, j < i → cf (vals xs) j = cf (vals ys) j }) => match z with | ⟨i, hi⟩ => []) (fun (z : { i : Nat // i ≤ max xs.length ys.length ∧ ∀ j, j < i → cf (vals xs) j = cf (vals ys) j }) => match z with | ⟨i, hi⟩ => max xs.length ys.length - i) (⟨0, Nat.zero_le _, fun j h => absurd h (Nat.not_lt_zero _)⟩) (Cv.mem (.c 5 rfl ?_ (.l [0, 1] rfl)) ?_) ?_)))))))))))
 ·rfl
 ·rfl
 rintro ⟨i, hi, hj⟩ K4 hK4
 refine .cv (Cv.wk (.l [5, 0, 1] rfl)) (.memEq (M' := []) rfl (.seq fun _ k5 => .seq fun _ k6 => .region (st (.mv (.t rfl)) rfl (st (.mv (.t rfl)) rfl (st (.len sl22 (.t rfl)) rfl (st (.ltI (.t rfl) (.t rfl)) rfl (st (.mv (.t rfl)) rfl (stF rfl rfl (fun hg => .mv (.t rfl)) rfl (stF rfl rfl (fun hg => .mv (.t rfl)) rfl (stF rfl rfl (fun hg => .len sl22 (Has.g rfl hg)) rfl (stF rfl rfl (fun hg => .ltI (Has.g rfl hg) (Has.g rfl hg)) rfl (st (.pickOr (.t rfl) (fun h => Has.g rfl (ng h))) rfl (nl (.thn (k6 _ _ (.cond (.t rfl) (fun hc1 => ?_) (fun hc1 => ?_)))))))))))))))))
 ·have hc1 := BP.t hc1
  refine .skip (.thn (k5 _ _ (.seq fun _ k7 => .block (.seq fun _ k8 => .region (st (.mv (.t rfl)) rfl (st (.mv (.t rfl)) rfl (st (.call (ref10_at) (.cons (.t rfl) (.cons (.t rfl) .nil))) rfl (st (.mv (.t rfl)) rfl (st (.mv (.t rfl)) rfl (st (.call (ref10_at) (.cons (.t rfl) (.cons (.t rfl) .nil))) rfl (st (.eq (.call (dg (by have := hx.raw i; omega) (by have := hy.raw i; omega)) (.cons (.t rfl) (.cons (.t rfl) .nil))) ((show isB _ = isB (decide (cf (vals xs) i = cf (vals ys) i)) from zU (by rw [zi, zi])))) rfl ?_)))))))))))
  refine st (.not (.t rfl)) rfl (nl (.thn (k8 _ _ (.cond (.t rfl) (fun hc2 => ?_) (fun hc2 => ?_)))))
  ·have hc2 := BP.t hc2
   have hNe : ¬ cf (vals xs) i = cf (vals ys) i := (by simpa using hc2)
   refine .seq fun _ k9 => .region (st (.as (.cB false)) rfl (nl (.thn (k9 _ _ (.ret (.blr (.thr (.thr (.blr (.thr (rt1 (.inl rfl) Tryz.results10 rfl (.tmp (Has.t' rfl ?_) .nil))))))))))))
   all_goals (exact zU (same_not hNe).symm)
  ·have hc2 := BP.f hc2
   have hEq : cf (vals xs) i = cf (vals ys) i := (by simpa using hc2)
   refine .skip (.bln (.thn (k7 _ _ (.region (st (.mv (.t rfl)) rfl (st (.addI (.t rfl) (.cI 1 rfl) (by omega) (by omega)) rfl (st (.as (.t rfl)) rfl (nl (.thn ?_)))))))))
   refine hK4 (⟨i + 1, by omega, fun j h => by rcases Nat.lt_or_ge j i with h2 | h2; exact hj j h2; rw [show j = i by omega]; exact hEq⟩) _ _ ?_ (Cv.mem (.c 5 rfl ?_ (.l [0, 1] rfl)) ?_)
   ·show max xs.length ys.length - (i + 1) < max xs.length ys.length - i; omega
   ·exact zE (by omega)
   ·rfl
 ·have hc1 := BP.f hc1
  refine .exit (.the (.the (.blh (.thn (k2 _ _ (.cv (Cv.wk .nil) (.seq fun _ k10 => .region (st (.as (.cB true)) rfl (nl (.thn (k10 _ _ (.ret (rt1 (.inl rfl) Tryz.results10 rfl (.tmp (Has.t' rfl ?_) .nil))))))))))))))
  all_goals (exact zU (same_yes hj (by omega) (by omega)).symm)
theorem jP {xs : List (Bool × List Nat)} {n w : Int} : Ctr Tryz.prog 6 [SlK 2 zc xs, isI n, isI w] (isB (fewB xs n w)) := by
 refine Ctr.intro Tryz.func6 rfl (by kernel_rfl) Tryz.ntmps6 rfl fun w0 F0 => .cv (Cv.wk (.l [0, 1, 2] rfl)) (.fact (Has.lenLt (Has.t (t := 0) rfl)) fun lt0 => .fact (Has.rngI (Has.t (t := 1) rfl)) fun lt1 => .fact (Has.rngI (Has.t (t := 2) rfl)) fun lt2 => .seq fun _ k1 => .region (st (.as (.cB false)) rfl (nl (.thn (k1 _ _ (.seq fun _ k2 => .seq fun _ k3 => .region (st (.as (.cI 0 rfl)) rfl (nl (.thn (k3 _ _ (.block (.loopF [0, 1, 2] (fun (z : { i : Nat // i ≤ xs.length ∧ i ≤ 100 ∧ ∀ j, j < i → ((xs.getD j (false, [])).2.length : Int) ≤ w }) => match z with | ⟨i, hi⟩ => [(7, isI (i : Int))]) (fun M => fun (z : { i : Nat // i ≤ xs.length ∧ i ≤ 100 ∧ ∀ j, j < i → ((xs.getD j (false, [])).2.length : Int) ≤ w }) => match z with | ⟨i, hi⟩ => []) (fun (z : { i : Nat // i ≤ xs.length ∧ i ≤ 100 ∧ ∀ j, j < i → ((xs.getD j (false, [])).2.length : Int) ≤ w }) => match z with | ⟨i, hi⟩ => xs.length - i) (⟨0, Nat.zero_le _, by omega, fun j h => absurd h (Nat.not_lt_zero _)⟩) (Cv.mem (.c 7 rfl ?_ (.l [0, 1, 2] rfl)) ?_) ?_))))))))))))
 ·rfl
 ·rfl
 rintro ⟨i, hi, h1, hj⟩ K4 hK4
 refine .cv (Cv.wk (.l [7, 0, 1, 2] rfl)) (.memEq (M' := []) rfl (.seq fun _ k5 => .seq fun _ k6 => .region (st (.mv (.t rfl)) rfl (st (.mv (.t rfl)) rfl (st (.len sl22 (.t rfl)) rfl (st (.ltI (.t rfl) (.t rfl)) rfl (st (.mv (.t rfl)) rfl (stT rfl rfl (fun hg => .mv (.t rfl)) rfl (stT rfl rfl (fun hg => .ltI (Has.g rfl hg) (.cI 100 rfl)) rfl (st (.pickAnd (.t rfl) (fun h => Has.g rfl h)) rfl (nl (.thn (k6 _ _ (.cond (.t rfl) (fun hc1 => ?_) (fun hc1 => ?_)))))))))))))))
 ·have hc1 := BP.t hc1
  refine .skip (.thn (k5 _ _ (.seq fun _ k7 => .block (.seq fun _ k8 => .region (st (.mv (.t rfl)) rfl (st (.mv (.t rfl)) rfl (st (.ixK sl22 ty41 (.t rfl) (.t rfl) zO ⟨by omega, by omega⟩ (getD_some (d := (false, [])) (by omega))) rfl (st (.fieldAddrP (.t rfl) qA ty39 (Ss' := [_]) rfl) rfl (st (.loadP1 (.t rfl) ty39) rfl (st (.len sl39 (.t rfl)) rfl (st (.mv (.t rfl)) rfl (st (.gtI (.t rfl) (.t rfl)) rfl (nl (.thn (k8 _ _ (.cond (.t rfl) (fun hc2 => ?_) (fun hc2 => ?_)))))))))))))))))
  ·have hc2 := BP.t hc2
   have hNo : ¬ ((xs.getD i (false, [])).2.length : Int) ≤ w := (by simp only [Int.toNat_natCast] at hc2; omega)
   refine .seq fun _ k9 => .region (st (.as (.cB false)) rfl (nl (.thn (k9 _ _ (.ret (.blr (.thr (.thr (.blr (.thr (rt1 (.inl rfl) Tryz.results6 rfl (.tmp (Has.t' rfl ?_) .nil))))))))))))
   all_goals (exact zU (fewB_no (by omega) (by omega) hNo).symm)
  ·have hc2 := BP.f hc2
   have hLe : ((xs.getD i (false, [])).2.length : Int) ≤ w := (by simp only [Int.toNat_natCast] at hc2; omega)
   refine .skip (.bln (.thn (k7 _ _ (.region (st (.mv (.t rfl)) rfl (st (.addI (.t rfl) (.cI 1 rfl) (by omega) (by omega)) rfl (st (.as (.t rfl)) rfl (nl (.thn ?_)))))))))
   refine hK4 (⟨i + 1, by omega, by omega, fun j h => by rcases Nat.lt_or_ge j i with h2 | h2; exact hj j h2; rw [show j = i by omega]; exact hLe⟩) _ _ ?_ (Cv.mem (.c 7 rfl ?_ (.l [0, 1, 2] rfl)) ?_)
   ·show xs.length - (i + 1) < xs.length - i; omega
   ·exact zE (by omega)
   ·rfl
 ·have hc1 := BP.f hc1
  refine .exit (.the (.the (.blh (.thn (k2 _ _ (.cv (Cv.wk (.l [0, 1] rfl)) (.seq fun _ k10 => .region (st (.mv (.t rfl)) rfl (st (.len sl22 (.t rfl)) rfl (st (.mv (.t rfl)) rfl (st (.leI (.t rfl) (.t rfl)) rfl (st (.as (.t rfl)) rfl (nl (.thn (k10 _ _ (.cv (Cv.wk (.l [6] rfl)) (.ret (rt1 (.inl rfl) Tryz.results6 rfl (.tmp (Has.t' rfl ?_) .nil)))))))))))))))))))
  all_goals (exact zU (fewB_yes (by omega) hj).symm)
end Go.Proofs.YthmhlblaleahpaaGreat
namespace Go.Proofs.YthmhlblaleahpaaGreat
open Go.En Go.RowKit
set_option maxRecDepth 10000
set_option maxHeartbeats 4000000
open Go.Nt
open Go.Pz
open Go.Mz
open Go.Dt
theorem vR {r c : Int} {xs : List (Bool × List Nat)} : Ctr Tryz.prog 8 [isM r c xs] (isB (xe r c xs.length)) := by
 refine Ctr.intro Tryz.func8 rfl (by kernel_rfl) Tryz.ntmps8 rfl fun w0 F0 => .cv (Cv.wk (.l [0] rfl)) (.seq fun _ k1 => .region (.box (.t rfl) rfl fun b1 => st (.as (.cB false)) rfl (nl (.thn (k1 _ _ (.seq fun _ k2 => .region (st (.fieldAddr (.t rfl) zT ty3) rfl (st (.load1 (.t rfl) (i := 0) rfl ty3 rfl) rfl (st (.geI (.t rfl) (.cI 0 rfl)) rfl (st (.mv (.t rfl)) rfl (stT rfl rfl (fun hg => .fieldAddr (.t rfl) zT ty3) rfl (stT rfl rfl (fun hg => .load1 (Has.g rfl hg) (i := 0) rfl ty3 rfl) rfl (stT rfl rfl (fun hg => .leI (Has.g rfl hg) (.cI 64 rfl)) rfl (st (.pickAnd (.t rfl) (fun h => Has.g rfl h)) rfl (st (.mv (.t rfl)) rfl (stT rfl rfl (fun hg => .fieldAddr (.t rfl) zS ty3) rfl (stT rfl rfl (fun hg => .load1 (Has.g rfl hg) (i := 0) rfl ty3 rfl) rfl (stT rfl rfl (fun hg => .geI (Has.g rfl hg) (.cI 0 rfl)) rfl (st (.pickAnd (.t rfl) (fun h => Has.g rfl h)) rfl (st (.mv (.t rfl)) rfl (stT rfl rfl (fun hg => .fieldAddr (.t rfl) zS ty3) rfl (stT rfl rfl (fun hg => .load1 (Has.g rfl hg) (i := 0) rfl ty3 rfl) rfl (stT rfl rfl (fun hg => .leI (Has.g rfl hg) (.cI 64 rfl)) rfl (st (.pickAnd (.t rfl) (fun h => Has.g rfl h)) rfl (st (.mv (.t rfl)) rfl (stT rfl rfl (fun hg => .fieldAddr (.t rfl) qU ty22) rfl (stT rfl rfl (fun hg => .load1 (Has.g rfl hg) (i := 0) rfl ty22 rfl) rfl ?_)))))))))))))))))))))))))))
 refine stT rfl rfl (fun hg => .len sl22 (Has.g rfl hg)) rfl (stT rfl rfl (fun hg => .fieldAddr (.t rfl) zT ty3) rfl (stT rfl rfl (fun hg => .load1 (Has.g rfl hg) (i := 0) rfl ty3 rfl) rfl (stT rfl rfl (fun hg => .fieldAddr (.t rfl) zS ty3) rfl (stT rfl rfl (fun hg => .load1 (Has.g rfl hg) (i := 0) rfl ty3 rfl) rfl ?_))))
 refine stT rfl rfl (fun hg => have hg' := BP.t hg; OK1.mulI (Has.g rfl hg) (Has.g rfl hg) (by have := bY ⟨⟨hg'.1.1.1, hg'.1.1.2⟩, hg'.1.2, hg'.2⟩; omega) (by have := bY ⟨⟨hg'.1.1.1, hg'.1.1.2⟩, hg'.1.2, hg'.2⟩; omega)) rfl ?_
 refine stT rfl rfl (fun hg => .eqI (Has.g rfl hg) (Has.g rfl hg)) rfl (st (.pickAnd (.t rfl) (fun h => Has.g rfl h)) rfl (st (.as (.t rfl)) rfl (nl (.thn (k2 _ _ (.cv (Cv.wk (.l [2] rfl)) (.ret (rt1 (.inl rfl) Tryz.results8 rfl (.tmp (Has.t' rfl ?_) .nil)))))))))
 all_goals (exact zU (by unfold xe; simp only [Bool.and_assoc]))
theorem wF {r : Int} {C i k : Nat} {xs : List (Bool × List Nat)} (hx : xs.length ≤ 4096) (hl : i * C + k < xs.length) : Ctr Tryz.prog 36 [isM r (C : Int) xs, isI (i : Int), isI (k : Int)] (Flat (zc (xs.getD (i * C + k) (false, [])))) := by
 refine Ctr.intro Tryz.func36 rfl (by kernel_rfl) Tryz.ntmps36 rfl fun w0 F0 => .cv (Cv.wk (.l [0, 1, 2] rfl)) (.fact (Has.rngI (Has.t (t := 1) rfl)) fun lt1 => .fact (Has.rngI (Has.t (t := 2) rfl)) fun lt2 => ?_)
 have hcp : ((i : Int) * (C : Int)) = ((i * C : Nat) : Int) := (Int.natCast_mul i C).symm
 refine .seq fun _ k1 => .region (.box (.t rfl) rfl fun b1 => .alloc [isB false, SlM isU []] zG (fun _ _ => ⟨rfl, nilM _ _, trivial⟩) rfl fun b2 => nl (.thn (k1 _ _ (.seq fun _ k2 => .region (st (.fieldAddr (.t rfl) qU ty22) rfl (st (.load1 (.t rfl) (i := 1) rfl ty22 rfl) rfl (st (.mv (.t rfl)) rfl (st (.fieldAddr (.t rfl) zS ty3) rfl (st (.load1 (.t rfl) (i := 1) rfl ty3 rfl) rfl (st (.eq (.mulI (.t rfl) (.t rfl) (by omega) (by omega)) ((show isI _ = isI ((i * C : Nat) : Int) from zE hcp))) rfl (st (.mv (.t rfl)) rfl (st (.eq (.addI (.t rfl) (.t rfl) (by omega) (by omega)) ((show isI _ = isI ((i * C + k : Nat) : Int) from zE (by omega)))) rfl (st (.ixK sl22 ty41 (.t rfl) (.t rfl) zO ⟨by omega, by omega⟩ (getD_some (d := (false, [])) (by omega))) rfl (st (.loadP (.t rfl) ty41 rfl (Ss' := [_, _]) rfl) rfl (.store (.t rfl) (.t rfl) (i := 0) rfl ty41 rfl rfl (Ss' := [_, _]) rfl (M' := [(some _, zB [_, _]), _]) rfl (nl (.thn (k2 _ _ (.cv (Cv.wk (.l [6] rfl)) (.ret (rt1 (.inl rfl) Tryz.results36 rfl (.cell rfl (i := 0) rfl ty41 rfl ?_ .nil))))))))))))))))))))))
 all_goals (rfl)
theorem wU {r c n w : Int} {xs : List (Bool × List Nat)} : Ctr Tryz.prog 5 [isM r c xs, isI n, isI w] (isB (decide (r ≤ n) && decide (c ≤ n) && fewB xs 100 w)) := by
 refine Ctr.intro Tryz.func5 rfl (by kernel_rfl) Tryz.ntmps5 rfl fun w0 F0 => .cv (Cv.wk (.l [0, 1, 2] rfl)) (.fact (Has.rngI (Has.t (t := 1) rfl)) fun lt1 => .fact (Has.rngI (Has.t (t := 2) rfl)) fun lt2 => .seq fun _ k1 => .region (.box (.t rfl) rfl fun b1 => st (.as (.cB false)) rfl (nl (.thn (k1 _ _ (.seq fun _ k2 => .region (st (.fieldAddr (.t rfl) zT ty3) rfl (st (.load1 (.t rfl) (i := 0) rfl ty3 rfl) rfl (st (.mv (.t rfl)) rfl (st (.leI (.t rfl) (.t rfl)) rfl (st (.mv (.t rfl)) rfl (stT rfl rfl (fun hg => .fieldAddr (.t rfl) zS ty3) rfl (stT rfl rfl (fun hg => .load1 (Has.g rfl hg) (i := 0) rfl ty3 rfl) rfl (stT rfl rfl (fun hg => .mv (.t rfl)) rfl (stT rfl rfl (fun hg => .leI (Has.g rfl hg) (Has.g rfl hg)) rfl (st (.pickAnd (.t rfl) (fun h => Has.g rfl h)) rfl (st (.mv (.t rfl)) rfl (stT rfl rfl (fun hg => .fieldAddr (.t rfl) qU ty22) rfl (stT rfl rfl (fun hg => .load1 (Has.g rfl hg) (i := 0) rfl ty22 rfl) rfl (stT rfl rfl (fun hg => .mv (.t rfl)) rfl (stT rfl rfl (fun hg => .call (jP) (.cons (Has.g rfl hg) (.cons (.cI 100 rfl) (.cons (Has.g rfl hg) .nil)))) rfl (st (.pickAnd (.t rfl) (fun h => Has.g rfl h)) rfl (st (.as (.t rfl)) rfl (nl (.thn (k2 _ _ (.cv (Cv.wk (.l [6] rfl)) ?_)))))))))))))))))))))))))))
 refine .ret (rt1 (.inl rfl) Tryz.results5 rfl (.tmp (Has.t' rfl ?_) .nil))
 all_goals (rfl)
theorem dW {R C i k : Nat} {xs : List (Bool × List Nat)} (hR : R ≤ 64) (hC : C ≤ 64) (hl : xs.length = R * C) (hi : i < R) (hk : k < C) : Ctr Tryz.prog 114 [isM (R : Int) (C : Int) xs, isI (i : Int), isI (k : Int)] (isM ((R : Int) - 1) ((C : Int) - 1) (wo R C i k xs)) := by
 refine Ctr.intro Tryz.func114 rfl (by kernel_rfl) Tryz.ntmps114 rfl fun w0 F0 => .cv (Cv.wk (.l [0, 1, 2] rfl)) (.fact (Has.rngI (Has.t (t := 1) rfl)) fun lt1 => .fact (Has.rngI (Has.t (t := 2) rfl)) fun lt2 => ?_)
 have hRC := qL hR hC
 have hRC1 := qL (R := R - 1) (C := C - 1) (by omega) (by omega)
 refine .seq fun _ k1 => .region (.box (.t rfl) rfl fun b1 => .alloc [isI 0, isI 0, nilS] zg (fun _ _ => ⟨⟨rfl, by decide, by decide⟩, ⟨rfl, by decide, by decide⟩, rfl, trivial⟩) rfl fun b2 => nl (.thn (k1 _ _ (.seq fun _ k2 => .region (st (.fieldAddr (.t rfl) zT ty3) rfl (st (.load1 (.t rfl) (i := 1) rfl ty3 rfl) rfl (st (.subI (.t rfl) (.cI 1 rfl) (by omega) (by omega)) rfl (st (.fieldAddr (.t rfl) zS ty3) rfl (st (.load1 (.t rfl) (i := 1) rfl ty3 rfl) rfl (st (.subI (.t rfl) (.cI 1 rfl) (by omega) (by omega)) rfl (st (.build [isI 0, isI 0, nilS] pl24 zg (fun _ _ => ⟨⟨rfl, by decide, by decide⟩, ⟨rfl, by decide, by decide⟩, rfl, trivial⟩) (.cons (.t rfl) rfl rfl rfl (.cons (.t rfl) rfl rfl rfl .nil)) (Z'' := [_, _, _]) rfl) rfl (.alloc [isI 0, isI 0, nilS] zg (fun _ _ => ⟨⟨rfl, by decide, by decide⟩, ⟨rfl, by decide, by decide⟩, rfl, trivial⟩) rfl fun b3 => .store (.t rfl) (.t rfl) (i := 0) rfl ty24 rfl rfl (Ss' := [_, _, _]) rfl (M' := [(some _, zB [_, _, _]), _, _]) rfl (nl (.thn (k2 _ _ (.cv (Cv.wk (.l [1, 2, 3, 6, 7] rfl)) (.seq fun _ k3 => .seq fun _ k4 => .cv (Cv.growF (Bool × List Nat) (i := 0) (o := 2) rfl rfl rfl) (.memEq (M' := [grMK zc Gr.nil [], _, _, _]) rfl (.region (st (.as (.cI 0 rfl)) rfl (nl (.thn (k4 _ _ (.block (.loopF [1, 2, 3, 6, 7] (fun (z : { z : Nat × Gr (Bool × List Nat) // z.1 ≤ R }) => match z with | ⟨(r, g), hI⟩ => [(8, isI (r : Int))]) (fun M => fun (z : { z : Nat × Gr (Bool × List Nat) // z.1 ≤ R }) => match z with | ⟨(r, g), hI⟩ => [grMK zc g (tabR (woN C i k r 0) (C - 1) (woG C i k xs)), (some b3, zB [isI ((R : Int) - 1), isI ((C : Int) - 1), isGr g (tabR (woN C i k r 0) (C - 1) (woG C i k xs)).length]), (some b2, zB [isI 0, isI 0, nilS]), (some b1, zB [isI (R : Int), isI (C : Int), SlK 2 zc xs])]) (fun (z : { z : Nat × Gr (Bool × List Nat) // z.1 ≤ R }) => match z with | ⟨(r, g), hI⟩ => R - r) (⟨(0, Gr.nil), Nat.zero_le _⟩) (Cv.mem (.c 8 rfl ?_ (.l [1, 2, 3, 6, 7] rfl)) ?_) ?_)))))))))))))))))))))))))
 ·rfl
 ·exact jl (n := 0) (ys := []) (by rw [xL, woN_zero]) (show [] = tabR (woN C i k 0 0) _ _ by rw [woN_zero]; rfl)
 rintro ⟨⟨r, g⟩, hI⟩ K5 hK5
 refine .cv (Cv.wk (.l [8, 1, 2, 3, 6, 7] rfl)) (.memEq (M' := [grMK zc g (tabR (woN C i k r 0) (C - 1) (woG C i k xs)), (some b3, zB [isI ((R : Int) - 1), isI ((C : Int) - 1), isGr g (tabR (woN C i k r 0) (C - 1) (woG C i k xs)).length]), (some b2, zB [isI 0, isI 0, nilS]), (some b1, zB [isI (R : Int), isI (C : Int), SlK 2 zc xs])]) rfl ?_)
 simp only [] at hI
 refine .seq fun _ k6 => .seq fun _ k7 => .region (st (.mv (.t rfl)) rfl (st (.fieldAddr (.t rfl) zT ty3) rfl (st (.load1 (.t rfl) (i := 3) rfl ty3 rfl) rfl (st (.ltI (.t rfl) (.t rfl)) rfl (nl (.thn (k7 _ _ (.cond (.t rfl) (fun hc1 => ?_) (fun hc1 => ?_)))))))))
 ·have hc1 := BP.t hc1
  refine .skip (.thn (k6 _ _ (.seq fun _ k8 => .block (.seq fun _ k9 => .region (st (.as (.cI 0 rfl)) rfl (nl (.thn (k9 _ _ (.block (.loopF [1, 2, 3, 6, 7, 8, 17, 18, 19, 20] (fun (z : { z : Nat × Gr (Bool × List Nat) // z.1 ≤ C }) => match z with | ⟨(c, g2), hK⟩ => [(9, isI (c : Int))]) (fun M => fun (z : { z : Nat × Gr (Bool × List Nat) // z.1 ≤ C }) => match z with | ⟨(c, g2), hK⟩ => [grMK zc g2 (tabR (woN C i k r c) (C - 1) (woG C i k xs)), (some b3, zB [isI ((R : Int) - 1), isI ((C : Int) - 1), isGr g2 (tabR (woN C i k r c) (C - 1) (woG C i k xs)).length]), (some b2, zB [isI 0, isI 0, nilS]), (some b1, zB [isI (R : Int), isI (C : Int), SlK 2 zc xs])]) (fun (z : { z : Nat × Gr (Bool × List Nat) // z.1 ≤ C }) => match z with | ⟨(c, g2), hK⟩ => C - c) (⟨(0, g), Nat.zero_le _⟩) (Cv.mem (.c 9 rfl ?_ (.l [1, 2, 3, 6, 7, 8, 17, 18, 19, 20] rfl)) ?_) ?_))))))))))
  ·rfl
  ·rfl
  rintro ⟨⟨c, g2⟩, hK⟩ K10 hK10
  refine .cv (Cv.wk (.l [9, 1, 2, 3, 6, 7, 8, 17, 18, 19, 20] rfl)) (.memEq (M' := [grMK zc g2 (tabR (woN C i k r c) (C - 1) (woG C i k xs)), (some b3, zB [isI ((R : Int) - 1), isI ((C : Int) - 1), isGr g2 (tabR (woN C i k r c) (C - 1) (woG C i k xs)).length]), (some b2, zB [isI 0, isI 0, nilS]), (some b1, zB [isI (R : Int), isI (C : Int), SlK 2 zc xs])]) rfl ?_)
  simp only [] at hK
  refine .seq fun _ k11 => .seq fun _ k12 => .region (st (.mv (.t rfl)) rfl (st (.fieldAddr (.t rfl) zS ty3) rfl (st (.load1 (.t rfl) (i := 3) rfl ty3 rfl) rfl (st (.ltI (.t rfl) (.t rfl)) rfl (nl (.thn (k12 _ _ (.cond (.t rfl) (fun hc2 => ?_) (fun hc2 => ?_)))))))))
  ·have hc2 := BP.t hc2
   refine .skip (.thn (k11 _ _ (.seq fun _ k13 => .block (.seq fun _ k14 => .region (st (.mv (.t rfl)) rfl (st (.mv (.t rfl)) rfl (st (.neI (.t rfl) (.t rfl)) rfl (st (.mv (.t rfl)) rfl (stT rfl rfl (fun hg => .mv (.t rfl)) rfl (stT rfl rfl (fun hg => .mv (.t rfl)) rfl (stT rfl rfl (fun hg => .neI (Has.g rfl hg) (Has.g rfl hg)) rfl (st (.pickAnd (.t rfl) (fun h => Has.g rfl h)) rfl (nl (.thn (k14 _ _ (.cond (.t rfl) (fun hc3 => ?_) (fun hc3 => ?_)))))))))))))))))
   ·have hc3 := BP.t hc3
    have hrc := hc3
    have hr : r ≠ i := (by omega)
    have hc : c ≠ k := (by omega)
    have hpl := qG (show r < R by omega) (show c < C by omega)
    have hwl := woN_le (R := R) (c := c + 1) hi hk (show r < R by omega) (show c + 1 ≤ C by omega)
    have hwn := woN_on (C := C) hr hc
    refine .dr (.s [] rfl rfl rfl (.o rfl (.fieldAddr (.t rfl) qU ty22)) (.s [37] rfl rfl rfl (.o rfl (.load1 (.t rfl) (i := 1) rfl ty22 rfl)) (.s [] rfl rfl rfl (.o rfl (.load (.t rfl) (i := 3) rfl ty24 rfl (Ss' := [_, _, _]) rfl)) (.s [] rfl rfl rfl (.o rfl (.mv (.t rfl))) (.s [] rfl rfl rfl (.o rfl (.mv (.t rfl))) (.s [39, 40, 41] rfl rfl rfl (.o rfl (.call (wF (i := r) (k := c) (by omega) (by omega)) (.cons (.t rfl) (.cons (.t rfl) (.cons (.t rfl) .nil))))) (.s [42] rfl rfl rfl (.o rfl (.buildS [isB false, SlM isU []] sl22 ty41 zG (fun _ _ => ⟨rfl, nilM _ _, trivial⟩) rfl rfl (.cons (.t rfl) rfl rfl rfl .nil) rfl (S := SlK 2 zc [xs.getD (r * C + c) (false, [])]) rfl)) (.fin (n := 7) zR (by kernel_rfl) (by kernel_rfl) (by kernel_rfl) (.cv (Cv.wk (.l [1, 2, 3, 6, 7, 8, 17, 18, 19, 20, 9, 23, 24, 25, 26, 29, 30, 31, 32, 33, 34, 35, 36, 37, 38, 39, 40, 41, 42, 43] rfl)) (.appendGK (fk := zc) (u := (false, [])) zO (by decide) (fun _ => inferInstance) sl22 ty41 zG (fun _ _ => ⟨rfl, nilM _ _, trivial⟩) by41 (.t rfl) (i := 0) rfl (.t rfl) (by rw [xL, List.length_singleton]; omega) (by simp) rfl fun gr1 => ?_))))))))))
    refine .memEq (M' := [grMK _ _ _, _, _, _]) rfl (st (.fieldAddr (.t rfl) qU ty22) rfl (.store (.t rfl) (.t rfl) (i := 1) rfl ty22 rfl rfl (Ss' := [_, _, _]) rfl (M' := [_, (some _, zB [_, _, _]), _, _]) rfl (nl (.bln (.thn (k13 _ _ (.region (st (.mv (.t rfl)) rfl (st (.addI (.t rfl) (.cI 1 rfl) (by omega) (by omega)) rfl (st (.as (.t rfl)) rfl (nl (.thn ?_))))))))))))
    refine hK10 (⟨(c + 1, by first | exact gr1 | exact g2), by show c + 1 ≤ C; omega⟩) _ _ ?_ (Cv.mem (.c 9 rfl ?_ (.l [1, 2, 3, 6, 7, 8, 17, 18, 19, 20] rfl)) ?_)
    ·show C - (c + 1) < C - c; omega
    ·exact zE (by omega)
    ·first | exact jl (by rw [xL, xL, hwn]; rfl) (by rw [← wo_app hr hc (by omega) hk]) | exact jl (by rw [bN hno]) (by rw [bN hno])
   ·have hc3 := BP.f hc3
    have hno : ¬ (r ≠ i ∧ c ≠ k) := (by omega)
    refine .skip (.bln (.thn (k13 _ _ (.region (st (.mv (.t rfl)) rfl (st (.addI (.t rfl) (.cI 1 rfl) (by omega) (by omega)) rfl (st (.as (.t rfl)) rfl (nl (.thn ?_)))))))))
    refine hK10 (⟨(c + 1, by first | exact gr1 | exact g2), by show c + 1 ≤ C; omega⟩) _ _ ?_ (Cv.mem (.c 9 rfl ?_ (.l [1, 2, 3, 6, 7, 8, 17, 18, 19, 20] rfl)) ?_)
    ·show C - (c + 1) < C - c; omega
    ·exact zE (by omega)
    ·first | exact jl (by rw [xL, xL, hwn]; rfl) (by rw [← wo_app hr hc (by omega) hk]) | exact jl (by rw [bN hno]) (by rw [bN hno])
  ·have hc2 := BP.f hc2
   refine .exit (.the (.the (.blh (.bln (.thn (k8 _ _ (.region (st (.mv (.t rfl)) rfl (st (.addI (.t rfl) (.cI 1 rfl) (by omega) (by omega)) rfl (st (.as (.t rfl)) rfl (nl (.thn ?_))))))))))))
   have hkC : c = C := by omega
   subst hkC
   refine hK5 (⟨(r + 1, g2), by show r + 1 ≤ R; omega⟩) _ _ ?_ (Cv.mem (.c 8 rfl ?_ (.l [1, 2, 3, 6, 7] rfl)) ?_)
   ·show R - (r + 1) < R - r; omega
   ·exact zE (by omega)
   ·exact jl (by rw [woN_next hk]) (by rw [woN_next hk])
 ·have hc1 := BP.f hc1
  refine .exit (.the (.the (.blh (.thn (k3 _ _ (.cv (Cv.wk (.l [6, 7] rfl)) (.seq fun _ k15 => .cv (Cv.freezeF (k := 2) (i := 0) (j := 0) (o := 2) rfl rfl rfl rfl (aO zO) (wJ zO) (Ss' := [_, _, SlK 2 zc (tabR (woN C i k r 0) (C - 1) (woG C i k xs))]) rfl) (.memEq (M' := [(some _, zB [_, _, SlK 2 zc (tabR (woN C i k r 0) (C - 1) (woG C i k xs))]), _, _]) rfl (.cv (Cv.wk (.l [6, 7] rfl)) (.region (st (.load (.t rfl) (i := 0) rfl ty24 rfl (Ss' := [_, _, _]) rfl) rfl (.store (.t rfl) (.t rfl) (i := 1) rfl ty24 rfl rfl (Ss' := [_, _, _]) rfl (M' := [_, (some _, zB [_, _, _]), _]) rfl (nl (.thn (k15 _ _ (.ret (rt1 (.inl rfl) Tryz.results114 rfl (.cell rfl (i := 1) rfl ty24 rfl ?_ .nil))))))))))))))))))
  all_goals (rw [show r = R by omega, woN_all hi]; rfl)
theorem dX {n K : Nat} {xs : List (Bool × List Nat)} (hx : Bd (vals xs) K) (hK : K ≤ 10000000) (hR : n + 1 ≤ 64) (hl : xs.length = (n + 1) * (n + 1)) (ih : ∀ ys : List (Bool × List Nat), Bd (vals ys) K → ys.length = n * n → Ctr Tryz.prog 91 [isM (n : Int) (n : Int) ys] (isZ (det n (mf n (vals ys))))) : Ctr Tryz.prog 91 [isM ((n + 1 : Nat) : Int) ((n + 1 : Nat) : Int) xs] (isZ (det (n + 1) (mf (n + 1) (vals xs)))) := by
 refine Ctr.intro Tryz.func91 rfl (by kernel_rfl) Tryz.ntmps91 rfl fun w0 F0 => .cv (Cv.wk (.l [0] rfl)) ?_
 have hRC := qL hR hR
 obtain ⟨A, hA⟩ : ∃ A, A = mf (n + 1) (vals xs) := ⟨_, rfl⟩
 have hAb : ∀ i j, (List.length (zA (A i j).natAbs)) ≤ K := by rw [hA]; exact mf_bd hx
 have hnk : n * (K + n) ≤ 63 * (10000000 + 63) := Nat.mul_le_mul (by omega) (by omega)
 rw [← hA]
 refine .seq fun _ k1 => .region (.box (.t rfl) rfl fun b1 => .alloc [isB false, SlM isU []] zG (fun _ _ => ⟨rfl, nilM _ _, trivial⟩) rfl fun b2 => nl (.thn (k1 _ _ (.seq fun _ k2 => .seq fun _ k3 => .region (st (.fieldAddr (.t rfl) zT ty3) rfl (st (.load1 (.t rfl) (i := 1) rfl ty3 rfl) rfl (st (.eqI (.t rfl) (.cI 0 rfl)) rfl (nl (.thn (k3 _ _ (.cond (.t rfl) (fun hc1 => ?_) (fun hc1 => ?_))))))))))))
 ·have hc1 := BP.t hc1
  omega
 ·have hc1 := BP.f hc1
  skip
  refine .skip (.thn (k2 _ _ (.seq fun _ k4 => .region (st (.call (qi) (.cons (.cI 0 rfl) .nil)) rfl (.alloc [isB false, SlM isU []] zG (fun _ _ => ⟨rfl, nilM _ _, trivial⟩) rfl fun b3 => .store (.t rfl) (.t rfl) (i := 0) rfl ty41 rfl rfl (Ss' := [_, _]) rfl (M' := [(some _, zB [_, _]), _, _]) rfl (nl (.thn (k4 _ _ (.cv (Cv.wk (.l [1, 2, 3] rfl)) (.seq fun _ k5 => .seq fun _ k6 => .region (st (.as (.cI 0 rfl)) rfl (nl (.thn (k6 _ _ (.block (.loopF [1, 2, 3] (fun (z : { k : Nat // k ≤ n + 1 }) => match z with | ⟨k, hk⟩ => [(4, isI (k : Int))]) (fun M => fun (z : { k : Nat // k ≤ n + 1 }) => match z with | ⟨k, hk⟩ => [zM b3 (sm k (dtT n A)), (some b2, zB [isB false, SlM isU []]), (some b1, zB [isI ((n + 1 : Nat) : Int), isI ((n + 1 : Nat) : Int), SlK 2 zc xs])]) (fun (z : { k : Nat // k ≤ n + 1 }) => match z with | ⟨k, hk⟩ => n + 1 - k) (⟨0, Nat.zero_le _⟩) (Cv.mem (.c 4 rfl ?_ (.l [1, 2, 3] rfl)) ?_) ?_))))))))))))))))
  ·rfl
  ·rfl
  rintro ⟨k, hk⟩ K7 hK7
  refine .cv (Cv.wk (.l [4, 1, 2, 3] rfl)) (.memEq (M' := [zM b3 (sm k (dtT n A)), (some b2, zB [isB false, SlM isU []]), (some b1, zB [isI ((n + 1 : Nat) : Int), isI ((n + 1 : Nat) : Int), SlK 2 zc xs])]) rfl (.seq fun _ k8 => .seq fun _ k9 => .region (st (.mv (.t rfl)) rfl (st (.fieldAddr (.t rfl) zS ty3) rfl (st (.load1 (.t rfl) (i := 2) rfl ty3 rfl) rfl (st (.ltI (.t rfl) (.t rfl)) rfl (nl (.thn (k9 _ _ (.cond (.t rfl) (fun hc2 => ?_) (fun hc2 => ?_)))))))))))
  ·have hc2 := BP.t hc2
   have hpl := qG (show 0 < n + 1 by omega) (show k < n + 1 by omega)
   have hxr := hx.raw (0 * (n + 1) + k)
   have hA0 : A 0 k = cf (vals xs) (0 * (n + 1) + k) := by rw [hA]; rfl
   obtain ⟨d, hd⟩ : ∃ d, d = det n fun i j => A (i + 1) (skip k j) := ⟨_, rfl⟩
   have hdw : (List.length (zA d.natAbs)) ≤ n * (K + n) + 1 := by rw [hd]; exact det_nw (fun _ _ => hAb _ _) n
   have htw := dtT_nw hAb n k
   have hsw := sm_nw (dtT_nw hAb n) k
   have hmw := qD (A 0 k) d
   have haw := hAb 0 k
   have hng : (List.length (zA (-(A 0 k * d)).natAbs)) = (List.length (zA (A 0 k * d).natAbs)) := by rw [Int.natAbs_neg]
   have htd : dtT n A k = sg k * (A 0 k * d) := by rw [hd]; rfl
   refine .skip (.thn (k8 _ _ (.seq fun _ k10 => .block (.seq fun _ k11 => .drh [true, true, true] (Ms := [_, _, _]) rfl (.s [] rfl rfl rfl (.o rfl (.load (.t rfl) (i := 2) rfl ty24 rfl (Ss' := [_, _, _]) rfl)) (.s [] rfl rfl rfl (.o rfl (.mv (.t rfl))) (.s [17, 18] rfl rfl rfl (.o rfl (.call (wF (i := 0) (k := k) (by omega) (by omega)) (.cons (.t rfl) (.cons (.cI 0 rfl) (.cons (.t rfl) .nil))))) (.s [] rfl rfl rfl (.o rfl (.load (.t rfl) (i := 2) rfl ty24 rfl (Ss' := [_, _, _]) rfl)) (.s [] rfl rfl rfl (.o rfl (.mv (.t rfl))) (.s [20, 21] rfl rfl rfl (.o rfl (.eq (.call (dW (i := 0) (k := k) hR hR hl (by omega) (by omega)) (.cons (.t rfl) (.cons (.cI 0 rfl) (.cons (.t rfl) .nil)))) ((show isM _ _ _ = isM (n : Int) (n : Int) (wo (n + 1) (n + 1) 0 k xs) from by rw [show ((n + 1 : Nat) : Int) - 1 = (n : Int) by omega])))) (.s [22] rfl rfl rfl (.o rfl (.eq (.call (ih (wo (n + 1) (n + 1) 0 k xs) (wo_bd hx) (wo_len _ _ _ _ _)) (.cons (.t rfl) .nil)) ((show isZ _ = isZ d from zN (by rw [hd, hA]; exact det_wo))))) ?_)))))))))))
   refine .s [19, 23] rfl rfl rfl (.o rfl (.eq (.call (qT (by omega) (by rw [zC]; omega)) (.cons (.t rfl) (.cons (.t rfl) .nil))) ((show isZ _ = isZ (A 0 k * d) from zN (by rw [zH, hA0, zi]))))) ?_
   refine .als2 (n1 := 9) (ds := [5]) (zs := [[isB false, SlM isU []]]) rfl (.cons rfl rfl zG (fun _ _ => ⟨rfl, nilM _ _, trivial⟩) .nil) (.cons_cons _ (.cons_cons _ (.cons_cons _ .slnil))) (Cs := [_]) rfl (.fin (n := 9) zR rfl (by kernel_rfl) (by kernel_rfl) (by kernel_rfl) (fun bs hbs => ?_))
   obtain ⟨b4, rfl⟩ := len1 hbs
   refine .memEq (M' := [_, _, _, _]) rfl (.cv (Cv.wk (.k 1 rfl (.k 2 rfl (.k 3 rfl (.k 4 rfl (.k 11 rfl (.k 12 rfl (.k 13 rfl (.k 14 rfl (.k 17 rfl (.k 18 rfl (.k 19 rfl (.k 20 rfl (.k 21 rfl (.k 22 rfl (.k 23 rfl (.k 24 rfl (.cons (t := 5) (Has.op rfl) .nil)))))))))))))))))) (.store (.t rfl) (.t rfl) (i := 0) rfl ty41 rfl rfl (Ss' := [_, _]) rfl (M' := [(some _, zB [_, _]), _, _, _]) rfl (nl (.thn (k11 _ _ (.seq fun _ k12 => .seq fun _ k13 => .region (st (.mv (.t rfl)) rfl (st (.remI (.t rfl) (.cI 2 rfl) (by omega) (by omega) (by omega)) rfl (st (.eqI (.t rfl) (.cI 1 rfl)) rfl (nl (.thn (k13 _ _ (.cond (.t rfl) (fun hc3 => ?_) (fun hc3 => ?_))))))))))))))
   ·have hc3 := BP.t hc3
    have hsg : sg k = -1 := if_pos (by omega)
    refine .region (st (.load (.t rfl) (i := 0) rfl ty41 rfl (Ss' := [_, _]) rfl) rfl (st (.eq (.call (xk (by rw [zC]; omega)) (.cons (.t rfl) .nil)) ((show isZ _ = isZ (-(A 0 k * d)) from zN (by rw [zH])))) rfl ?_))
    refine .store (.t rfl) (.t rfl) (i := 0) rfl ty41 rfl rfl (Ss' := [_, _]) rfl (M' := [(some _, zB [_, _]), _, _, _]) rfl (nl (.thn (k12 _ _ (.region (st (.load (.t rfl) (i := 1) rfl ty41 rfl (Ss' := [_, _]) rfl) rfl (st (.load (.t rfl) (i := 0) rfl ty41 rfl (Ss' := [_, _]) rfl) rfl (st (.eq (.call (qt (by rw [zC]; omega) (by rw [zC]; omega)) (.cons (.t rfl) (.cons (.t rfl) .nil))) ((show isZ _ = isZ (sm (k + 1) (dtT n A)) from zN (by simp only [zH]; exact congrArg _ (by rw [htd, hsg]; omega))))) rfl ?_)))))))
    refine .store (.t rfl) (.t rfl) (i := 1) rfl ty41 rfl rfl (Ss' := [_, _]) rfl (M' := [_, (some _, zB [_, _]), _, _]) rfl (nl (.bln (.thn (k10 _ _ (.region (st (.mv (.t rfl)) rfl (st (.addI (.t rfl) (.cI 1 rfl) (by omega) (by omega)) rfl (st (.as (.t rfl)) rfl (nl (.thn (hK7 (⟨k + 1, by omega⟩) _ _ ?_ (Cv.trans (Cv.drop ((.cons _ (.cons_cons _ (.cons_cons _ (.cons_cons _ .slnil)))))) (Cv.mem (.c 4 rfl ?_ (.l [1, 2, 3] rfl)) ?_)))))))))))))
    ·show n + 1 - (k + 1) < n + 1 - k; omega
    ·exact zE (by omega)
    ·rfl
   ·have hc3 := BP.f hc3
    have hsg : sg k = 1 := if_neg (by omega)
    refine .skip (.thn (k12 _ _ (.region (st (.load (.t rfl) (i := 1) rfl ty41 rfl (Ss' := [_, _]) rfl) rfl (st (.load (.t rfl) (i := 0) rfl ty41 rfl (Ss' := [_, _]) rfl) rfl (st (.eq (.call (qt (by rw [zC]; omega) (by rw [zC]; omega)) (.cons (.t rfl) (.cons (.t rfl) .nil))) ((show isZ _ = isZ (sm (k + 1) (dtT n A)) from zN (by simp only [zH]; exact congrArg _ (by rw [htd, hsg]; omega))))) rfl ?_))))))
    refine .store (.t rfl) (.t rfl) (i := 1) rfl ty41 rfl rfl (Ss' := [_, _]) rfl (M' := [_, (some _, zB [_, _]), _, _]) rfl (nl (.bln (.thn (k10 _ _ (.region (st (.mv (.t rfl)) rfl (st (.addI (.t rfl) (.cI 1 rfl) (by omega) (by omega)) rfl (st (.as (.t rfl)) rfl (nl (.thn (hK7 (⟨k + 1, by omega⟩) _ _ ?_ (Cv.trans (Cv.drop ((.cons _ (.cons_cons _ (.cons_cons _ (.cons_cons _ .slnil)))))) (Cv.mem (.c 4 rfl ?_ (.l [1, 2, 3] rfl)) ?_)))))))))))))
    ·show n + 1 - (k + 1) < n + 1 - k; omega
    ·exact zE (by omega)
    ·rfl
  ·have hc2 := BP.f hc2
   refine .exit (.the (.the (.blh (.thn (k5 _ _ (.cv (Cv.wk (.l [2, 3] rfl)) (.seq fun _ k14 => .region (st (.load (.t rfl) (i := 0) rfl ty41 rfl (Ss' := [_, _]) rfl) rfl (.store (.t rfl) (.t rfl) (i := 1) rfl ty41 rfl rfl (Ss' := [_, _]) rfl (M' := [_, (some _, zB [_, _]), _]) rfl (nl (.thn (k14 _ _ (.ret (rt1 (.inl rfl) Tryz.results91 rfl (.cell rfl (i := 1) rfl ty41 rfl ?_ .nil)))))))))))))))
   all_goals (exact zN (by rw [show k = n + 1 by omega]; rfl))
theorem ref12_DetZ {xs : List (Bool × List Nat)} : Ctr Tryz.prog 91 [isM 0 0 xs] (isZ 1) := by
 refine Ctr.intro Tryz.func91 rfl (by kernel_rfl) Tryz.ntmps91 rfl fun w0 F0 => .cv (Cv.wk (.l [0] rfl)) (.seq fun _ k1 => .region (.box (.t rfl) rfl fun b1 => .alloc [isB false, SlM isU []] zG (fun _ _ => ⟨rfl, nilM _ _, trivial⟩) rfl fun b2 => nl (.thn (k1 _ _ (.seq fun _ k2 => .seq fun _ k3 => .region (st (.fieldAddr (.t rfl) zT ty3) rfl (st (.load1 (.t rfl) (i := 1) rfl ty3 rfl) rfl (st (.eqI (.t rfl) (.cI 0 rfl)) rfl (nl (.thn (k3 _ _ (.cond (.t rfl) (fun hc1 => ?_) (fun hc1 => ?_)))))))))))))
 ·have hc1 := BP.t hc1
  refine .seq fun _ k4 => .region (st (.call (qi) (.cons (.cI 1 rfl) .nil)) rfl (.store (.t rfl) (.t rfl) (i := 0) rfl ty41 rfl rfl (Ss' := [_, _]) rfl (M' := [(some _, zB [_, _]), _]) rfl (nl (.thn (k4 _ _ (.cv (Cv.wk (.l [1, 2] rfl)) (.ret (.thr (rt1 (.inl rfl) Tryz.results91 rfl (.cell rfl (i := 0) rfl ty41 rfl ?_ .nil))))))))))
  all_goals (rfl)
 ·have hc1 := BP.f hc1
  exact absurd rfl hc1
theorem ref12_Det {n K : Nat} {xs : List (Bool × List Nat)} (hx : Bd (vals xs) K) (hK : K ≤ 10000000) (hR : n ≤ 64) (hl : xs.length = n * n) : Ctr Tryz.prog 91 [isM (n : Int) (n : Int) xs] (isZ (det n (mf n (vals xs)))) := by
 induction n generalizing xs with
 | zero => exact ref12_DetZ
 | succ n ih => exact dX hx hK hR hl fun ys hy hyl => ih hy (by omega) hyl
end Go.Proofs.YthmhlblaleahpaaGreat
namespace Go.Proofs.YthmhlblaleahpaaGreat
open Go.En Go.RowKit
set_option maxRecDepth 10000
set_option maxHeartbeats 4000000
open Go.Nt
open Go.Pz
open Go.Mz
open Go.Hn
open Go.Hp
open Go.Dt
theorem xI {r c : Int} {l : List Int} : Ctr Tryz.prog 50 [isM r c (l.map nz), isI 0] (isM r c (l.map nz)) := by
 refine Ctr.intro Tryz.func50 rfl (by kernel_rfl) Tryz.ntmps50 rfl fun w0 F0 => .cv (Cv.wk (.l [0, 1] rfl)) (.fact (Has.rngI (Has.t (t := 1) rfl)) fun lt1 => .seq fun _ k1 => .region (.box (.t rfl) rfl fun b1 => .alloc [isI 0, isI 0, nilS] zg (fun _ _ => ⟨⟨rfl, by decide, by decide⟩, ⟨rfl, by decide, by decide⟩, rfl, trivial⟩) rfl fun b2 => nl (.thn (k1 _ _ (.seq fun _ k2 => .region (st (.load (.t rfl) (i := 1) rfl ty24 rfl (Ss' := [_, _, _]) rfl) rfl (.store (.t rfl) (.t rfl) (i := 0) rfl ty24 rfl rfl (Ss' := [_, _, _]) rfl (M' := [(some _, zB [_, _, _]), _]) rfl (nl (.thn (k2 _ _ (.ret (rt1 (.inl rfl) Tryz.results50 rfl (.cell rfl (i := 0) rfl ty24 rfl ?_ .nil)))))))))))))
 all_goals (rfl)
theorem gram_Of {R C K : Nat} {xs : List (Bool × List Nat)} (hx : Bd (vals xs) K) (hK : K ≤ 100000000) (hR : R ≤ 64) (hC : C ≤ 64) (hl : xs.length = R * C) : Ctr Tryz.prog 52 [isM (R : Int) (C : Int) xs] (zQ [isMz R R (gmL R C (vals xs)), isI 0]) := by
 refine Ctr.intro Tryz.func52 rfl (by kernel_rfl) Tryz.ntmps52 rfl fun w0 F0 => .cv (Cv.wk (.l [0] rfl)) ?_
 have hTb : Bd (tab (C * R) R fun i k => cf (vals xs) (k * C + i)) K := ju fun i k => hx _
 refine .seq fun _ k1 => .region (.box (.t rfl) rfl fun b1 => .alloc [isI 0, isI 0, nilS] zg (fun _ _ => ⟨⟨rfl, by decide, by decide⟩, ⟨rfl, by decide, by decide⟩, rfl, trivial⟩) rfl fun b2 => st (.as (.cI 0 rfl)) rfl (nl (.thn (k1 _ _ (.seq fun _ k2 => .region (st (.load (.t rfl) (i := 1) rfl ty24 rfl (Ss' := [_, _, _]) rfl) rfl (st (.call (jx hx (by omega) hR hC hl) (.cons (.t rfl) .nil)) rfl (st (.mv (.t rfl)) rfl (st (.ext (.t rfl) rfl) rfl (st (.ext (.t rfl) rfl) rfl (.alloc [isI 0, isI 0, nilS] zg (fun _ _ => ⟨⟨rfl, by decide, by decide⟩, ⟨rfl, by decide, by decide⟩, rfl, trivial⟩) rfl fun b3 => .store (.t rfl) (.t rfl) (i := 0) rfl ty24 rfl rfl (Ss' := [_, _, _]) rfl (M' := [(some _, zB [_, _, _]), _, _]) rfl (st (.as (.t rfl)) rfl (nl (.thn (k2 _ _ (.cv (Cv.wk (.l [1, 2, 3, 4, 5] rfl)) (.seq fun _ k3 => .seq fun _ k4 => .region (st (.mv (.t rfl)) rfl (st (.neI (.t rfl) (.cI 0 rfl)) rfl (nl (.thn (k4 _ _ (.cond (.t rfl) (fun hc1 => ?_) (fun hc1 => ?_))))))))))))))))))))))))
 ·have hc1 := BP.t hc1
  exfalso; omega
 ·have hc1 := BP.f hc1
  skip
  refine .skip (.thn (k3 _ _ (.seq fun _ k5 => .region (st (.load (.t rfl) (i := 2) rfl ty24 rfl (Ss' := [_, _, _]) rfl) rfl (st (.load (.t rfl) (i := 0) rfl ty24 rfl (Ss' := [_, _, _]) rfl) rfl (st (.eq (.call (bx (R := R) (C := C) (D := R) (K := K) (L := K) hx (by rw [zP]; exact hTb) (by omega) hR hC hR hl (by rw [List.length_map, xG])) (.cons (.t rfl) (.cons (.t rfl) .nil))) ((show _ = zQ [isMz R R (gmL R C (vals xs)), isI 0] from by rw [zP, gm_mul (gm_tab (vals xs))]))) rfl ?_))))))
  refine st (.ext (.t rfl) rfl) rfl (st (.ext (.t rfl) rfl) rfl (.store (.t rfl) (.t rfl) (i := 1) rfl ty24 rfl rfl (Ss' := [_, _, _]) rfl (M' := [_, (some _, zB [_, _, _]), _]) rfl (st (.as (.t rfl)) rfl (nl (.thn (k5 _ _ (.cv (Cv.wk (.l [2, 3] rfl)) (.ret (rtN (.inl rfl) Tryz.results52 rfl rfl (.cell rfl (i := 1) rfl ty24 rfl ?_ (.tmp (Has.t' rfl ?_) .nil)))))))))))
  ·rfl
  ·rfl
end Go.Proofs.YthmhlblaleahpaaGreat
namespace Go.En
open Go.RowKit
section
variable {E : Env} {P : Program} {Γ : Ctx} {M : Mem} {ty : TypeId} {pos : String} {after : Array Edge} {gd : Option (Nat × Bool)} {d : Option Tmp}
 {ops : Array Oper} {Q : Exit → Act → World → Prop} {rest : List Oper}
def StG (E : Env) (P : Program) (Δ : Ctx) (M : Mem) (o : Oper) (S : VP) (M' : Mem) : Prop := o.guard = none ∧ ∀ a w F, Sat E Δ M a w F → ∀ (K : Act → World → Prop) (Q : Exit → Act → World → Prop),
 (∀ v w' F', (∀ b, F b → w'.heap[b]? = w.heap[b]?) → (∀ b, F b → F' b) → (∀ Γ'', Sat E Γ'' M a w F → Sat E Γ'' M' a w' F') → S.h w' F' v → K (a.put o.dst v) w') → o.wp P a w K Q
theorem StG.of {Δ : Ctx} {o : Oper} {S : VP} (hg : o.guard = none) (h : OK1 E P Δ M o S) : StG E P Δ M o S M :=
 ⟨hg, fun a w F s K Q hK => h a w F s K Q fun v w' F' ad hv => hK v w' F' (ad.same s.flt) ad.sub (fun Γ'' s'' => s''.adv ad) hv⟩
theorem StG.callX {Δ : Ctx} {g : FuncId} {xs : List Operand} {ts : Array TypeId} {args : List VP} {Mp Mr M1 : Mem} {R : VP → Mem → Prop} {d : Nat} {S0 : VP} (hf : CtrX P g args Mp R) (hp : M = Mp ++ Mr) (hx : HasL E Δ M xs args) (hR : ∀ S M', R S M' → S = S0 ∧ M' ++ Mr = M1) :
    StG E P Δ M ⟨some d, .call ⟨.value (.func g), xs.toArray, ts⟩, ty, pos, after, none⟩ S0 M1 := by
  subst hp
  refine ⟨rfl, fun a w F s K Q hK => ?_⟩
  unfold Oper.wp
  have hr : (execOp a.eval (⟨some d, .call ⟨.value (.func g), xs.toArray, ts⟩, ty, pos, after, none⟩ : Oper)).run P w = .ok (.enter g (xs.map a.eval).toArray) w := by
    have := vZ hf.1 (xs.map a.eval).toArray w
    simpa [go_sem] using this
  rw [hr]
  have hargs := hx.all s
  have hapart := List.pairwise_append.1 s.mem.apart
  have hmp : MemIn Mp w F := ⟨hapart.1, fun b C hb => by
    obtain ⟨_, h2, h3, h4⟩ := s.mem.each b C (List.mem_append_left _ hb)
    exact ⟨h2, h3, h4⟩⟩
  refine (hf.2 w F _ s.flt hmp hargs).mono ?_
  rintro e w' ⟨v, S, M', F', rfl, hR', hk, hsub, hnew, hv, hap, heach⟩
  obtain ⟨rfl, rfl⟩ := hR S M' hR'
  have hW : ∀ b, b ∈ blks Mp → ¬ F b := fun b hb hF => by
    obtain ⟨C, hC⟩ := mem_blks.1 hb
    exact (hmp.each b C hC).2.1 hF
  have hsame : ∀ b, F b → w'.heap[b]? = w.heap[b]? := fun b hb => hk.block b (s.flt b hb) (fun h => hW b h hb)
  refine hK v w' F' hsame hsub (fun Γ'' s => ?_) hv
  have hown : ∀ b, b ∈ blks Mp → E.w0.heap.size ≤ b ∨ b ∈ E.W := fun b hb => by
    obtain ⟨C, hC⟩ := mem_blks.1 hb
    exact (s.mem.each b C (List.mem_append_left _ hC)).1
  have hrest : ∀ (b : Nat) (C : MP), (some b, C) ∈ Mr → b ∉ blks Mp ∧ b < w.heap.size := fun b C hb => by
    refine ⟨fun h => ?_, (s.mem.each b C (List.mem_append_right _ hb)).2.1⟩
    obtain ⟨C', hC'⟩ := mem_blks.1 h
    have := hapart.2.2 _ hC' _ hb
    rcases this with h | h
    · cases h
    · exact h rfl
  exact {
    defers := s.defers, size := s.size
    keep := by
      refine ⟨hk.os.trans s.keep.os, hk.tape.trans s.keep.tape, hk.output.trans s.keep.output, Nat.le_trans s.keep.size hk.size, fun k hk0 hkW => ?_⟩
      rw [hk.block k (Nat.lt_of_lt_of_le hk0 s.keep.size) (fun h => by rcases hown k h with h' | h'; omega; exact hkW h')]
      exact s.keep.block k hk0 hkW
    f0 := fun b h => hsub b (s.f0 b h)
    fnew := fun b h => by
      rcases hnew b h with h1 | h1
      · rcases s.fnew b h1 with h2 | h2
        · exact .inl h2
        · exact .inr ⟨h2.1, Nat.lt_of_lt_of_le h2.2 hk.size⟩
      · exact .inr ⟨Nat.le_trans s.keep.size h1.1, h1.2⟩
    flt := fun b h => by
      rcases hnew b h with h1 | h1
      · exact Nat.lt_of_lt_of_le (s.flt b h1) hk.size
      · exact h1.2
    slots := fun t S h => S.mono _ _ _ _ _ (s.slots t S h) hsame hsub
    mem := by
      refine ⟨List.pairwise_append.2 ⟨hap, hapart.2.1, ?_⟩, ?_⟩
      · rintro ⟨k, C⟩ h1 ⟨k', C'⟩ h2
        cases k with
        | none => exact .inl rfl
        | some b =>
          refine .inr fun e => ?_
          subst e
          obtain ⟨g1, _⟩ := heach b C h1
          obtain ⟨g2, g3⟩ := hrest b C' h2
          rcases g1 with g1 | g1
          · omega
          · exact g2 g1
      · intro b C hb
        rcases List.mem_append.1 hb with h | h
        · obtain ⟨g1, g2, g3, g4⟩ := heach b C h
          refine ⟨?_, g2, g3, g4⟩
          rcases g1 with g1 | g1
          · exact .inl (Nat.le_trans s.keep.size g1)
          · exact hown b g1
        · obtain ⟨g1, g2, g3, o, g4, g5⟩ := s.mem.each b C (List.mem_append_right _ h)
          obtain ⟨r1, r2⟩ := hrest b C h
          refine ⟨g1, Nat.lt_of_lt_of_le g2 hk.size, fun hF => ?_, o, (hk.block b g2 r1).trans g4, C.mono _ _ _ _ _ g5 hsame hsub⟩
          rcases hnew b hF with h1 | h1
          · exact g3 h1
          · omega }
def FromG (l : List Oper) (ms : List Nat) (Ss : Nat → VP) (i t : Nat) (S : VP) : Prop := ∃ (j : Nat) (oj : Oper), j < i ∧ j ∉ ms ∧ (((zo l [])[i]?).getD 0).testBit j = true ∧ l[j]? = some oj ∧ oj.dst = some t ∧ Ss j = S
structure RdAt (E : Env) (P : Program) (l : List Oper) (Γ : Ctx) (Ms : Mem) (ms : List Nat) (Ss : Nat → VP) (i : Nat) : Prop where
 ex : ∃ (o : Oper) (d : Nat) (Δ : Ctx), l[i]? = some o ∧ o.dst = some d ∧ d < E.n ∧ (∀ t S, look Δ t = some S → FromG l ms Ss i t S ∨ look Γ t = some S) ∧ OKG E P l.toArray Δ Ms o (Ss i)
structure MdAt (E : Env) (P : Program) (l : List Oper) (Γ : Ctx) (ms : List Nat) (Ss : Nat → VP) (G : Nat → Ctx) (f : Nat → Mem) (m : Nat) : Prop where
 ex : ∃ (i : Nat) (o : Oper) (d : Nat) (Δ : Ctx), ms[m]? = some i ∧ l[i]? = some o ∧ o.dst = some d ∧ d < E.n ∧ (∀ t S, look Δ t = some S → FromG l ms Ss i t S ∨ look (G m ++ Γ) t = some S) ∧
  (∀ q i', q < m → ms[q]? = some i' → (((zo l [])[i]?).getD 0).testBit i' = true) ∧ StG E P Δ (f m) o (Ss i) (f (m + 1)) ∧ G (m + 1) = (d, Ss i) :: G m
theorem FromG.up {l : List Oper} {ms : List Nat} {Ss Ss' : Nat → VP} {i t : Nat} {S : VP} (h : FromG l ms Ss i t S) (e : ∀ j, j < i → Ss' j = Ss j) : FromG l ms Ss' i t S := by
 obtain ⟨j, oj, h0, h1, h2, h3, h4, h5⟩ := h
 exact ⟨j, oj, h0, h1, h2, h3, h4, by rw [e j h0]; exact h5⟩
theorem RdAt.up {l : List Oper} {Ms : Mem} {ms : List Nat} {Ss Ss' : Nat → VP} {i : Nat} (h : RdAt E P l Γ Ms ms Ss i) (e : ∀ j, j ≤ i → Ss' j = Ss j) : RdAt E P l Γ Ms ms Ss' i := by
 obtain ⟨o, d, Δ, h1, h2, h3, h4, h5⟩ := h.ex
 exact ⟨o, d, Δ, h1, h2, h3, fun t S ht => (h4 t S ht).imp (fun h => h.up fun j hj => e j (by omega)) id, by rw [e i (Nat.le_refl _)]; exact h5⟩
theorem phaseG {l : List Oper} {n : Nat} {ms : List Nat} {Ss : Nat → VP} {G : Nat → Ctx} {Ms : Mem} {f : Nat → Mem} {Θ : Ctx} (hms : ∀ i ∈ ms, i < n) (hrd : ∀ i, i < n → i ∉ ms → RdAt E P l Γ Ms ms Ss i) (hsub : ∀ m, m ≤ ms.length → Ms.Sublist (f m))
    (hmid : ∀ m, m < ms.length → MdAt E P l Γ ms Ss G f m) (hG : ∀ m t S, m ≤ ms.length → look (G m) t = some S → ∃ q i o, q < m ∧ ms[q]? = some i ∧ l[i]? = some o ∧ o.dst = some t)
    (hap : vq l n Γ = true) (htl : wA l n = true) (hnl : n ≤ l.length) (hΘ : ∀ t S, look Θ t = some S → (∃ (j : Nat) (oj : Oper), j < n ∧ j ∉ ms ∧ l[j]? = some oj ∧ oj.dst = some t ∧ Ss j = S) ∨ look (G ms.length ++ Γ) t = some S)
    (kk : Ops E P l.toArray Q (l.drop n) Θ (f ms.length)) :
    ∀ (fuel : Nat) (listed : Array Bool) (a : Act) (w : World) (F : Blk) (m : Nat), m ≤ ms.length → listed.toList.countP (· == false) ≤ fuel → listed.size = l.length →
    (∀ j, n ≤ j → j < l.length → listed.getD j true = false) → (∀ q i, ms[q]? = some i → (listed.getD i true = true ↔ q < m)) → xu l (fun j => listed.getD j false = true) → Sat E (G m ++ Γ) (f m) a w F →
    (∀ j oj dj, j < n → j ∉ ms → listed.getD j false = true → l[j]? = some oj → oj.dst = some dj → (Ss j).h w F (a.tmps.getD dj undef)) → wpAny P .any l.toArray Q fuel listed a w := by
  have hsp := ja htl
  have gd : ∀ (listed : Array Bool) j, j < listed.size → listed.getD j true = listed.getD j false := fun listed j hj => by simp [hj]
  have hapart : ∀ i d, i < n → (l[i]?).bind (·.dst) = some d → (∀ t S, look Γ t = some S → t ≠ d) ∧ ∀ j e, j < n → j ≠ i → (l[j]?).bind (·.dst) = some e → e ≠ d := by
    intro i d hi hd
    unfold vq at hap
    rw [List.all_eq_true] at hap
    have h1 := hap i (by simpa using hi)
    rw [hd] at h1
    simp only [Bool.and_eq_true] at h1
    refine ⟨xz h1.1, fun j e hj hne he => ?_⟩
    have h2 := List.all_eq_true.1 h1.2 j (by simpa using hj)
    rw [he] at h2
    simp only [Bool.or_eq_true, Bool.not_eq_true'] at h2
    rcases h2 with h2 | h2
    · exact absurd (Nat.eq_of_beq_eq_true h2).symm hne
    · exact fun e' => Nat.ne_of_beq_eq_false h2 e'.symm
  have hΓ : ∀ m t S, m ≤ ms.length → look Γ t = some S → look (G m ++ Γ) t = some S := by
    intro m t S hm ht
    rw [zK]
    cases hl : look (G m) t with
    | none => simpa using ht
    | some S' =>
      obtain ⟨q, i, o, h0, h1, h2, h3⟩ := hG m t S' hm hl
      exact absurd rfl ((hapart i t (hms i (List.mem_of_getElem? h1)) (by rw [h2]; exact h3)).1 t S ht)
  have hend : ∀ (fuel : Nat) (listed : Array Bool) (a : Act) (w : World) (F : Blk) (m : Nat), m ≤ ms.length → listed.toList.countP (· == false) ≤ fuel → listed.size = l.length →
      (∀ j, n ≤ j → j < l.length → listed.getD j true = false) → (∀ q i, ms[q]? = some i → (listed.getD i true = true ↔ q < m)) → xu l (fun j => listed.getD j false = true) → Sat E (G m ++ Γ) (f m) a w F →
      (∀ j oj dj, j < n → j ∉ ms → listed.getD j false = true → l[j]? = some oj → oj.dst = some dj → (Ss j).h w F (a.tmps.getD dj undef)) →
      (∀ j, j < n → j < l.length → listed.getD j true = true) → wpAny P .any l.toArray Q fuel listed a w := by
    intro fuel listed a w F m hm hcnt hsz htail hmids hc s hdone hall
    obtain rfl : m = ms.length := by
      rcases Nat.lt_or_ge m ms.length with h | h
      · have h1 := hms ms[m] (List.getElem_mem h)
        have h2 := (hmids m ms[m] (List.getElem?_eq_getElem h)).1 (hall ms[m] h1 (by omega))
        omega
      · omega
    have hge := aS hsz htail
    refine fA htl fuel n listed a w (Nat.le_refl _) (by omega) hsz hall htail hc (kk a w F (s.wider ?_))
    intro t S ht
    rcases hΘ t S ht with ⟨j, oj, g1, g2, g3, g4, rfl⟩ | h
    · exact hdone j oj t g1 g2 (by have h4 := hall j g1 (by omega); rw [gd listed j (by omega)] at h4; exact h4) g3 g4
    · exact s.slots t S h
  intro fuel
  induction fuel with
  | zero =>
    intro listed a w F m hm hcnt hsz htail hmids hc s hdone
    refine hend 0 listed a w F m hm hcnt hsz htail hmids hc s hdone fun j hj hjl => ?_
    have hlt : j < listed.size := by omega
    have h0 : listed.toList.countP (· == false) = 0 := by omega
    rw [List.countP_eq_zero] at h0
    have := h0 listed[j] (by simp)
    simp [hlt]
    simpa using this
  | succ fuel ih =>
    intro listed a w F m hm hcnt hsz htail hmids hc s hdone
    by_cases hall : ∀ j, j < n → j < l.length → listed.getD j true = true
    · exact hend _ listed a w F m hm hcnt hsz htail hmids hc s hdone hall
    · have hex : ∃ j, j < n ∧ listed.getD j true = false := by
        refine Classical.byContradiction fun hno => hall fun j hj _ => ?_
        cases hb : listed.getD j true with
        | true => rfl
        | false => exact absurd ⟨j, hj, hb⟩ hno
      refine ⟨fun hr => ?_, fun i hi => ?_⟩
      · obtain ⟨j, ⟨hj1, hj2⟩, hmin⟩ := exists_least hex
        have : j ∈ Region.ready .any l.toArray listed := by
          rw [mem_ready]
          have hjl : j < l.length := by omega
          refine ⟨hj2, l[j], by simp [hjl], fun e he hb => ?_⟩
          have hlt := hsp.1 j _ (List.getElem?_eq_getElem hjl) e he hb
          cases hbb : listed.getD e.on true with
          | true => rw [gd listed e.on (by omega)] at hbb; exact hbb
          | false => have := hmin e.on ⟨by omega, hbb⟩; omega
        rw [hr] at this; simp at this
      · have hi' := hi
        rw [mem_ready] at hi
        obtain ⟨g1, o, g2, g3⟩ := hi
        have g2' : l[i]? = some o := by simpa using g2
        have hil : i < l.length := by
          rcases Nat.lt_or_ge i l.length with h' | h'
          · exact h'
          · rw [List.getElem?_eq_none h'] at g2'; cases g2'
        have hin : i < n := by
          rcases Nat.lt_or_ge i n with h' | h'
          · exact h'
          · obtain ⟨j, hj1, hj2⟩ := hex
            obtain ⟨q, hq, hb⟩ := hsp.2 i hil h' j (by omega)
            have := vh hc i o g2' g3 j q hq hb
            have e : listed.getD j false = true := this
            rw [← gd listed j (by omega), hj2] at e; cases e
        have hmask : i < (zo l []).length := by rw [qZ]; simpa using hil
        have hcount : (listed.setIfInBounds i true).toList.countP (· == false) ≤ fuel := by
          have hlt : i < listed.toList.length := by simp; omega
          have hli : listed.toList[i] = false := by
            have : i < listed.size := by omega
            simp [this] at g1; simpa using g1
          rw [Array.toList_setIfInBounds, List.countP_set hlt]
          rw [hli]
          have hpos : 0 < listed.toList.countP (· == false) := List.countP_pos_iff.2 ⟨false, by rw [← hli]; exact List.getElem_mem _, rfl⟩
          simp only [beq_self_eq_true, if_true]
          show _ - 1 + 0 ≤ fuel
          omega
        have hclosed : xu l (fun j => (listed.setIfInBounds i true).getD j false = true) := by
          intro j oj hj hL e he hb
          by_cases ek : j = i
          · subst ek
            rw [g2'] at hj; obtain rfl := Option.some.inj hj
            exact getD_set_true (g3 e he hb)
          · exact getD_set_true (hc j oj hj (by
              have hL' : (listed.setIfInBounds i true).getD j false = true := hL
              rwa [getD_set_ne false (fun h => ek h.symm)] at hL') e he hb)
        have hbit : ∀ j, (((zo l [])[i]?).getD 0).testBit j = true → listed.getD j false = true := fun j hb => by
          rw [List.getElem?_eq_getElem hmask] at hb
          exact vh hc i o g2' g3 j _ (List.getElem?_eq_getElem hmask) (by simpa using hb)
        have hfrom : ∀ t S, FromG l ms Ss i t S → S.h w F (a.tmps.getD t undef) := by
          rintro t S ⟨j, oj, b0, b1, b2, b3, b4, rfl⟩
          exact hdone j oj t (by omega) b1 (hbit j b2) b3 b4
        have ho : l.toArray[i]? = some o := by simpa using g2'
        have hdn : ∀ (v : Value) (w' : World) (F' : Blk) (d : Nat), o.dst = some d → a.tmps.size = E.n → d < E.n → (∀ b, F b → w'.heap[b]? = w.heap[b]?) → (∀ b, F b → F' b) → ∀ j oj dj, j ≠ i → j < n → j ∉ ms → (listed.setIfInBounds i true).getD j false = true → l[j]? = some oj → oj.dst = some dj → (Ss j).h w' F' ((a.put o.dst v).tmps.getD dj undef) := by
          intro v w' F' d a2 hsize a3 hsame hsub' j oj dj ek hjn hjm hL hj hdj
          have hbind : (l[i]?).bind (·.dst) = some d := by rw [g2']; exact a2
          have hne := (hapart i d hin hbind).2 j dj hjn ek (by rw [hj]; exact hdj)
          rw [a2, xO (by rw [hsize]; exact a3), if_neg (fun e => hne e.symm)]
          refine (Ss j).mono _ _ _ _ _ (hdone j oj dj hjn hjm ?_ hj hdj) hsame hsub'
          rwa [getD_set_ne false (fun h => ek h.symm)] at hL
        by_cases him : i ∈ ms
        · -- the next of the chain
          obtain ⟨q, hql, hq⟩ := List.getElem_of_mem him
          have hq' : ms[q]? = some i := by rw [List.getElem?_eq_getElem hql, hq]
          have hqm : m ≤ q := by
            rcases Nat.lt_or_ge q m with h | h
            · have := (hmids q i hq').2 h
              rw [g1] at this; cases this
            · exact h
          have hqe : q = m := by
            rcases Nat.lt_or_ge m q with h | h
            · obtain ⟨i', o', d, Δ, c1, c2, c3, c4, c5, c6, c7, c8⟩ := (hmid q hql).ex
              rw [hq'] at c1; obtain rfl := Option.some.inj c1
              have hb := c6 m ms[m] h (List.getElem?_eq_getElem (by omega))
              have h1 := hbit _ hb
              have h2 := hms ms[m] (List.getElem_mem (by omega))
              rw [← gd listed _ (by omega)] at h1
              have := (hmids m ms[m] (List.getElem?_eq_getElem (by omega))).1 h1
              omega
            · omega
          subst hqe
          obtain ⟨i', o', d, Δ, c1, c2, c3, c4, c5, c6, c7, c8⟩ := (hmid q hql).ex
          rw [hq'] at c1; obtain rfl := Option.some.inj c1
          rw [g2'] at c2; obtain rfl := Option.some.inj c2
          have hsat : Sat E Δ (f q) a w F := s.wider fun t S ht => (c5 t S ht).elim (hfrom t S) (fun h => s.slots t S h)
          have hgo : ∀ v w' F', (∀ b, F b → w'.heap[b]? = w.heap[b]?) → (∀ b, F b → F' b) → (∀ Γ'', Sat E Γ'' (f q) a w F → Sat E Γ'' (f (q + 1)) a w' F') → (Ss i).h w' F' v → wpAny P .any l.toArray Q fuel (listed.setIfInBounds i true) (a.put o.dst v) w' := by
            intro v w' F' hsame hsub' hS hv
            have s1 := (hS _ s).put (d := d) c4 hv
            refine ih _ _ w' F' (q + 1) hql hcount (by simp [hsz]) (fun j hj hjl => ?_) (fun q' i' hq'' => ?_) hclosed (by rw [c8, c3]; exact s1) fun j oj dj hjn hjm hL hj hdj => hdn v w' F' d c3 s.size c4 hsame hsub' j oj dj (fun e => hjm (e ▸ him)) hjn hjm hL hj hdj
            · rw [getD_set_ne true (by omega)]; exact htail j hj hjl
            · by_cases e : i' = i
              · subst e
                have : i' < listed.size := by omega
                simp [this]
                have h0 := hmids q' i' hq''
                rw [g1] at h0
                have h1 : q ≤ q' := by
                  rcases Nat.lt_or_ge q' q with h | h
                  · have := h0.2 h; cases this
                  · exact h
                rcases Nat.lt_or_ge q q' with h | h
                · obtain ⟨_, hql'⟩ : True ∧ q' < ms.length := ⟨trivial, by
                    rcases Nat.lt_or_ge q' ms.length with h | h
                    · exact h
                    · rw [List.getElem?_eq_none h] at hq''; cases hq''⟩
                  obtain ⟨i2, o2, d2, Δ2, e1, e2, e3, e4, e5, e6, e7, e8⟩ := (hmid q' hql').ex
                  rw [hq''] at e1; obtain rfl := Option.some.inj e1
                  have := hbit _ (e6 q i' h hq')
                  rw [← gd listed _ (by omega), g1] at this; cases this
                · omega
              · rw [getD_set_ne true (fun h => e h.symm), hmids q' i' hq'']
                constructor
                · intro h; omega
                · intro h
                  rcases Nat.lt_or_ge q' q with h1 | h1
                  · exact h1
                  · obtain rfl : q' = q := by omega
                    rw [hq'] at hq''; obtain rfl := Option.some.inj hq''; exact absurd rfl e
          unfold wpOp
          rw [ho]
          show if Region.wanted o (yielded l.toArray a.tmps) then _ else _
          rw [if_pos (by simp [Region.wanted, c7.1])]
          exact .inl (c7.2 a w F hsat _ Q hgo)
        · obtain ⟨o', d, Δ, a1, a2, a3, a6, a7⟩ := (hrd i hin him).ex
          rw [g2'] at a1; obtain rfl := Option.some.inj a1
          have hbind : (l[i]?).bind (·.dst) = some d := by rw [g2']; exact a2
          obtain ⟨ap1, ap2⟩ := hapart i d hin hbind
          have ap3 : ∀ t S, look (G m ++ Γ) t = some S → t ≠ d := fun t S ht => by
            rw [zK] at ht
            cases hl : look (G m) t with
            | none => rw [hl] at ht; exact ap1 t S (by simpa using ht)
            | some S' =>
              obtain ⟨q, i', o2, h0, h1, h2, h3⟩ := hG m t S' hm hl
              have h4 := List.mem_of_getElem? h1
              exact ap2 i' t (hms i' h4) (fun e => him (e ▸ h4)) (by rw [h2]; exact h3)
          have hsat : Sat E Δ Ms a w F := (s.wider fun t S ht => (a6 t S ht).elim (hfrom t S) (fun h => s.slots t S (hΓ m t S hm h))).sub (hsub m hm)
          have hgo : ∀ v w' F', Adv w F w' F' → (Ss i).h w' F' v → wpAny P .any l.toArray Q fuel (listed.setIfInBounds i true) (a.put o.dst v) w' := by
            intro v w' F' ad hv
            have s1 := s.adv ad
            refine ih _ _ w' F' m hm hcount (by simp [hsz]) (fun j hj hjl => ?_) (fun q i' hq => ?_) hclosed (by rw [a2]; exact s1.putOut a3 v ap3) fun j oj dj hjn hjm hL hj hdj => ?_
            · rw [getD_set_ne true (by omega)]; exact htail j hj hjl
            · rw [getD_set_ne true (fun e : i = i' => him (by rw [e]; exact List.mem_of_getElem? hq))]; exact hmids q i' hq
            · by_cases ek : j = i
              · subst ek
                rw [g2'] at hj; obtain rfl := Option.some.inj hj
                rw [a2] at hdj; obtain rfl := Option.some.inj hdj
                rw [a2, xO (by rw [s.size]; exact a3), if_pos rfl]; exact hv
              · exact hdn v w' F' d a2 s.size a3 (ad.same s.flt) ad.sub j oj dj ek hjn hjm hL hj hdj
          have hres := a7 a w F hsat (wpAny P .any l.toArray Q fuel (listed.setIfInBounds i true)) Q hgo
          unfold wpOp
          rw [ho]
          exact hres
def inMs (ms : List Nat) (i : Nat) : Bool := ms.any fun j => Nat.beq j i
theorem inMs_no {ms : List Nat} {i : Nat} (h : inMs ms i = false) : i ∉ ms := fun hm => by
 have := List.any_eq_false.1 h i hm
 simp [jR] at this
def DrX (E : Env) (P : Program) (id : Nat) (l : List Oper) (Γ : Ctx) (M Ms : Mem) (Q : Exit → Act → World → Prop) (ms : List Nat) (i : Nat) (Θ Δm : Ctx) (m : Nat) (Mc : Mem) : Prop :=
  ∀ (Ss : Nat → VP) (G : Nat → Ctx) (f : Nat → Mem), (∀ j, j < i → j ∉ ms → RdAt E P l Γ Ms ms Ss j) → (∀ t S, look Θ t = some S → ∃ (j : Nat) (o : Oper), j < i ∧ j ∉ ms ∧ l[j]? = some o ∧ o.dst = some t ∧ Ss j = S) →
    G 0 = [] → G m = Δm → f 0 = M → f m = Mc → (∀ j, j ≤ m → Ms.Sublist (f j)) → (∀ j, j < m → MdAt E P l Γ ms Ss G f j) → (∀ q i', q < m → ms[q]? = some i' → i' < i) → (∀ q t S, q ≤ m → look (G q) t = some S → ∃ q' i' o, q' < q ∧ ms[q']? = some i' ∧ l[i']? = some o ∧ o.dst = some t) → Tri E P (.region id l.toArray true) Γ M Q
theorem Tri.drx {id : Nat} {l : List Oper} {Ms : Mem} (ms : List Nat) (bs : List Bool) (e : keepM bs M = Ms) (hs : Ms.Sublist M) (h : DrX E P id l Γ M Ms Q ms 0 [] [] 0 M) : Tri E P (.region id l.toArray true) Γ M Q :=
 h (fun _ => nilS) (fun _ => []) (fun _ => M) (fun j hj => absurd hj (Nat.not_lt_zero _)) (fun t S ht => by simp [look] at ht) rfl rfl rfl rfl (fun _ _ => hs) (fun j hj => absurd hj (Nat.not_lt_zero _)) (fun q i' hq => absurd hq (Nat.not_lt_zero _)) (fun q t S _ ht => by simp [look] at ht)
theorem fromG {l : List Oper} {ms : List Nat} {Ss : Nat → VP} {i t : Nat} {S : VP} {Θ : Ctx} {ts : List Nat} (hΘ : ∀ t S, look Θ t = some S → ∃ (j : Nat) (o : Oper), j < i ∧ j ∉ ms ∧ l[j]? = some o ∧ o.dst = some t ∧ Ss j = S) (h4 : vF l i ts = true) (h : look (qC ts Θ) t = some S) : FromG l ms Ss i t S := by
 obtain ⟨hm, hl2⟩ := qp _ _ _ h
 obtain ⟨j, oj, b0, b1, b2, b3, b4⟩ := hΘ t S hl2
 refine ⟨j, oj, b0, b1, ?_, b2, b3, b4⟩
 have := List.all_eq_true.1 h4 j (by simpa using b0)
 rw [b2] at this
 simp only [Option.bind_some, b3, Bool.or_eq_true] at this
 rcases this with h | h
 ·exact h
 ·have := List.all_eq_true.1 h t hm
  simp [Nat.beq_refl] at this
theorem MdAt.up {l : List Oper} {ms : List Nat} {Ss Ss' : Nat → VP} {G G' : Nat → Ctx} {f f' : Nat → Mem} {m i : Nat} (h : MdAt E P l Γ ms Ss G f m) (hi : ∀ i', ms[m]? = some i' → i' < i) (e : ∀ j, j < i → Ss' j = Ss j) (g1 : G' m = G m) (g2 : G' (m + 1) = G (m + 1)) (f1 : f' m = f m) (f2 : f' (m + 1) = f (m + 1)) : MdAt E P l Γ ms Ss' G' f' m := by
 obtain ⟨i', o, d, Δ, c1, c2, c3, c4, c5, c6, c7, c8⟩ := h.ex
 have hi' := hi i' c1
 exact ⟨i', o, d, Δ, c1, c2, c3, c4, fun t S ht => (c5 t S ht).imp (fun h => h.up fun j hj => e j (by omega)) (fun h => by rw [g1]; exact h), c6, by rw [f1, f2, e i' hi']; exact c7, by rw [g1, g2, e i' hi']; exact c8⟩
theorem DrX.st {id i d m : Nat} {l : List Oper} {Θ Δm : Ctx} {S : VP} {o : Oper} {Ms Mc : Mem} {ms : List Nat} (ts : List Nat) (h0 : inMs ms i = false) (h1 : l[i]? = some o) (h2 : o.dst = some d) (h3 : Nat.blt d E.n = true)
    (h4 : vF l i ts = true) (h5 : OKG E P l.toArray (qC ts Θ ++ Γ) Ms o S) (k : DrX E P id l Γ M Ms Q ms (i + 1) ((d, S) :: Θ) Δm m Mc) : DrX E P id l Γ M Ms Q ms i Θ Δm m Mc := by
  intro Ss G f hrd hΘ hG0 hGm hf0 hfm hsub hmid hlt hGl
  have him := inMs_no h0
  have he : ∀ j, j < i → (if j = i then S else Ss j) = Ss j := fun j hj => if_neg (by omega)
  refine k (fun j => if j = i then S else Ss j) G f (fun j hj hjm => ?_) (fun t S' ht => ?_) hG0 hGm hf0 hfm hsub (fun j hj => (hmid j hj).up (i := i) (fun i' hi' => hlt j i' hj hi') he rfl rfl rfl rfl) (fun q i' hq hi' => Nat.lt_succ_of_lt (hlt q i' hq hi')) hGl
  · by_cases e : j = i
    · subst e
      exact ⟨o, d, qC ts Θ ++ Γ, h1, h2, by simpa [Nat.blt_eq] using h3, fun t S' ht => by
        rw [zK] at ht
        cases hl : look (qC ts Θ) t with
        | none => rw [hl] at ht; exact .inr (by simpa using ht)
        | some S'' =>
          rw [hl] at ht
          obtain rfl : S'' = S' := by simpa using ht
          exact .inl ((fromG hΘ h4 hl).up he), by rw [if_pos rfl]; exact h5⟩
    · exact (hrd j (by omega) hjm).up fun q hq => if_neg (by omega)
  · simp only [look] at ht
    cases hb : Nat.beq d t with
    | true =>
      rw [hb] at ht; simp at ht; subst ht
      obtain rfl := Nat.eq_of_beq_eq_true hb
      exact ⟨i, o, by omega, him, h1, h2, if_pos rfl⟩
    | false =>
      rw [hb] at ht
      obtain ⟨j, oj, b0, b1, b2, b3, b4⟩ := hΘ t S' ht
      exact ⟨j, oj, by omega, b1, b2, b3, by rw [if_neg (by omega)]; exact b4⟩
def chainX (l : List Oper) (ms : List Nat) (m i : Nat) : Bool := (ms.take m).all fun j => (((zo l [])[i]?).getD 0).testBit j
theorem DrX.mid {id i d m : Nat} {l : List Oper} {Θ Δm : Ctx} {S : VP} {o : Oper} {Ms Mc M' : Mem} {ms : List Nat} (ts : List Nat) (h0 : ms[m]? = some i) (h1 : l[i]? = some o) (h2 : o.dst = some d) (h3 : Nat.blt d E.n = true)
    (h4 : vF l i ts = true) (hc : chainX l ms m i = true) (h5 : StG E P (qC ts Θ ++ (Δm ++ Γ)) Mc o S M') (hs : Ms.Sublist M') (k : DrX E P id l Γ M Ms Q ms (i + 1) Θ ((d, S) :: Δm) (m + 1) M') : DrX E P id l Γ M Ms Q ms i Θ Δm m Mc := by
  intro Ss G f hrd hΘ hG0 hGm hf0 hfm hsub hmid hlt hGl
  have him : i ∈ ms := List.mem_of_getElem? h0
  have he : ∀ j, j < i → (if j = i then S else Ss j) = Ss j := fun j hj => if_neg (by omega)
  refine k (fun j => if j = i then S else Ss j) (fun q => if q = m + 1 then (d, S) :: Δm else G q) (fun q => if q = m + 1 then M' else f q) (fun j hj hjm => ?_) (fun t S' ht => ?_) (by rw [if_neg (by omega)]; exact hG0) (if_pos rfl) (by rw [if_neg (by omega)]; exact hf0) (if_pos rfl) (fun j hj => ?_) (fun j hj => ?_) (fun q i' hq hi' => ?_) (fun q t S' hq ht => ?_)
  · have : j ≠ i := fun e => hjm (e ▸ him)
    exact (hrd j (by omega) hjm).up fun q hq => if_neg (by omega)
  · obtain ⟨j, oj, b0, b1, b2, b3, b4⟩ := hΘ t S' ht
    exact ⟨j, oj, by omega, b1, b2, b3, by rw [if_neg (by omega)]; exact b4⟩
  · show Ms.Sublist (if j = m + 1 then M' else f j)
    split
    · exact hs
    · exact hsub j (by omega)
  · by_cases e : j = m
    · subst e
      refine ⟨i, o, d, qC ts Θ ++ (Δm ++ Γ), h0, h1, h2, by simpa [Nat.blt_eq] using h3, fun t S' ht => ?_, fun q i' hq hi' => ?_, by show StG E P _ (if j = j + 1 then M' else f j) o (if i = i then S else Ss i) (if j + 1 = j + 1 then M' else f (j + 1)); rw [if_neg (Nat.ne_of_lt (Nat.lt_succ_self _)), if_pos rfl, if_pos rfl, hfm]; exact h5, by show (if j + 1 = j + 1 then (d, S) :: Δm else G (j + 1)) = (d, if i = i then S else Ss i) :: (if j = j + 1 then (d, S) :: Δm else G j); rw [if_pos rfl, if_pos rfl, if_neg (Nat.ne_of_lt (Nat.lt_succ_self _)), hGm]⟩
      · rw [zK] at ht
        cases hl : look (qC ts Θ) t with
        | none => rw [hl] at ht; exact .inr (by rw [if_neg (by omega), hGm]; simpa using ht)
        | some S'' =>
          rw [hl] at ht
          obtain rfl : S'' = S' := by simpa using ht
          exact .inl ((fromG hΘ h4 hl).up he)
      · refine List.all_eq_true.1 hc i' ?_
        refine List.mem_of_getElem? (i := q) ?_
        rw [List.getElem?_take_of_lt hq]; exact hi'
    · exact (hmid j (by omega)).up (i := i) (fun i' hi' => hlt j i' (by omega) hi') he (if_neg (by omega)) (if_neg (by omega)) (if_neg (by omega)) (if_neg (by omega))
  · by_cases e : q = m
    · subst e; rw [h0] at hi'; obtain rfl := Option.some.inj hi'; omega
    · exact Nat.lt_succ_of_lt (hlt q i' (by omega) hi')
  · by_cases e : q = m + 1
    · rw [if_pos e] at ht
      simp only [look] at ht
      cases hb : Nat.beq d t with
      | true =>
        obtain rfl := Nat.eq_of_beq_eq_true hb
        exact ⟨m, i, o, by omega, h0, h1, h2⟩
      | false =>
        rw [hb] at ht
        obtain ⟨q', i', o', r1, r2⟩ := hGl m t S' (Nat.le_refl _) (by rw [hGm]; exact ht)
        exact ⟨q', i', o', by omega, r2⟩
    · rw [if_neg e] at ht
      exact hGl q t S' (by omega) ht
theorem DrX.fin {id n m : Nat} {l : List Oper} {Θ Δm : Ctx} {Ms Mc : Mem} {ms : List Nat} (hm : P.follows .mixedOrders = true) (hml : m = ms.length) (hap : vq l n Γ = true) (htl : wA l n = true) (hnl : Nat.ble n l.length = true)
    (k : Ops E P l.toArray Q (l.drop n) (Θ ++ (Δm ++ Γ)) Mc) : DrX E P id l Γ M Ms Q ms n Θ Δm m Mc := by
  intro Ss G f hrd hΘ hG0 hGm hf0 hfm hsub hmid hlt hGl
  subst hml
  have hnl' := Nat.le_of_ble_eq_true hnl
  have hms : ∀ i ∈ ms, i < n := fun i hi => by
    obtain ⟨q, hq, he⟩ := List.getElem_of_mem hi
    exact hlt q i hq (by rw [List.getElem?_eq_getElem hq, he])
  intro a w F s
  refine wp_region_any hm ?_
  have s1 := s.adv (Adv.drew w F)
  refine phaseG (Θ := Θ ++ (Δm ++ Γ)) hms hrd hsub hmid (fun m' t S hm' ht => hGl m' t S hm' ht) hap htl hnl' (fun t S ht => ?_) (by rw [hfm]; exact k) _ _ a _ F 0 (Nat.zero_le _) ?_ (by simp) (fun j hj hjl => ?_) (fun q i hq => ?_) ?_ (by rw [hG0, hf0]; exact s1) ?_
  · rw [zK] at ht
    cases hl : look Θ t with
    | none => rw [hl] at ht; exact .inr (by rw [hGm]; simpa using ht)
    | some S' =>
      rw [hl] at ht
      obtain rfl : S' = S := by simpa using ht
      exact .inl (hΘ t S' hl)
  · simp
    exact Nat.le_trans List.countP_le_length (by simp)
  · have : j < l.length := hjl
    simp [this]
  · have := hms i (List.mem_of_getElem? hq)
    have h2 : i < l.length := by omega
    simp [h2]
  · intro i o hi hL
    simp [Array.getD_eq_getD_getElem?, Array.getElem?_replicate] at hL
    split at hL <;> simp at hL
  · intro j o d hj hjm hL
    simp [Array.getD_eq_getD_getElem?, Array.getElem?_replicate] at hL
    split at hL <;> simp at hL
theorem Cv.freezeGKX {α : Type} {fk : α → List VP} {k t : Nat} {g : Gr α} {ys : List α} {M0 : Mem} (hk : ∀ y, (fk y).length = k) (hW : E.W = blks M0) (ht : look Γ t = some (isGr g ys.length)) (hM : M = grMK fk g ys :: M0) : Cv E Γ M ((t, SlK k fk ys) :: Γ) M0 := by
  subst hM
  intro a w F s
  have hp := List.pairwise_cons.1 s.mem.apart
  rcases id (s.slots t _ ht) with ⟨hob, hyl, e1⟩ | ⟨b, hob, e1, hcap, hcm0⟩
  · refine ⟨F, { s with slots := ?_, mem := ⟨hp.2, fun k C hk => s.mem.each k C (List.mem_cons_of_mem _ hk)⟩ }⟩
    intro t' S' ht'
    simp only [look] at ht'
    cases hb : Nat.beq t t' with
    | false => rw [hb] at ht'; exact s.slots t' S' ht'
    | true =>
      rw [hb] at ht'
      obtain rfl : SlK k fk ys = S' := by simpa using ht'
      obtain rfl := Nat.eq_of_beq_eq_true hb
      rw [e1, List.eq_nil_of_length_eq_zero hyl]
      exact nilK
  · obtain ⟨h1, h2, h3, ob, h4, vs, T', rfl, hv⟩ := s.mem.each b (zB ((ys ++ g.sp).flatMap fk)) (by unfold grMK; rw [hob]; exact List.mem_cons_self)
    have hne : ∀ (k : Nat) (C : MP), (some k, C) ∈ M0 → k ≠ b := fun k C hk e => by
      subst e
      rcases hp.1 _ hk with h | h
      · unfold grMK at h; rw [hob] at h; cases h
      · exact h (by unfold grMK; exact hob)
    refine ⟨fun k => F k ∨ k = b, ?_⟩
    have hsub : ∀ k, F k → (F k ∨ k = b) := fun k hk => .inl hk
    have hbW : E.w0.heap.size ≤ b := h1.resolve_right (by
      rw [hW]; intro hb
      obtain ⟨C, hC⟩ := mem_blks.1 hb
      exact hne b C hC rfl)
    refine { defers := s.defers, size := s.size, keep := s.keep, f0 := fun k hk => .inl (s.f0 k hk), fnew := ?_, flt := ?_, slots := ?_, mem := ⟨hp.2, ?_⟩ }
    · rintro k (hk | rfl)
      · exact s.fnew k hk
      · exact .inr ⟨hbW, h2⟩
    · rintro k (hk | rfl)
      · exact s.flt k hk
      · exact h2
    · intro t' S' ht'
      simp only [look] at ht'
      cases hb : Nat.beq t t' with
      | false => rw [hb] at ht'; exact S'.mono _ _ _ _ _ (s.slots t' S' ht') (fun _ _ => rfl) hsub
      | true =>
        rw [hb] at ht'
        obtain rfl : SlK k fk ys = S' := by simpa using ht'
        obtain rfl := Nat.eq_of_beq_eq_true hb
        have hvt := hv.take (ys.flatMap fk).length
        rw [List.flatMap_append, List.take_left' rfl] at hvt
        refine ⟨_, _, e1, by omega, hcm0, qW hk ys, .inr ⟨b, 0, rfl, .inr rfl, _, All2.mono (fun _ _ => rfl) hsub _ _ hvt, fun j u hj => ?_⟩⟩
        have hj2 : vs[j]? = some u := by
          rw [List.getElem?_take] at hj
          split at hj
          · exact hj
          · cases hj
        simp [World.cell?, h4, hj2]
    · intro k C hk
      obtain ⟨g1, g2, g3, o2, g4, g5⟩ := s.mem.each k C (List.mem_cons_of_mem _ hk)
      exact ⟨g1, g2, fun h => h.elim g3 (hne k C hk), o2, g4, C.mono _ _ _ _ _ g5 (fun _ _ => rfl) hsub⟩
end
end Go.En
namespace Go.Proofs.YthmhlblaleahpaaGreat
open Go.En Go.RowKit
set_option maxRecDepth 10000
set_option maxHeartbeats 4000000
open Go.Nt
open Go.Pz
open Go.Mz
open Go.Hn
open Go.Hp
open Go.Dt
theorem xn {X Y : List Rat} {A B : Nat} (hx : QB X A) (hy : QB Y B) (hl : X.length = Y.length) (hn : X.length ≤ 64) (hAB : A + B ≤ 1000000) : Ctr Tryz.prog 28 [isQs X, isQs Y] (isQ (dotQ (qf X) (qf Y) X.length)) := by
 refine Ctr.intro Tryz.func28 rfl (by kernel_rfl) Tryz.ntmps28 rfl fun w0 F0 => .cv (Cv.wk (.l [0, 1] rfl)) ?_
 have hXl : (X.map nq).length = X.length := List.length_map _
 have hYl : (Y.map nq).length = Y.length := List.length_map _
 refine .seq fun _ k1 => .region (.alloc [isB false, SlM isU [], isB false, SlM isU []] zt (fun _ _ => ⟨rfl, nilM _ _, rfl, nilM _ _, trivial⟩) rfl fun b1 => nl (.thn (k1 _ _ (.seq fun _ k2 => .region (st (.build [isB false, SlM isU []] pl41 zG (fun _ _ => ⟨rfl, nilM _ _, trivial⟩) .nil (Z'' := [_, _]) rfl) rfl (st (.eq (.call (ag (by rw [show val [] = 0 from rfl, zF]; exact Nat.zero_le _)) (.cons (.t rfl) .nil)) ((show isQ _ = isQ 0 from qk rfl))) rfl ?_))))))
 refine .alloc [isB false, SlM isU [], isB false, SlM isU []] zt (fun _ _ => ⟨rfl, nilM _ _, rfl, nilM _ _, trivial⟩) rfl fun b2 => .store (.t rfl) (.t rfl) (i := 0) rfl ty43 rfl rfl (Ss' := [_, _, _, _]) rfl (M' := [(some _, zB [_, _, _, _]), _]) rfl (nl (.thn (k2 _ _ (.seq fun _ k3 => .seq fun _ k4 => .region (st (.mv (.t rfl)) rfl (st (.len sl37 (.t rfl)) rfl (st (.mv (.cI 0 rfl)) rfl (nl (.thn (k4 _ _ (.block (.loopF [0, 1, 4, 5, 10] (fun (z : { n : Nat // n ≤ X.length }) => match z with | ⟨n, hI⟩ => [(11, isI (n : Int))]) (fun M => fun (z : { n : Nat // n ≤ X.length }) => match z with | ⟨n, hI⟩ => [(some b2, zB (rc (nq (dotQ (qf X) (qf Y) n)))), (some b1, zB [isB false, SlM isU [], isB false, SlM isU []])]) (fun (z : { n : Nat // n ≤ X.length }) => match z with | ⟨n, hI⟩ => X.length - n) (⟨0, Nat.zero_le _⟩) (Cv.mem (.c 11 rfl ?_ (.l [0, 1, 4, 5, 10] rfl)) ?_) ?_))))))))))))
 ·rfl
 ·rfl
 rintro ⟨n, hI⟩ K5 hK5
 refine .cv (Cv.wk (.l [11, 0, 1, 4, 5, 10] rfl)) (.memEq (M' := [(some b2, zB (rc (nq (dotQ (qf X) (qf Y) n)))), (some b1, zB [isB false, SlM isU [], isB false, SlM isU []])]) rfl ?_)
 have hds := bm hx hy n
 have hnb : n * (A + B + 1) ≤ 64 * (A + B + 1) := Nat.mul_le_mul_right _ (by omega)
 refine .seq fun _ k6 => .region (st (.ltI (.t rfl) (.t rfl)) rfl (nl (.thn (k6 _ _ (.seq fun _ k7 => .cond (.t rfl) (fun hc1 => ?_) (fun hc1 => ?_))))))
 ·have hc1 := BP.t hc1
  refine .skip (.thn (k7 _ _ (.seq fun _ k8 => .block (.seq fun _ k9 => .region (st (.mv (.t rfl)) rfl (st (.as (.t rfl)) rfl (nl (.thn (k9 _ _ (.dr (.s [] rfl rfl rfl (.o rfl (.load (.t rfl) (i := 0) rfl ty43 rfl (Ss' := [_, _, _, _]) rfl)) (.s [] rfl rfl rfl (.o rfl (.mv (.t rfl))) (.s [] rfl rfl rfl (.o rfl (.mv (.t rfl))) (.s [15, 16] rfl rfl rfl (.o rfl (.ixK sl37 ty43 (.t rfl) (.t rfl) qg ⟨by omega, by omega⟩ (getQ (i := n) (by omega)))) (.s [17] rfl rfl rfl (.o rfl (.loadP (.t rfl) ty43 rfl (Ss' := [_, _, _, _]) rfl)) (.s [] rfl rfl rfl (.o rfl (.mv (.t rfl))) (.s [] rfl rfl rfl (.o rfl (.mv (.t rfl))) (.s [19, 20] rfl rfl rfl (.o rfl (.ixK sl37 ty43 (.t rfl) (.t rfl) qg ⟨by omega, by omega⟩ (getQ (i := n) (by omega)))) (.s [21] rfl rfl rfl (.o rfl (.loadP (.t rfl) ty43 rfl (Ss' := [_, _, _, _]) rfl)) (.s [18, 22] rfl rfl rfl (.o rfl (.call (bT (hx n) (hy n) (by omega)) (.cons (.t rfl) (.cons (.t rfl) .nil)))) (.fin (n := 10) zR (by kernel_rfl) (by kernel_rfl) (by kernel_rfl) (.cv (Cv.wk (.l [0, 1, 4, 5, 10, 11, 12, 13, 6, 14, 15, 16, 17, 18, 19, 20, 21, 22, 23] rfl)) (st (.call (bU hds (ah (hx n) (hy n)) (by omega)) (.cons (.t rfl) (.cons (.t rfl) .nil))) rfl (.store (.t rfl) (.t rfl) (i := 0) rfl ty43 rfl rfl (Ss' := [_, _, _, _]) rfl (M' := [(some _, zB [_, _, _, _]), _]) rfl (nl (.bln (.thn (k8 _ _ ?_))))))))))))))))))))))))))))
  refine .region (st (.addI (.t rfl) (.cI 1 rfl) (by omega) (by omega)) rfl (st (.mv (.t rfl)) rfl (nl (.thn (hK5 (⟨n + 1, by omega⟩) _ _ ?_ (Cv.mem (.c 11 rfl ?_ (.l [0, 1, 4, 5, 10] rfl)) ?_))))))
  ·show X.length - (n + 1) < X.length - n; omega
  ·exact zE (by omega)
  ·rfl
 ·have hc1 := BP.f hc1
  refine .exit (.the (.the (.blh (.thn (k3 _ _ (.cv (Cv.wk (.l [4, 5] rfl)) (.seq fun _ k10 => .region (st (.load (.t rfl) (i := 0) rfl ty43 rfl (Ss' := [_, _, _, _]) rfl) rfl (.store (.t rfl) (.t rfl) (i := 1) rfl ty43 rfl rfl (Ss' := [_, _, _, _]) rfl (M' := [_, (some _, zB [_, _, _, _])]) rfl (nl (.thn (k10 _ _ (.ret (rt1 (.inl rfl) Tryz.results28 rfl (.cell rfl (i := 1) rfl ty43 rfl ?_ .nil)))))))))))))))
  all_goals (exact qk (by rw [show n = X.length by omega]))
theorem eH {p q : Rat} {A B : Nat} (hp : qs p ≤ A) (hq : qs q ≤ B) (hAB : A + B ≤ 1000000000) (h0 : q ≠ 0) : Ctr Tryz.prog 27 [isQ p, isQ q] (isQ (p / q)) := by
 refine Ctr.intro Tryz.func27 rfl (by kernel_rfl) Tryz.ntmps27 rfl fun w0 F0 => .cv (Cv.wk (.l [0, 1] rfl)) (.seq fun _ k1 => .region (.box (.t rfl) rfl fun b1 => .box (.t rfl) rfl fun b2 => .alloc [isB false, SlM isU [], isB false, SlM isU []] zt (fun _ _ => ⟨rfl, nilM _ _, rfl, nilM _ _, trivial⟩) rfl fun b3 => nl (.thn (k1 _ _ (.seq fun _ k2 => .region (st (.load (.t rfl) (i := 2) rfl ty43 rfl (Ss' := [_, _, _, _]) rfl) rfl (st (.load (.t rfl) (i := 1) rfl ty43 rfl (Ss' := [_, _, _, _]) rfl) rfl (st (.call (rat_Quo hp hq hAB h0) (.cons (.t rfl) (.cons (.t rfl) .nil))) rfl (st (.mv (.t rfl)) rfl (st (.ext (.t rfl) rfl) rfl (st (.ext (.t rfl) rfl) rfl (.alloc [isB false, SlM isU [], isB false, SlM isU []] zt (fun _ _ => ⟨rfl, nilM _ _, rfl, nilM _ _, trivial⟩) rfl fun b4 => .store (.t rfl) (.t rfl) (i := 0) rfl ty43 rfl rfl (Ss' := [_, _, _, _]) rfl (M' := [(some _, zB [_, _, _, _]), _, _, _]) rfl (st (.as (.t rfl)) rfl (nl (.thn (k2 _ _ (.cv (Cv.wk (.l [4, 5] rfl)) (.seq fun _ k3 => .region (st (.load (.t rfl) (i := 0) rfl ty43 rfl (Ss' := [_, _, _, _]) rfl) rfl (.store (.t rfl) (.t rfl) (i := 1) rfl ty43 rfl rfl (Ss' := [_, _, _, _]) rfl (M' := [_, (some _, zB [_, _, _, _]), _, _]) rfl (nl (.thn (k3 _ _ (.ret (rt1 (.inl rfl) Tryz.results27 rfl (.cell rfl (i := 1) rfl ty43 rfl ?_ .nil))))))))))))))))))))))))))
 all_goals (rfl)
theorem gram_row {R C i : Nat} {xs : List (Bool × List Nat)} (hR : R ≤ 64) (hC : C ≤ 64) (hl : xs.length = R * C) (hi : i < R) : Ctr Tryz.prog 32 [isM (R : Int) (C : Int) xs, isI (i : Int)] (SlK 2 zc ((xs.take ((i + 1) * C)).drop (i * C))) := by
 refine Ctr.intro Tryz.func32 rfl (by kernel_rfl) Tryz.ntmps32 rfl fun w0 F0 => .cv (Cv.wk (.l [0, 1] rfl)) (.fact (Has.rngI (Has.t (t := 1) rfl)) fun lt1 => ?_)
 have hRC := qL hR hC
 have hpl1 : (i + 1) * C ≤ R * C := Nat.mul_le_mul_right _ hi
 have hpl2 : (i + 1) * C = i * C + C := Nat.succ_mul _ _
 have hc1 : ((i : Int) * (C : Int)) = ((i * C : Nat) : Int) := (Int.natCast_mul i C).symm
 have hc2 : (((i : Int) + 1) * (C : Int)) = (((i + 1) * C : Nat) : Int) := by rw [Int.natCast_mul]; rfl
 refine .seq fun _ k1 => .region (.box (.t rfl) rfl fun b1 => st (.as (.cWK (k := 2) (fk := zc))) rfl (nl (.thn (k1 _ _ (.seq fun _ k2 => .region (st (.fieldAddr (.t rfl) qU ty22) rfl (st (.load1 (.t rfl) (i := 0) rfl ty22 rfl) rfl (st (.mv (.t rfl)) rfl (st (.fieldAddr (.t rfl) zS ty3) rfl (st (.load1 (.t rfl) (i := 0) rfl ty3 rfl) rfl (st (.eq (.mulI (.t rfl) (.t rfl) (by omega) (by omega)) ((show isI _ = isI ((i * C : Nat) : Int) from zE hc1))) rfl (st (.mv (.t rfl)) rfl (st (.addI (.t rfl) (.cI 1 rfl) (by omega) (by omega)) rfl (st (.fieldAddr (.t rfl) zS ty3) rfl (st (.load1 (.t rfl) (i := 0) rfl ty3 rfl) rfl (st (.eq (.mulI (.t rfl) (.t rfl) (by omega) (by omega)) ((show isI _ = isI (((i + 1) * C : Nat) : Int) from zE hc2))) rfl (st (.slLHK sl22 ty41 zO (.t rfl) (.t rfl) (.t rfl) ⟨by omega, by omega, by omega⟩) rfl (st (.as (.t rfl)) rfl (nl (.thn (k2 _ _ (.cv (Cv.wk (.l [4] rfl)) (.ret (rt1 (.inl rfl) Tryz.results32 rfl (.tmp (Has.t' rfl ?_) .nil)))))))))))))))))))))))))
 all_goals (rfl)
theorem cr {K : Nat} {vs : List (Bool × List Nat)} (hv : Bd (vals vs) K) (hK : K ≤ 1000000) (hn : vs.length ≤ 64) : Ctr Tryz.prog 29 [SlK 2 zc vs] (isQs (frs (vals vs))) := by
 refine Ctr.intro Tryz.func29 rfl (by kernel_rfl) Tryz.ntmps29 rfl fun w0 F0 => .cv (Cv.wk (.l [0] rfl)) (.fact (Has.lenLt (Has.t (t := 0) rfl)) fun lt0 => ?_)
 have hfl : (frs (vals vs)).length = vs.length := by rw [vX, qJ]
 refine .seq fun _ k1 => .region (st (.as (.cWK (k := 4) (fk := rc))) rfl (nl (.thn (k1 _ _ (.seq fun _ k2 => .region (.cv (Cv.grow0K (α := (Bool × List Nat) × Bool × List Nat) rc) (st (.as (Has.cGr (α := (Bool × List Nat) × Bool × List Nat))) rfl (nl (.thn (k2 _ _ (.seq fun _ k3 => .seq fun _ k4 => .region (st (.mv (.t rfl)) rfl (st (.len sl22 (.t rfl)) rfl (st (.mv (.cI 0 rfl)) rfl (nl (.thn (k4 _ _ (.block (.loopF [2, 6, 7] (fun (z : { z : Nat × Gr ((Bool × List Nat) × Bool × List Nat) // z.1 ≤ vs.length }) => match z with | ⟨(n, g), hI⟩ => [(8, isI (n : Int)), (3, isGr g (((frs (vals vs)).take n).map nq).length)]) (fun M => fun (z : { z : Nat × Gr ((Bool × List Nat) × Bool × List Nat) // z.1 ≤ vs.length }) => match z with | ⟨(n, g), hI⟩ => [grMK rc g (((frs (vals vs)).take n).map nq)]) (fun (z : { z : Nat × Gr ((Bool × List Nat) × Bool × List Nat) // z.1 ≤ vs.length }) => match z with | ⟨(n, g), hI⟩ => vs.length - n) (⟨(0, Gr.nil), Nat.zero_le _⟩) (Cv.mem (.c 8 rfl ?_ (.c 3 rfl ?_ (.l [2, 6, 7] rfl))) ?_) ?_)))))))))))))))))))
 ·rfl
 ·rfl
 ·rfl
 rintro ⟨⟨n, g⟩, hI⟩ K5 hK5
 refine .cv (Cv.wk (.l [8, 3, 2, 6, 7] rfl)) (.memEq (M' := [grMK rc g (((frs (vals vs)).take n).map nq)]) rfl ?_)
 simp only [] at hI
 have hvr := hv.raw n
 refine .seq fun _ k6 => .region (st (.ltI (.t rfl) (.t rfl)) rfl (nl (.thn (k6 _ _ (.seq fun _ k7 => .cond (.t rfl) (fun hc1 => ?_) (fun hc1 => ?_))))))
 ·have hc1 := BP.t hc1
  refine .skip (.thn (k7 _ _ (.seq fun _ k8 => .block (.seq fun _ k9 => .region (st (.ixK sl22 ty41 (.t rfl) (.t rfl) zO ⟨by omega, by omega⟩ (getD_some (d := (false, [])) (i := n) (by omega))) rfl (st (.loadP (.t rfl) ty41 rfl (Ss' := [_, _]) rfl) rfl (.alloc [isB false, SlM isU []] zG (fun _ _ => ⟨rfl, nilM _ _, trivial⟩) rfl fun b1 => .store (.t rfl) (.t rfl) (i := 0) rfl ty41 rfl rfl (Ss' := [_, _]) rfl (M' := [(some _, zB [_, _]), _]) rfl (nl (.thn (k9 _ _ (.region (st (.mv (.t rfl)) rfl ?_))))))))))))
  refine st (.load (.t rfl) (i := 0) rfl ty41 rfl (Ss' := [_, _]) rfl) rfl (st (.eq (.call (ag (by show (List.length (zA (val (vs.getD n (false, [])).2))) ≤ _; omega)) (.cons (.t rfl) .nil)) ((show isQ _ = Flat (rc (nq ((cf (vals vs) n : Int) : Rat))) from qk (by rw [zi])))) rfl ?_)
  refine st (.buildS [isB false, SlM isU [], isB false, SlM isU []] sl37 ty43 zt (fun _ _ => ⟨rfl, nilM _ _, rfl, nilM _ _, trivial⟩) rfl rfl (.cons (.t rfl) rfl rfl rfl .nil) rfl (S := SlK 4 rc [nq ((cf (vals vs) n : Int) : Rat)]) rfl) rfl (.appendGK (fk := rc) (u := ((false, []), (false, []))) qg (by decide) (fun _ => inferInstance) sl37 ty43 zt (fun _ _ => ⟨rfl, nilM _ _, rfl, nilM _ _, trivial⟩) by43 (.t rfl) (i := 1) rfl (.t rfl) (by rw [List.length_map, List.length_take]; show min n _ + 1 ≤ _; omega) (by simp) rfl fun gr1 => ?_)
  refine .memEq (M' := [_, grMK _ _ _]) rfl (st (.as (.t rfl)) rfl (nl (.bln (.thn (k8 _ _ (.region (st (.addI (.t rfl) (.cI 1 rfl) (by omega) (by omega)) rfl (st (.mv (.t rfl)) rfl (nl (.thn ?_))))))))))
  refine hK5 (⟨(n + 1, gr1), by show n + 1 ≤ vs.length; omega⟩) _ _ ?_ (Cv.trans (Cv.drop ((.cons _ (.cons_cons _ .slnil)))) (Cv.mem (.c 8 rfl ?_ (.c 3 rfl ?_ (.l [2, 6, 7] rfl))) ?_))
  ·show vs.length - (n + 1) < vs.length - n; omega
  ·exact zE (by omega)
  ·exact qq (by rw [jV (by rw [qJ]; omega), List.map_append, List.length_append]; rfl)
  ·exact grMK_eq (by rw [jV (by rw [qJ]; omega), List.map_append]; rfl)
 ·have hc1 := BP.f hc1
  refine .exit (.the (.the (.blh (.thn (k3 _ _ (.seq fun _ k10 => .cv (Cv.freezeGK (t := 3) (i := 0) (ys := ((frs (vals vs)).take n).map nq) qg rfl rfl rfl) (.memEq (M' := []) rfl (.cv (Cv.wk (.l [2, 6, 7, 8, 3, 9] rfl)) (.region (st (.mv (.t rfl)) rfl (st (.as (.t rfl)) rfl (nl (.thn (k10 _ _ (.cv (Cv.wk (.l [2] rfl)) (.ret (rt1 (.inl rfl) Tryz.results29 rfl (.tmp (Has.t' rfl ?_) .nil))))))))))))))))))
  all_goals (exact wZ (by rw [List.take_of_length_le (by omega)]))
theorem vD {X Y : List Rat} {A B : Nat} (hx : QB X A) (hy : QB Y B) (hl : X.length = Y.length) (hn : X.length ≤ 64) (hAB : A + B ≤ 1000000) : Ctr Tryz.prog 14 [isQs X, isQs Y] (isQ (dotQ (qf X) (qf Y) X.length)) := by
 refine Ctr.intro Tryz.func14 rfl (by kernel_rfl) Tryz.ntmps14 rfl fun w0 F0 => .cv (Cv.wk (.l [0, 1] rfl)) ?_
 have hXl : (X.map nq).length = X.length := List.length_map _
 have hYl : (Y.map nq).length = Y.length := List.length_map _
 refine .seq fun _ k1 => .region (.alloc [isB false, SlM isU [], isB false, SlM isU []] zt (fun _ _ => ⟨rfl, nilM _ _, rfl, nilM _ _, trivial⟩) rfl fun b1 => nl (.thn (k1 _ _ (.seq fun _ k2 => .region (st (.call (qi) (.cons (.cI 0 rfl) .nil)) rfl (st (.eq (.call (ag (by rw [zC]; exact Nat.le_trans (zz (by decide)) (by decide))) (.cons (.t rfl) .nil)) ((show isQ _ = isQ 0 from qk (by rw [zH]; rfl)))) rfl ?_))))))
 refine .alloc [isB false, SlM isU [], isB false, SlM isU []] zt (fun _ _ => ⟨rfl, nilM _ _, rfl, nilM _ _, trivial⟩) rfl fun b2 => .store (.t rfl) (.t rfl) (i := 0) rfl ty43 rfl rfl (Ss' := [_, _, _, _]) rfl (M' := [(some _, zB [_, _, _, _]), _]) rfl (nl (.thn (k2 _ _ (.seq fun _ k3 => .seq fun _ k4 => .region (st (.as (.cI 0 rfl)) rfl (nl (.thn (k4 _ _ (.block (.loopF [0, 1, 4, 5] (fun (z : { n : Nat // n ≤ X.length }) => match z with | ⟨n, hI⟩ => [(6, isI (n : Int))]) (fun M => fun (z : { n : Nat // n ≤ X.length }) => match z with | ⟨n, hI⟩ => [(some b2, zB (rc (nq (dotQ (qf X) (qf Y) n)))), (some b1, zB [isB false, SlM isU [], isB false, SlM isU []])]) (fun (z : { n : Nat // n ≤ X.length }) => match z with | ⟨n, hI⟩ => X.length - n) (⟨0, Nat.zero_le _⟩) (Cv.mem (.c 6 rfl ?_ (.l [0, 1, 4, 5] rfl)) ?_) ?_))))))))))
 ·rfl
 ·rfl
 rintro ⟨n, hI⟩ K5 hK5
 refine .cv (Cv.wk (.l [6, 0, 1, 4, 5] rfl)) (.memEq (M' := [(some b2, zB (rc (nq (dotQ (qf X) (qf Y) n)))), (some b1, zB [isB false, SlM isU [], isB false, SlM isU []])]) rfl ?_)
 have hds := bm hx hy n
 have hnb : n * (A + B + 1) ≤ 64 * (A + B + 1) := Nat.mul_le_mul_right _ (by omega)
 refine .seq fun _ k6 => .seq fun _ k7 => .region (st (.mv (.t rfl)) rfl (st (.mv (.t rfl)) rfl (st (.len sl37 (.t rfl)) rfl (st (.ltI (.t rfl) (.t rfl)) rfl (st (.mv (.t rfl)) rfl (stT rfl rfl (fun hg => .mv (.t rfl)) rfl (stT rfl rfl (fun hg => .mv (.t rfl)) rfl (stT rfl rfl (fun hg => .len sl37 (Has.g rfl hg)) rfl (stT rfl rfl (fun hg => .ltI (Has.g rfl hg) (Has.g rfl hg)) rfl (st (.pickAnd (.t rfl) (fun h => Has.g rfl h)) rfl (nl (.thn (k7 _ _ (.cond (.t rfl) (fun hc1 => ?_) (fun hc1 => ?_)))))))))))))))
 ·have hc1 := BP.t hc1
  refine .skip (.thn (k6 _ _ (.seq fun _ k8 => .block (.dr (.s [] rfl rfl rfl (.o rfl (.load (.t rfl) (i := 0) rfl ty43 rfl (Ss' := [_, _, _, _]) rfl)) (.s [] rfl rfl rfl (.o rfl (.mv (.t rfl))) (.s [] rfl rfl rfl (.o rfl (.mv (.t rfl))) (.s [22, 23] rfl rfl rfl (.o rfl (.ixK sl37 ty43 (.t rfl) (.t rfl) qg ⟨by omega, by omega⟩ (getQ (i := n) (by omega)))) (.s [24] rfl rfl rfl (.o rfl (.loadP (.t rfl) ty43 rfl (Ss' := [_, _, _, _]) rfl)) (.s [] rfl rfl rfl (.o rfl (.mv (.t rfl))) (.s [] rfl rfl rfl (.o rfl (.mv (.t rfl))) (.s [26, 27] rfl rfl rfl (.o rfl (.ixK sl37 ty43 (.t rfl) (.t rfl) qg ⟨by omega, by omega⟩ (getQ (i := n) (by omega)))) (.s [28] rfl rfl rfl (.o rfl (.loadP (.t rfl) ty43 rfl (Ss' := [_, _, _, _]) rfl)) (.s [25, 29] rfl rfl rfl (.o rfl (.call (bT (hx n) (hy n) (by omega)) (.cons (.t rfl) (.cons (.t rfl) .nil)))) (.fin (n := 10) zR (by kernel_rfl) (by kernel_rfl) (by kernel_rfl) (.cv (Cv.wk (.l [0, 1, 4, 5, 6, 9, 10, 11, 12, 13, 14, 15, 16, 17, 18, 21, 22, 23, 24, 25, 26, 27, 28, 29, 30] rfl)) (st (.call (bU hds (ah (hx n) (hy n)) (by omega)) (.cons (.t rfl) (.cons (.t rfl) .nil))) rfl (.store (.t rfl) (.t rfl) (i := 0) rfl ty43 rfl rfl (Ss' := [_, _, _, _]) rfl (M' := [(some _, zB [_, _, _, _]), _]) rfl (nl (.bln (.thn (k8 _ _ (.region (st (.mv (.t rfl)) rfl (st (.addI (.t rfl) (.cI 1 rfl) (by omega) (by omega)) rfl (st (.as (.t rfl)) rfl ?_))))))))))))))))))))))))))
  refine nl (.thn (hK5 (⟨n + 1, by omega⟩) _ _ ?_ (Cv.mem (.c 6 rfl ?_ (.l [0, 1, 4, 5] rfl)) ?_)))
  ·show X.length - (n + 1) < X.length - n; omega
  ·exact zE (by omega)
  ·rfl
 ·have hc1 := BP.f hc1
  refine .exit (.the (.the (.blh (.thn (k3 _ _ (.cv (Cv.wk (.l [4, 5] rfl)) (.seq fun _ k9 => .region (st (.load (.t rfl) (i := 0) rfl ty43 rfl (Ss' := [_, _, _, _]) rfl) rfl (.store (.t rfl) (.t rfl) (i := 1) rfl ty43 rfl rfl (Ss' := [_, _, _, _]) rfl (M' := [_, (some _, zB [_, _, _, _])]) rfl (nl (.thn (k9 _ _ (.ret (rt1 (.inl rfl) Tryz.results14 rfl (.cell rfl (i := 1) rfl ty43 rfl ?_ .nil)))))))))))))))
  all_goals (exact qk (by rw [show n = X.length by omega]))
theorem qz {α : Type} {fk : α → List VP} {g : Gr α} {ys ys' : List α} {M : Mem} (h : ys = ys') : (grMK fk g ys :: M : Mem) = grMK fk g ys' :: M := by rw [h]
theorem clone_Qs {L : List Rat} (hL : L.length ≤ 64) : Ctr Tryz.prog 81 [isQs L] (isQs L) := by
 refine Ctr.intro Tryz.func81 rfl (by kernel_rfl) Tryz.ntmps81 rfl fun w0 F0 => .cv (Cv.wk (.l [0] rfl)) ?_
 have hLl : (L.map nq).length = L.length := List.length_map _
 refine .seq fun _ k1 => .region (st (.as (.cWK (k := 4) (fk := rc))) rfl (nl (.thn (k1 _ _ (.seq fun _ k2 => .seq fun _ k3 => .region (st (.mv (.t rfl)) rfl (.eqNilK sl37 (.t rfl) rfl fun bn1 hn1 => nl (.thn (k3 _ _ (.cond (.t rfl) (fun hc2 => ?_) (fun hc2 => ?_)))))))))))
 ·have hc2 := BP.t hc2
  refine .seq fun _ k4 => .region (st (.as (.cWK (k := 4) (fk := rc))) rfl (nl (.thn (k4 _ _ (.ret (.thr (rt1 (.inl rfl) Tryz.results81 rfl (.tmp (Has.t' rfl ?_) .nil))))))))
  all_goals (exact wZ (List.map_eq_nil_iff.1 (hn1 hc2)).symm)
 ·have hc2 := BP.f hc2
  refine .skip (.thn (k2 _ _ (.seq fun _ k5 => .region (.buildS0 sl37 ty43 rfl (st (.mv (.t rfl)) rfl (st (.appendZK4 sl37 ty43 zt by43 (.t rfl) (.t rfl) (by omega)) rfl (st (.as (.t rfl)) rfl (nl (.thn (k5 _ _ (.cv (Cv.wk (.l [2] rfl)) (.ret (rt1 (.inl rfl) Tryz.results81 rfl (.tmp (Has.t' rfl ?_) .nil))))))))))))))
  all_goals (rfl)
theorem clone_QsX {L : List Rat} (h0 : 0 < L.length) (hL : L.length ≤ 64) : CtrX Tryz.prog 81 [isQs L] ([]) (fun S M => ∃ g : Gr ((Bool × List Nat) × Bool × List Nat), S = isGr g (L.map nq).length ∧ M = [grMK rc g (L.map nq)]) := by
 refine CtrX.intro Tryz.func81 rfl (by kernel_rfl) Tryz.ntmps81 rfl fun w0 F0 => .cv (Cv.wk (.l [0] rfl)) ?_
 have hLl : (L.map nq).length = L.length := List.length_map _
 refine .seq fun _ k1 => .region (st (.as (.cWK (k := 4) (fk := rc))) rfl (nl (.thn (k1 _ _ (.seq fun _ k2 => .seq fun _ k3 => .region (st (.mv (.t rfl)) rfl (.eqNilK sl37 (.t rfl) rfl fun bn1 hn1 => nl (.thn (k3 _ _ (.cond (.t rfl) (fun hc2 => ?_) (fun hc2 => ?_)))))))))))
 ·have hc2 := BP.t hc2
  exfalso; rw [hn1 hc2] at hLl; simp at hLl; omega
 ·have hc2 := BP.f hc2
  skip
  refine .skip (.thn (k2 _ _ (.seq fun _ k4 => .region (.buildS0 sl37 ty43 rfl (st (.mv (.t rfl)) rfl (.appendZG (fk := rc) (u := ((false, []), (false, []))) qg (by decide) sl37 ty43 zt (fun _ _ => ⟨rfl, nilM _ _, rfl, nilM _ _, trivial⟩) by43 (.t rfl) (.t rfl) (by omega) (by omega) rfl fun gr1 => st (.as (.t rfl)) rfl (nl (.thn (k4 _ _ (.cv (Cv.wk (.l [2] rfl)) (.ret (jO (.cons_cons _ .slnil) (.inl rfl) Tryz.results81 rfl (.tmp (.t rfl) .nil) (⟨gr1, rfl, rfl⟩)))))))))))))
theorem gram_lessX {X Y : List Rat} {c : Rat} {A B D : Nat} (hx : QB X A) (hy : QB Y B) (hc : qs c ≤ D) (hl : X.length = Y.length) (hn : X.length ≤ 64) (hAB : A + B + D ≤ 1000000) (h0 : 0 < X.length) : CtrX Tryz.prog 60 [isQs X, isQs Y, isQ c] ([]) (fun S M => S = isQs (lsQ X Y c)) := by
 refine CtrX.intro Tryz.func60 rfl (by kernel_rfl) Tryz.ntmps60 rfl fun w0 F0 => .cv (Cv.wk (.l [0, 1, 2] rfl)) ?_
 have hXl : (X.map nq).length = X.length := List.length_map _
 have hYl : (Y.map nq).length = Y.length := List.length_map _
 refine .seq fun _ k1 => .region (.box (.t rfl) rfl fun b1 => st (.as (.cWK (k := 4) (fk := rc))) rfl (nl (.thn (k1 _ _ (.seq fun _ k2 => .region (st (.mv (.t rfl)) rfl (.callX (clone_QsX h0 hn) (List.Perm.refl _) (.cons (.t rfl) .nil) rfl ?_)))))))
 rintro _ _ ⟨g0, rfl, rfl⟩
 refine .memEq (M' := [grMK rc g0 (X.map nq), (some b1, zB (rc (nq c)))]) rfl (st (.as (.t rfl)) rfl (nl (.thn (k2 _ _ (.seq fun _ k3 => .seq fun _ k4 => .region (st (.mv (.t rfl)) rfl (st (.len sl37 (.t rfl)) rfl (st (.mv (.cI 0 rfl)) rfl (nl (.thn (k4 _ _ (.cv (Cv.wk (.l [1, 5, 6, 7, 12, 13] rfl)) (.block (.loopF [1, 5, 6, 7, 12] (fun (z : { n : Nat // n ≤ X.length }) => match z with | ⟨n, hI⟩ => [(13, isI (n : Int))]) (fun M => fun (z : { n : Nat // n ≤ X.length }) => match z with | ⟨n, hI⟩ => [grMK rc g0 ((lsN X Y c n).map nq), (some b1, zB (rc (nq c)))]) (fun (z : { n : Nat // n ≤ X.length }) => match z with | ⟨n, hI⟩ => X.length - n) (⟨0, Nat.zero_le _⟩) (Cv.mem (.c 13 rfl ?_ (.l [1, 5, 6, 7, 12] rfl)) ?_) ?_))))))))))))))
 ·rfl
 ·rfl
 rintro ⟨n, hI⟩ K5 hK5
 refine .cv (Cv.wk (.l [13, 1, 5, 6, 7, 12] rfl)) (.memEq (M' := [grMK rc g0 ((lsN X Y c n).map nq), (some b1, zB (rc (nq c)))]) rfl ?_)
 have hNl : ((lsN X Y c n).map nq).length = X.length := by rw [List.length_map, bb hI]
 refine .seq fun _ k6 => .region (st (.ltI (.t rfl) (.t rfl)) rfl (nl (.thn (k6 _ _ (.seq fun _ k7 => .cond (.t rfl) (fun hc1 => ?_) (fun hc1 => ?_))))))
 ·have hc1 := BP.t hc1
  refine .skip (.thn (k7 _ _ (.seq fun _ k8 => .block (.seq fun _ k9 => .region (st (.mv (.t rfl)) rfl (st (.as (.t rfl)) rfl (nl (.thn (k9 _ _ (.dr (.s [] rfl rfl rfl (.o rfl (.mv (.t rfl))) (.s [] rfl rfl rfl (.o rfl (.mv (.t rfl))) (.s [] rfl rfl rfl (.o rfl (.mv (.t rfl))) (.s [] rfl rfl rfl (.o rfl (.mv (.t rfl))) (.s [18, 19] rfl rfl rfl (.o rfl (.ixGr sl37 ty43 (.t rfl) (.t rfl) ⟨by omega, by omega⟩)) ?_)))))))))))))))
  refine .s [20] rfl rfl rfl (.o rfl (.loadGK qg (.t rfl) (i := 0) rfl ty43 (lsN_get (n := n) (by omega)))) (.s [] rfl rfl rfl (.o rfl (.load (.t rfl) (i := 1) rfl ty43 rfl (Ss' := [_, _, _, _]) rfl)) (.s [] rfl rfl rfl (.o rfl (.mv (.t rfl))) (.s [] rfl rfl rfl (.o rfl (.mv (.t rfl))) (.s [23, 24] rfl rfl rfl (.o rfl (.ixK sl37 ty43 (.t rfl) (.t rfl) qg ⟨by omega, by omega⟩ (getQ (i := n) (by omega)))) (.s [25] rfl rfl rfl (.o rfl (.loadP (.t rfl) ty43 rfl (Ss' := [_, _, _, _]) rfl)) (.s [22, 26] rfl rfl rfl (.o rfl (.call (bT hc (hy n) (by omega)) (.cons (.t rfl) (.cons (.t rfl) .nil)))) (.s [21, 27] rfl rfl rfl (.o rfl (.call (et (hx n) (ah hc (hy n)) (by omega)) (.cons (.t rfl) (.cons (.t rfl) .nil)))) (.fin (n := 13) zR (by kernel_rfl) (by kernel_rfl) (by kernel_rfl) (.cv (Cv.wk (.l [1, 5, 6, 7, 12, 13, 14, 15, 8, 16, 17, 18, 19, 20, 21, 22, 23, 24, 25, 26, 27, 28] rfl)) (st (.ixGr sl37 ty43 (.t rfl) (.t rfl) ⟨by omega, by omega⟩) rfl (.storeGK (z := nq (qf X n - c * qf Y n)) qg (.t rfl) (.t rfl) (i := 0) rfl ty43 (by omega) (M' := [grMK _ _ _, _]) rfl (nl (.bln (.thn (k8 _ _ (.region (st (.addI (.t rfl) (.cI 1 rfl) (by omega) (by omega)) rfl (st (.mv (.t rfl)) rfl (nl (.thn (hK5 (⟨n + 1, by omega⟩) _ _ ?_ (Cv.mem (.c 13 rfl ?_ (.l [1, 5, 6, 7, 12] rfl)) ?_))))))))))))))))))))))
  ·show X.length - (n + 1) < X.length - n; omega
  ·exact zE (by omega)
  ·exact qz (by rw [set_nq, Int.toNat_natCast, lsN_set (by omega)])
 ·have hc1 := BP.f hc1
  refine .exit (.the (.the (.blh (.thn (k3 _ _ (.cv (Cv.wk (.l [6, 7] rfl)) (.seq fun _ k10 => .cv (Cv.wk (.k 6 rfl (.cons (t := 7) (Has.t' rfl (show isGr g0 (X.map nq).length = isGr g0 ((lsN X Y c n).map nq).length from qq (by rw [List.length_map, List.length_map, bb (by omega)]))) .nil))) (.cv (Cv.freezeGK (t := 7) (i := 0) (ys := (lsN X Y c n).map nq) qg rfl rfl rfl) (.memEq (M' := [_]) rfl (.cv (Cv.wk (.l [6, 7] rfl)) (.region (st (.mv (.t rfl)) rfl (st (.as (.t rfl)) rfl (nl (.thn (k10 _ _ (.ret (jO (.cons _ .slnil) (.inl rfl) Tryz.results60 rfl (.tmp (.t rfl) .nil) (wZ (by rw [show n = X.length by omega, lsN_all]))))))))))))))))))))
theorem gram_less0 {Y : List Rat} {c : Rat} : Ctr Tryz.prog 60 [isQs [], isQs Y, isQ c] (isQs []) := by
 refine Ctr.intro Tryz.func60 rfl (by kernel_rfl) Tryz.ntmps60 rfl fun w0 F0 => .cv (Cv.wk (.l [0, 1, 2] rfl)) (.seq fun _ k1 => .region (.box (.t rfl) rfl fun b1 => st (.as (.cWK (k := 4) (fk := rc))) rfl (nl (.thn (k1 _ _ (.seq fun _ k2 => .region (st (.mv (.t rfl)) rfl (st (.call (clone_Qs (L := []) (Nat.zero_le _)) (.cons (.t rfl) .nil)) rfl (st (.as (.t rfl)) rfl (nl (.thn (k2 _ _ (.seq fun _ k3 => .seq fun _ k4 => .region (st (.mv (.t rfl)) rfl (st (.len sl37 (.t rfl)) rfl (st (.mv (.cI 0 rfl)) rfl (nl (.thn (k4 _ _ (.cv (Cv.wk (.l [1, 5, 6, 7, 12, 13] rfl)) (.block (.loopF [1, 5, 6, 7, 12] (fun (_ : Unit) => [(13, isI 0)]) (fun M => fun (_ : Unit) => M) (fun (_ : Unit) => 0) (()) (Cv.mem (.c 13 rfl ?_ (.l [1, 5, 6, 7, 12] rfl)) ?_) ?_))))))))))))))))))))))
 ·rfl
 ·rfl
 rintro _ K5 hK5
 refine .cv (Cv.wk (.l [13, 1, 5, 6, 7, 12] rfl)) (.seq fun _ k6 => .region (st (.ltI (.t rfl) (.t rfl)) rfl (nl (.thn (k6 _ _ (.seq fun _ k7 => .cond (.t rfl) (fun hc1 => ?_) (fun hc1 => ?_)))))))
 ·have hc1 := BP.t hc1
  exfalso; simp at hc1
 ·have hc1 := BP.f hc1
  skip
  refine .exit (.the (.the (.blh (.thn (k3 _ _ (.cv (Cv.wk (.l [6, 7] rfl)) (.seq fun _ k8 => .region (st (.mv (.t rfl)) rfl (st (.as (.t rfl)) rfl (nl (.thn (k8 _ _ (.ret (rt1 (.inl rfl) Tryz.results60 rfl (.tmp (Has.t' rfl ?_) .nil)))))))))))))))
  all_goals (rfl)
theorem gram_less {X Y : List Rat} {c : Rat} {A B D : Nat} (hx : QB X A) (hy : QB Y B) (hc : qs c ≤ D) (hl : X.length = Y.length) (hn : X.length ≤ 64) (hAB : A + B + D ≤ 1000000) : Ctr Tryz.prog 60 [isQs X, isQs Y, isQ c] (isQs (lsQ X Y c)) := by
 rcases Nat.eq_zero_or_pos X.length with h0 | h0
 ·obtain rfl : X = [] := List.eq_nil_of_length_eq_zero h0
  exact gram_less0
 ·exact (gram_lessX hx hy hc hl hn hAB h0).toCtr fun S' M' hh => hh
end Go.Proofs.YthmhlblaleahpaaGreat
namespace Go.Gs
open Go.En Go.Pz Go.Nt Go.Mz Go.Hp Go.Dt
def gsX (C : Nat) (out : List (List Rat)) (x : List Rat) : Nat → List Rat
 | 0 => x
 | j + 1 => lsQ (gsX C out x j) (out.getD j []) (dotQ (qf (gsX C out x j)) (qf (out.getD j [])) C / dotQ (qf (out.getD j [])) (qf (out.getD j [])) C)
def frow (C : Nat) (L : List Int) (i : Nat) : List Rat := frs (Go.Hp.rowL C L i)
def gsL (C : Nat) (L : List Int) : Nat → List (List Rat)
 | 0 => []
 | i + 1 => gsL C L i ++ [gsX C (gsL C L i) (frow C L i) i]
def gsY (C : Nat) (L : List Int) (i : Nat) : List Rat := gsX C (gsL C L i) (frow C L i) i
def gsS (C : Nat) (L : List Int) (i : Nat) : Rat := dotQ (qf (gsY C L i)) (qf (gsY C L i)) C
theorem xB (C : Nat) (L : List Int) : ∀ i, (gsL C L i).length = i
 | 0 => rfl
 | i + 1 => by show (gsL C L i ++ [_]).length = _; rw [List.length_append, xB C L i]; rfl
theorem xH {C : Nat} {L : List Int} {a : Nat} : ∀ {i : Nat}, a < i → (gsL C L i)[a]? = some (gsY C L a)
  | 0, h => absurd h (Nat.not_lt_zero _)
  | i + 1, h => by
    show (gsL C L i ++ [_])[a]? = _
    by_cases e : a = i
    · subst e
      rw [List.getElem?_append_right (by rw [xB]; exact Nat.le_refl _), xB, Nat.sub_self]; rfl
    · rw [List.getElem?_append_left (by rw [xB]; omega)]
      exact xH (by omega)
theorem ap {C : Nat} {L : List Int} {a i : Nat} (h : a < i) : (gsL C L i).getD a [] = gsY C L a := by rw [List.getD_eq_getElem?_getD, xH h]; rfl
theorem vV (C : Nat) (out : List (List Rat)) (x : List Rat) : ∀ j, (gsX C out x j).length = x.length
 | 0 => rfl
 | j + 1 => by show (lsQ _ _ _).length = _; rw [ji, vV C out x j]
theorem qc (C : Nat) (L : List Int) (i : Nat) : (frow C L i).length = C := by unfold frow; rw [vX, Go.Hp.rowL_len]
theorem bg {C i k : Nat} {L : List Int} (h : k < C) : qf (frow C L i) k = ((mf C L i k : Int) : Rat) := by unfold frow; rw [cx, Go.Hp.cf_rowL h]
theorem eK {C i k : Nat} {L : List Int} (h : k < C) : (frow C L i).take (k + 1) = (frow C L i).take k ++ [((mf C L i k : Int) : Rat)] := by
 rw [List.take_add_one, qf_at (by rw [qc]; exact h), bg h]; rfl
theorem wd (C : Nat) (L : List Int) (i : Nat) : (gsY C L i).length = C := by unfold gsY; rw [vV, qc]
def gB : Nat → Nat
 | 0 => 2
 | n + 1 => 14 * gB n + 12
theorem gB_mono {m n : Nat} (h : m ≤ n) : gB m ≤ gB n := by
  induction n with
  | zero => rw [show m = 0 by omega]; exact Nat.le_refl _
  | succ n ih =>
    by_cases e : m = n + 1
    · rw [e]; exact Nat.le_refl _
    · have := ih (by omega)
      show _ ≤ 14 * gB n + 12
      omega
theorem xo {C A B : Nat} {X Y : List Rat} (hC : C ≤ 3) (hx : QB X A) (hy : QB Y B) : qs (dotQ (qf X) (qf Y) C) ≤ 3 * (A + B + 1) + 1 := by
 have h := bm hx hy C
 have h2 : C * (A + B + 1) ≤ 3 * (A + B + 1) := Nat.mul_le_mul_right _ hC
 omega
theorem step_qb {C n : Nat} {X Y : List Rat} (hC : C ≤ 3) (hx : QB X (gB n)) (hy : QB Y (gB n)) : QB (lsQ X Y (dotQ (qf X) (qf Y) C / dotQ (qf Y) (qf Y) C)) (gB (n + 1)) := by
 have h1 := xo hC hx hy
 have h2 := xo hC hy hy
 refine (lsQ_qb hx hy (cT h1 h2)).mono ?_
 show _ ≤ 14 * gB n + 12
 omega
theorem gs_qb {C : Nat} {L : List Int} (hC : C ≤ 3) (hb : Bd L 1) : ∀ i, (∀ a, a < i → QB (gsY C L a) (gB a)) ∧ ∀ a j, a < i → j ≤ a → QB (gsX C (gsL C L a) (frow C L a) j) (gB j)
  | 0 => ⟨fun a h => absurd h (Nat.not_lt_zero _), fun a j h => absurd h (Nat.not_lt_zero _)⟩
  | i + 1 => by
    obtain ⟨h1, h2⟩ := gs_qb hC hb i
    have hrow : QB (frow C L i) (gB 0) := cw (K := 2) (fun k => by
      unfold Go.Hp.rowL
      rw [xF]
      split
      · exact Nat.le_trans (hb _) (by decide)
      · rw [Int.natAbs_zero, zF]; exact Nat.zero_le _) (by decide)
    have hst : ∀ j, j ≤ i → QB (gsX C (gsL C L i) (frow C L i) j) (gB j) := by
      intro j
      induction j with
      | zero => intro _; exact hrow
      | succ j ih =>
        intro hj
        have hy : QB ((gsL C L i).getD j []) (gB j) := by
          rw [ap (by omega)]
          exact h1 j (by omega)
        exact step_qb hC (ih (by omega)) hy
    refine ⟨fun a ha => ?_, fun a j ha hj => ?_⟩
    · by_cases e : a = i
      · subst e
        exact hst a (Nat.le_refl _)
      · exact h1 a (by omega)
    · by_cases e : a = i
      · subst e; exact hst j hj
      · exact h2 a j (by omega) hj
theorem ao {C R : Nat} {L : List Int} (hR : R ≤ 3) (hC : C ≤ 3) (hb : Bd L 1) : ∀ i j, i < R → j ≤ i → QB (gsX C (gsL C L i) (frow C L i) j) 1000 := fun i j hi hj => ((gs_qb hC hb R).2 i j hi hj).mono (Nat.le_trans (gB_mono (show j ≤ 2 by omega)) (by decide))
end Go.Gs
namespace Go.Proofs.YthmhlblaleahpaaGreat
open Go.En Go.RowKit
set_option maxRecDepth 10000
set_option maxHeartbeats 4000000
open Go.Nt
open Go.Pz
open Go.Mz
open Go.Hn
open Go.Hp
open Go.Dt
open Go.Gs
theorem cq {R C : Nat} {xs : List (Bool × List Nat)} (hR : R ≤ 3) (hC : C ≤ 3) (hl : xs.length = R * C) (hb : Bd (vals xs) 1) {n0 : Nat} (hn0 : n0 ≤ R) (hs : ∀ i, i < n0 → gsS C (vals xs) i ≠ 0) (hz : n0 < R → gsS C (vals xs) n0 = 0) : Ctr Tryz.prog 24 [isM (R : Int) (C : Int) xs] (zQ [SlM isQs (if n0 = R then gsL C (vals xs) R else []), isB (decide (n0 = R))]) := by
 refine Ctr.intro Tryz.func24 rfl (by kernel_rfl) Tryz.ntmps24 rfl fun w0 F0 => .cv (Cv.wk (.l [0] rfl)) ?_
 have hRC := qL (show R ≤ 64 by omega) (show C ≤ 64 by omega)
 have hW := ao hR hC hb
 refine .seq fun _ k1 => .region (.box (.t rfl) rfl fun b1 => st (.as (.cW (f := fun l => zD l))) rfl (st (.as (.cB false)) rfl (nl (.thn (k1 _ _ (.seq fun _ k2 => .region (.cv (Cv.grow0 (α := List Rat) isQs) (st (.as (Has.cGr (α := List Rat))) rfl (nl (.thn (k2 _ _ (.seq fun _ k3 => .seq fun _ k4 => .region (st (.fieldAddr (.t rfl) zT ty3) rfl (st (.load1 (.t rfl) (i := 1) rfl ty3 rfl) rfl (st (.mv (.cI 0 rfl)) rfl (nl (.thn (k4 _ _ (.block (.loopF [1, 10] (fun (z : { z : Nat × Gr (List Rat) // z.1 ≤ n0 }) => match z with | ⟨(i, g), hI⟩ => [(11, isI (i : Int)), (4, isGr g (gsL C (vals xs) i).length)]) (fun M => fun (z : { z : Nat × Gr (List Rat) // z.1 ≤ n0 }) => match z with | ⟨(i, g), hI⟩ => [grM isQs g (gsL C (vals xs) i), (some b1, zB [isI (R : Int), isI (C : Int), SlK 2 zc xs])]) (fun (z : { z : Nat × Gr (List Rat) // z.1 ≤ n0 }) => match z with | ⟨(i, g), hI⟩ => R - i) (⟨(0, Gr.nil), Nat.zero_le _⟩) (Cv.mem (.c 11 rfl ?_ (.c 4 rfl ?_ (.l [1, 10] rfl))) ?_) ?_))))))))))))))))))))
 ·rfl
 ·rfl
 ·rfl
 rintro ⟨⟨i, g⟩, hI⟩ K5 hK5
 refine .cv (Cv.wk (.l [11, 4, 1, 10] rfl)) (.memEq (M' := [grM isQs g (gsL C (vals xs) i), (some b1, zB [isI (R : Int), isI (C : Int), SlK 2 zc xs])]) rfl ?_)
 simp only [] at hI
 have hgl : (gsL C (vals xs) i).length = i := xB _ _ _
 refine .seq fun _ k6 => .region (st (.ltI (.t rfl) (.t rfl)) rfl (nl (.thn (k6 _ _ (.seq fun _ k7 => .cond (.t rfl) (fun hc1 => ?_) (fun hc1 => ?_))))))
 ·have hc1 := BP.t hc1
  have hiR : i < R := (by omega)
  have hpl1 : (i + 1) * C ≤ R * C := Nat.mul_le_mul_right _ hiR
  have hvv : vals ((xs.take ((i + 1) * C)).drop (i * C)) = Go.Hp.rowL C (vals xs) i := rowL_of (by omega)
  have hpl2 : (i + 1) * C = i * C + C := Nat.succ_mul _ _
  have hvl : ((xs.take ((i + 1) * C)).drop (i * C)).length = C := by rw [List.length_drop, List.length_take]; omega
  have hvb : Bd (vals ((xs.take ((i + 1) * C)).drop (i * C))) 1 := by rw [hvv]; exact fun k => by unfold Go.Hp.rowL; rw [xF]; split; exact hb _; rw [Int.natAbs_zero, zF]; exact Nat.zero_le _
  refine .skip (.thn (k7 _ _ (.seq fun _ k8 => .block (.seq fun _ k9 => .region (st (.mv (.t rfl)) rfl (st (.as (.t rfl)) rfl (nl (.thn (k9 _ _ (.seq fun _ k10 => .region (st (.load (.t rfl) (i := 1) rfl ty24 rfl (Ss' := [_, _, _]) rfl) rfl (st (.mv (.t rfl)) rfl (st (.call (gram_row (by omega) (by omega) hl hiR) (.cons (.t rfl) (.cons (.t rfl) .nil))) rfl (st (.eq (.call (cr hvb (by decide) (by omega)) (.cons (.t rfl) .nil)) ((show _ = isQs (gsX C (gsL C (vals xs) i) (frow C (vals xs) i) 0) from wZ (by rw [hvv]; rfl)))) rfl ?_))))))))))))))
  refine st (.as (.t rfl)) rfl (nl (.thn (k10 _ _ (.seq fun _ k11 => .seq fun _ k12 => .region (st (.mv (.t rfl)) rfl (st (.len sl35 (.t rfl)) rfl (st (.mv (.cI 0 rfl)) rfl (nl (.thn (k12 _ _ (.block (.loopF [1, 10, 11, 4, 12, 13, 5, 14, 15, 16, 17, 18, 19] (fun (z : { j : Nat // j ≤ i }) => match z with | ⟨j, hj⟩ => [(20, isI (j : Int)), (6, isQs (gsX C (gsL C (vals xs) i) (frow C (vals xs) i) j))]) (fun M => fun (z : { j : Nat // j ≤ i }) => match z with | ⟨j, hj⟩ => [grM isQs g (gsL C (vals xs) i), (some b1, zB [isI (R : Int), isI (C : Int), SlK 2 zc xs])]) (fun (z : { j : Nat // j ≤ i }) => match z with | ⟨j, hj⟩ => i - j) (⟨0, Nat.zero_le _⟩) (Cv.mem (.c 20 rfl ?_ (.c 6 rfl ?_ (.l [1, 10, 11, 4, 12, 13, 5, 14, 15, 16, 17, 18, 19] rfl))) ?_) ?_))))))))))))
  ·rfl
  ·rfl
  ·rfl
  rintro ⟨j, hj⟩ K13 hK13
  refine .cv (Cv.wk (.l [20, 6, 1, 10, 11, 4, 12, 13, 5, 14, 15, 16, 17, 18, 19] rfl)) (.memEq (M' := [grM isQs g (gsL C (vals xs) i), (some b1, zB [isI (R : Int), isI (C : Int), SlK 2 zc xs])]) rfl (.seq fun _ k14 => .region (st (.ltI (.t rfl) (.t rfl)) rfl (nl (.thn (k14 _ _ (.seq fun _ k15 => .cond (.t rfl) (fun hc2 => ?_) (fun hc2 => ?_))))))))
  ·have hc2 := BP.t hc2
   have hjl : j < i := (by omega)
   have hXl : (gsX C (gsL C (vals xs) i) (frow C (vals xs) i) j).length = C := by rw [vV, qc]
   have hYl := wd C (vals xs) j
   have hX := hW i j hiR (by omega)
   have hY : QB (gsY C (vals xs) j) 1000 := hW j j (by omega) (Nat.le_refl _)
   have hd1 := xo hC hX hY
   have hd2 := xo hC hY hY
   have hdq := cT hd1 hd2
   refine .skip (.thn (k15 _ _ (.seq fun _ k16 => .block (.seq fun _ k17 => .region (st (.ixGr sl35 ty37 (.t rfl) (.t rfl) ⟨by omega, by omega⟩) rfl (st (.loadGM (.t rfl) (i := 0) rfl ty37 (xH (by omega))) rfl (st (.as (.t rfl)) rfl (nl (.thn (k17 _ _ (.region (st (.mv (.t rfl)) rfl (st (.mv (.t rfl)) rfl (st (.mv (.t rfl)) rfl (st (.mv (.t rfl)) rfl (st (.eq (.call (xn hX hY (by omega) (by omega) (by decide)) (.cons (.t rfl) (.cons (.t rfl) .nil))) ((show _ = isQ (dotQ (qf (gsX C (gsL C (vals xs) i) (frow C (vals xs) i) j)) (qf (gsY C (vals xs) j)) C) from qk (by rw [hXl])))) rfl (st (.mv (.t rfl)) rfl (st (.mv (.t rfl)) rfl (st (.eq (.call (xn hY hY rfl (by omega) (by decide)) (.cons (.t rfl) (.cons (.t rfl) .nil))) ((show _ = isQ (dotQ (qf (gsY C (vals xs) j)) (qf (gsY C (vals xs) j)) C) from qk (by rw [hYl])))) rfl (st (.call (eH hd1 hd2 (by decide) (hs j (by omega))) (.cons (.t rfl) (.cons (.t rfl) .nil))) rfl (st (.eq (.call (gram_less hX hY hdq (by omega) (by omega) (by decide)) (.cons (.t rfl) (.cons (.t rfl) (.cons (.t rfl) .nil)))) ((show _ = isQs (gsX C (gsL C (vals xs) i) (frow C (vals xs) i) (j + 1)) from wZ (by show _ = lsQ _ _ _; rw [ap hjl])))) rfl ?_)))))))))))))))))))))
   refine st (.as (.t rfl)) rfl (nl (.bln (.thn (k16 _ _ (.region (st (.addI (.t rfl) (.cI 1 rfl) (by first | omega | assumption) (by first | omega | assumption)) rfl (st (.mv (.t rfl)) rfl (nl (.thn (hK13 (⟨j + 1, by omega⟩) _ _ ?_ (Cv.mem (.c 20 rfl ?_ (.c 6 rfl ?_ (.l [1, 10, 11, 4, 12, 13, 5, 14, 15, 16, 17, 18, 19] rfl))) ?_)))))))))))
   ·show i - (j + 1) < i - j; omega
   ·exact zE (by omega)
   ·rfl
   ·rfl
  ·have hc2 := BP.f hc2
   have hji : i = j := (by omega)
   subst hji
   have hXl : (gsX C (gsL C (vals xs) i) (frow C (vals xs) i) i).length = C := by rw [vV, qc]
   have hX := hW i i hiR (by omega)
   have hd1 : qs (gsS C (vals xs) i) ≤ 3 * (1000 + 1000 + 1) + 1 := xo hC hX hX
   refine .exit (.the (.the (.blh (.thn (k11 _ _ (.seq fun _ k18 => .seq fun _ k19 => .region (st (.mv (.t rfl)) rfl (st (.mv (.t rfl)) rfl (st (.eq (.call (xn hX hX rfl (by omega) (by decide)) (.cons (.t rfl) (.cons (.t rfl) .nil))) ((show _ = isQ (gsS C (vals xs) i) from qk (by rw [hXl]; rfl)))) rfl ?_)))))))))
   refine st (.call (rat_Sign hd1 (by decide)) (.cons (.t rfl) .nil)) rfl (st (.eqI (.t rfl) (.cI 0 rfl)) rfl (nl (.thn (k19 _ _ (.cond (.t rfl) (fun hc3 => ?_) (fun hc3 => ?_))))))
   ·have hc3 := BP.t hc3
    have hin : i = n0 := Classical.byContradiction fun hne => hs i (by omega) (Rat.num_eq_zero.1 ((qn _).1 hc3))
    refine .seq fun _ k20 => .region (st (.as (.cW (f := fun l => zD l))) rfl (st (.as (.cB false)) rfl (nl (.thn (k20 _ _ (.ret (.thr (.blr (.thr (.thr (.blr (.thr (rtN (.inl rfl) Tryz.results24 rfl rfl (.tmp (Has.t' rfl ?_) (.tmp (Has.t' rfl ?_) .nil)))))))))))))))
    ·rw [if_neg (by omega)]; rfl
    ·exact zU (decide_eq_false (by omega)).symm
   ·have hc3 := BP.f hc3
    have hne : i ≠ n0 := fun e => by subst e; rw [hz hiR] at hc3; exact hc3 rfl
    refine .skip (.thn (k18 _ _ (.region (st (.mv (.t rfl)) rfl (st (.mv (.t rfl)) rfl (st (.buildS [nilS] sl35 ty37 eY (fun _ _ => ⟨rfl, trivial⟩) rfl rfl (.cons (.t rfl) rfl rfl rfl .nil) rfl (S := SlM isQs [gsX C (gsL C (vals xs) i) (frow C (vals xs) i) i]) rfl) rfl (.appendG (f := isQs) (u := ([] : List Rat)) sl35 ty37 eY (fun _ _ => ⟨nilK, trivial⟩) (fun _ => inferInstance) by37 (.t rfl) (i := 0) rfl (.t rfl) (by rw [xB, List.length_singleton]; omega) (by simp) rfl fun gr1 => ?_)))))))
    refine .memEq (M' := [grM _ _ _, _]) rfl (st (.as (.t rfl)) rfl (nl (.bln (.thn (k8 _ _ (.region (st (.addI (.t rfl) (.cI 1 rfl) (by first | omega | assumption) (by first | omega | assumption)) rfl (st (.mv (.t rfl)) rfl (nl (.thn ?_))))))))))
    refine hK5 (⟨(i + 1, gr1), by show i + 1 ≤ _; omega⟩) _ _ ?_ (Cv.mem (.c 11 rfl ?_ (.c 4 rfl ?_ (.l [1, 10] rfl))) ?_)
    ·show R - (i + 1) < R - i; omega
    ·exact zE (by omega)
    ·exact qq (by rw [xB, xB]; rfl)
    ·rfl
 ·have hc1 := BP.f hc1
  skip
  refine .exit (.the (.the (.blh (.thn (k3 _ _ (.seq fun _ k21 => .cv (Cv.freezeG (t := 4) (i := 0) (ys := gsL C (vals xs) i) rfl rfl rfl) (.memEq (M' := [_]) rfl (.cv (Cv.wk (.l [1, 10, 11, 4, 12] rfl)) (.region (st (.mv (.t rfl)) rfl (st (.as (.t rfl)) rfl (st (.as (.cB true)) rfl (nl (.thn (k21 _ _ (.cv (Cv.wk (.l [2, 3] rfl)) (.ret (rtN (.inl rfl) Tryz.results24 rfl rfl (.tmp (Has.t' rfl ?_) (.tmp (Has.t' rfl ?_) .nil))))))))))))))))))))
  ·exact zY (by rw [show i = R by omega, if_pos (by omega)])
  ·exact zU (decide_eq_true (by omega)).symm
theorem gram_left {R C : Nat} {xs : List (Bool × List Nat)} (hR : R ≤ 3) (hC : C ≤ 3) (hl : xs.length = R * C) (hb : Bd (vals xs) 1) (hs : ∀ i, i < R → gsS C (vals xs) i ≠ 0) : Ctr Tryz.prog 24 [isM (R : Int) (C : Int) xs] (zQ [SlM isQs (gsL C (vals xs) R), isB true]) := by
 have h := cq hR hC hl hb (Nat.le_refl R) hs fun h => absurd h (Nat.lt_irrefl _)
 rwa [if_pos rfl, decide_eq_true rfl] at h
theorem gram_left_no {R C : Nat} {xs : List (Bool × List Nat)} (hR : R ≤ 3) (hC : C ≤ 3) (hl : xs.length = R * C) (hb : Bd (vals xs) 1) {i0 : Nat} (hi0 : i0 < R) (hz : gsS C (vals xs) i0 = 0) (hs : ∀ i, i < i0 → gsS C (vals xs) i ≠ 0) : Ctr Tryz.prog 24 [isM (R : Int) (C : Int) xs] (zQ [SlM isQs [], isB false]) := by
 have h := cq hR hC hl hb (Nat.le_of_lt hi0) hs fun _ => hz
 rwa [if_neg (Nat.ne_of_lt hi0), decide_eq_false (Nat.ne_of_lt hi0)] at h
end Go.Proofs.YthmhlblaleahpaaGreat
namespace Go.Gs
open Go.En Go.Pz Go.Nt Go.Mz Go.Hp Go.Dt
def nrQ (C : Nat) (L : List Int) (r : List Int) (i : Nat) : Int := rnd (dotQ (qf (frs r)) (qf (gsY C L i)) C / gsS C L i)
def xE (C : Nat) (L : List Int) (r : List Int) (i : Nat) : List Int := (List.range C).map fun k => cf r k - nrQ C L r i * mf C L i k
def nrR (C : Nat) (L V : List Int) (R : Nat) : Nat → List Int
 | 0 => V
 | n + 1 => xE C L (nrR C L V R n) (R - 1 - n)
def nrC (C : Nat) (L V : List Int) (R i : Nat) : Int := nrQ C L (nrR C L V R (R - 1 - i)) i
def nrL (C : Nat) (L V : List Int) (R : Nat) : List Int := (List.range R).map (nrC C L V R)
theorem nrL_len (C : Nat) (L V : List Int) (R : Nat) : (nrL C L V R).length = R := by unfold nrL; rw [List.length_map, List.length_range]
theorem xV (C : Nat) (L r : List Int) (i : Nat) : (xE C L r i).length = C := by unfold xE; rw [List.length_map, List.length_range]
theorem wW {C : Nat} {L r : List Int} {i k : Nat} (h : k < C) : cf (xE C L r i) k = cf r k - nrQ C L r i * mf C L i k := by unfold xE; rw [xF, if_pos h]
theorem bV {C : Nat} {L V : List Int} {R : Nat} (hV : V.length = C) : ∀ n, (nrR C L V R n).length = C
 | 0 => hV
 | n + 1 => xV _ _ _ _
def cN (C : Nat) (L V : List Int) (R n : Nat) : List (Bool × List Nat) := (List.range R).map fun i => if R - n ≤ i then nz (nrC C L V R i) else (false, [])
theorem wy (C : Nat) (L V : List Int) (R n : Nat) : (cN C L V R n).length = R := by unfold cN; rw [List.length_map, List.length_range]
theorem cN_at {C : Nat} {L V : List Int} {R n i : Nat} (h : i < R) : (cN C L V R n)[i]? = some (if R - n ≤ i then nz (nrC C L V R i) else (false, [])) := by
 unfold cN
 rw [List.getElem?_map, List.getElem?_range h]; rfl
theorem cN_zero (C : Nat) (L V : List Int) (R : Nat) : cN C L V R 0 = List.replicate R (false, []) := by
 refine List.ext_getElem? fun i => ?_
 rcases Nat.lt_or_ge i R with h | h
 ·rw [cN_at h, if_neg (by omega), List.getElem?_replicate, if_pos h]
 ·rw [List.getElem?_eq_none (by rw [wy]; exact h), List.getElem?_eq_none (by rw [List.length_replicate]; exact h)]
theorem cN_all (C : Nat) (L V : List Int) (R : Nat) : cN C L V R R = (nrL C L V R).map nz := by
 unfold cN nrL
 rw [List.map_map]
 refine List.map_congr_left fun i hi => ?_
 rw [if_pos (by omega)]; rfl
theorem cN_get {C : Nat} {L V : List Int} {R n i : Nat} (h : i < R) (hn : R - n ≤ i) : (cN C L V R n)[i]? = some (nz (nrC C L V R i)) := by rw [cN_at h, if_pos hn]
theorem cN_set {C : Nat} {L V : List Int} {R n i : Nat} (h : i < R) (hi : i = R - 1 - n) : (cN C L V R n).set i (nz (nrC C L V R i)) = cN C L V R (n + 1) := by
 refine List.ext_getElem? fun j => ?_
 rcases Nat.lt_or_ge j R with h1 | h1
 ·rw [List.getElem?_set, wy, cN_at h1, cN_at h1]
  by_cases e : i = j
  ·subst e; rw [if_pos rfl, if_pos h1, if_pos (by omega)]
  ·rw [if_neg e]
   by_cases h3 : R - n ≤ j
   ·rw [if_pos h3, if_pos (by omega)]
   ·rw [if_neg h3, if_neg (by omega)]
 ·rw [List.getElem?_eq_none (by rw [List.length_set, wy]; exact h1), List.getElem?_eq_none (by rw [wy]; exact h1)]
def nrN (C : Nat) (L r : List Int) (i k : Nat) : List Int := (xE C L r i).take k ++ r.drop k
theorem nrN_all {C : Nat} {L r : List Int} {i : Nat} (h : r.length = C) : nrN C L r i C = xE C L r i := by
 unfold nrN
 rw [List.take_of_length_le (by rw [xV]; exact Nat.le_refl _), List.drop_eq_nil_of_le (by omega), List.append_nil]
theorem nrN_len {C : Nat} {L r : List Int} {i k : Nat} (h : r.length = C) (hk : k ≤ C) : (nrN C L r i k).length = C := by
 unfold nrN; rw [List.length_append, List.length_take, List.length_drop, xV]; omega
theorem nrN_at {C : Nat} {L r : List Int} {i k : Nat} (h : r.length = C) (hk : k < C) : cf (nrN C L r i k) k = cf r k := by
 unfold nrN cf
 have hl : ((xE C L r i).take k).length = k := by rw [List.length_take, xV]; omega
 rw [List.getD_eq_getElem?_getD, List.getD_eq_getElem?_getD, List.getElem?_append_right (by omega), hl, List.getElem?_drop, Nat.sub_self, Nat.add_zero]
theorem nrN_get {C : Nat} {L r : List Int} {i k : Nat} (h : r.length = C) (hk : k < C) : ((nrN C L r i k).map nz)[k]? = some (nz (cf r k)) := by
 rw [getZ (by rw [nrN_len h (by omega)]; exact hk), nrN_at h hk]
theorem nrN_set {C : Nat} {L r : List Int} {i k : Nat} (h : r.length = C) (hk : k < C) : (nrN C L r i k).set k (cf r k - nrQ C L r i * mf C L i k) = nrN C L r i (k + 1) := by
 unfold nrN
 have hl : ((xE C L r i).take k).length = k := by rw [List.length_take, xV]; omega
 rw [List.set_append_right _ _ (by omega), hl, Nat.sub_self, List.drop_eq_getElem_cons (by omega), List.set_cons_zero, List.take_add_one, show (xE C L r i)[k]? = some (cf r k - nrQ C L r i * mf C L i k) from by rw [vl (by rw [xV]; exact hk), wW hk]]
 simp
def kB : Nat → Nat
 | 0 => 2
 | n + 1 => 4 * kB n + 20000
theorem aM {m n : Nat} (h : m ≤ n) : kB m ≤ kB n := by
  induction n with
  | zero => rw [show m = 0 by omega]; exact Nat.le_refl _
  | succ n ih =>
    by_cases e : m = n + 1
    · rw [e]; exact Nat.le_refl _
    · have := ih (by omega)
      show _ ≤ 4 * kB n + 20000
      omega
theorem kB_two (n : Nat) : 2 ≤ kB n := aM (Nat.zero_le n)
theorem nrQ_nw {C i K : Nat} {L r : List Int} (hC : C ≤ 3) (hK : 1 ≤ K) (hr : Bd r K) (hY : QB (gsY C L i) 1000) : (List.length (zA (nrQ C L r i).natAbs)) ≤ 3 * K + 9012 := by
 have h1 := xo hC (cw hr hK) hY
 have h2 : qs (gsS C L i) ≤ _ := xo hC hY hY
 have h3 := cT h1 h2
 have h4 : (List.length (zA (nrQ C L r i).natAbs)) ≤ _ := rnd_nw (K := 3 * K + 9010) (Nat.le_trans h3 (by omega))
 omega
theorem nrStep_bd {C i n : Nat} {L r : List Int} (hC : C ≤ 3) (hb : Bd L 1) (hr : Bd r (kB n)) (hY : QB (gsY C L i) 1000) : Bd (xE C L r i) (kB (n + 1)) := fun k => by
 rcases Nat.lt_or_ge k C with h | h
 ·rw [wW h]
  have h1 := nrQ_nw hC (by have := kB_two n; omega) hr hY
  have h2 := qD (nrQ C L r i) (mf C L i k)
  have h3 : (List.length (zA (mf C L i k).natAbs)) ≤ 1 := hb _
  have h4 := hr k
  have h5 := xU (cf r k) (-(nrQ C L r i * mf C L i k))
  rw [Int.natAbs_neg, ← Int.sub_eq_add_neg] at h5
  show _ ≤ 4 * kB n + 20000
  omega
 ·rw [xS (by rw [xV]; exact h), Int.natAbs_zero, zF]; exact Nat.zero_le _
theorem cc {C R : Nat} {L V : List Int} (hR : R ≤ 3) (hC : C ≤ 3) (hb : Bd L 1) (hv : Bd V 2) : ∀ n, n ≤ R → Bd (nrR C L V R n) (kB n)
 | 0, _ => hv
 | n + 1, hn => nrStep_bd hC hb (cc hR hC hb hv n (by omega)) (ao hR hC hb (R - 1 - n) _ (by omega) (Nat.le_refl _))
theorem memC_eq {a : Option Nat × MP} {b : Option Nat} {l l' : List (Bool × List Nat)} {r : Mem} (h : l = l') : (a :: (b, zB (l.flatMap zc)) :: r : Mem) = a :: (b, zB (l'.flatMap zc)) :: r := h ▸ rfl
end Go.Gs
namespace Go.Proofs.YthmhlblaleahpaaGreat
open Go.En Go.RowKit
set_option maxRecDepth 10000
set_option maxHeartbeats 4000000
open Go.Nt
open Go.Pz
open Go.Mz
open Go.Hn
open Go.Hp
open Go.Dt
open Go.Gs
theorem bJ {K m : Nat} {l : List Int} {gv : Gr (Bool × List Nat)} (hv : Bd l K) (hK : K ≤ 1000000) (hn : l.length ≤ 64) (hm : m = l.length) : CtrX Tryz.prog 29 [isGr gv m] ([grMK zc gv (l.map nz)]) (fun S M => S = isQs (frs l) ∧ M = [grMK zc gv (l.map nz)]) := by
 refine CtrX.intro Tryz.func29 rfl (by kernel_rfl) Tryz.ntmps29 rfl fun w0 F0 => .cv (Cv.wk (.l [0] rfl)) ?_
 have hfl : (frs l).length = l.length := vX l
 have hll : (l.map nz).length = l.length := List.length_map _
 subst hm
 refine .seq fun _ k1 => .region (st (.as (.cWK (k := 4) (fk := rc))) rfl (nl (.thn (k1 _ _ (.seq fun _ k2 => .region (.cv (Cv.grow0K (α := (Bool × List Nat) × Bool × List Nat) rc) (st (.as (Has.cGr (α := (Bool × List Nat) × Bool × List Nat))) rfl (nl (.thn (k2 _ _ (.seq fun _ k3 => .seq fun _ k4 => .region (st (.mv (.t rfl)) rfl (st (.len sl22 (.t rfl)) rfl (st (.mv (.cI 0 rfl)) rfl (nl (.thn (k4 _ _ (.block (.loopF [2, 6, 7] (fun (z : { z : Nat × Gr ((Bool × List Nat) × Bool × List Nat) // z.1 ≤ l.length }) => match z with | ⟨(n, g), hI⟩ => [(8, isI (n : Int)), (3, isGr g (((frs l).take n).map nq).length)]) (fun M => fun (z : { z : Nat × Gr ((Bool × List Nat) × Bool × List Nat) // z.1 ≤ l.length }) => match z with | ⟨(n, g), hI⟩ => [grMK rc g (((frs l).take n).map nq), grMK zc gv (l.map nz)]) (fun (z : { z : Nat × Gr ((Bool × List Nat) × Bool × List Nat) // z.1 ≤ l.length }) => match z with | ⟨(n, g), hI⟩ => l.length - n) (⟨(0, Gr.nil), Nat.zero_le _⟩) (Cv.mem (.c 8 rfl ?_ (.c 3 rfl ?_ (.l [2, 6, 7] rfl))) ?_) ?_)))))))))))))))))))
 ·rfl
 ·rfl
 ·rfl
 rintro ⟨⟨n, g⟩, hI⟩ K5 hK5
 refine .cv (Cv.wk (.l [8, 3, 2, 6, 7] rfl)) (.memEq (M' := [grMK rc g (((frs l).take n).map nq), grMK zc gv (l.map nz)]) rfl ?_)
 simp only [] at hI
 have hvn := hv n
 refine .seq fun _ k6 => .region (st (.ltI (.t rfl) (.t rfl)) rfl (nl (.thn (k6 _ _ (.seq fun _ k7 => .cond (.t rfl) (fun hc1 => ?_) (fun hc1 => ?_))))))
 ·have hc1 := BP.t hc1
  refine .skip (.thn (k7 _ _ (.seq fun _ k8 => .block (.seq fun _ k9 => .region (st (.ixGr sl22 ty41 (.t rfl) (.t rfl) ⟨by omega, by omega⟩) rfl (st (.loadGK zO (.t rfl) (i := 1) rfl ty41 (getZ (i := n) (by omega))) rfl (.alloc [isB false, SlM isU []] zG (fun _ _ => ⟨rfl, nilM _ _, trivial⟩) rfl fun b1 => .store (.t rfl) (.t rfl) (i := 0) rfl ty41 rfl rfl (Ss' := [_, _]) rfl (M' := [(some _, zB [_, _]), _, _]) rfl (nl (.thn (k9 _ _ (.region (st (.mv (.t rfl)) rfl (st (.load (.t rfl) (i := 0) rfl ty41 rfl (Ss' := [_, _]) rfl) rfl (st (.eq (.call (ag (by rw [zC]; omega)) (.cons (.t rfl) .nil)) ((show isQ _ = Flat (rc (nq ((cf l n : Int) : Rat))) from qk (by rw [zH])))) rfl ?_))))))))))))))
  refine st (.buildS [isB false, SlM isU [], isB false, SlM isU []] sl37 ty43 zt (fun _ _ => ⟨rfl, nilM _ _, rfl, nilM _ _, trivial⟩) rfl rfl (.cons (.t rfl) rfl rfl rfl .nil) rfl (S := SlK 4 rc [nq ((cf l n : Int) : Rat)]) rfl) rfl (.appendGK (fk := rc) (u := ((false, []), (false, []))) qg (by decide) (fun _ => inferInstance) sl37 ty43 zt (fun _ _ => ⟨rfl, nilM _ _, rfl, nilM _ _, trivial⟩) by43 (.t rfl) (i := 1) rfl (.t rfl) (by rw [List.length_map, List.length_take]; show min n _ + 1 ≤ _; omega) (by simp) rfl fun gr1 => ?_)
  refine .memEq (M' := [_, grMK _ _ _, _]) rfl (st (.as (.t rfl)) rfl (nl (.bln (.thn (k8 _ _ (.region (st (.addI (.t rfl) (.cI 1 rfl) (by omega) (by omega)) rfl (st (.mv (.t rfl)) rfl (nl (.thn ?_))))))))))
  refine hK5 (⟨(n + 1, gr1), by show n + 1 ≤ l.length; omega⟩) _ _ ?_ (Cv.trans (Cv.drop ((.cons _ (.cons_cons _ (.cons_cons _ .slnil))))) (Cv.mem (.c 8 rfl ?_ (.c 3 rfl ?_ (.l [2, 6, 7] rfl))) ?_))
  ·show l.length - (n + 1) < l.length - n; omega
  ·exact zE (by omega)
  ·exact qq (by rw [jV (by omega), List.map_append, List.length_append]; rfl)
  ·exact qz (by rw [jV (by omega), List.map_append]; rfl)
 ·have hc1 := BP.f hc1
  refine .exit (.the (.the (.blh (.thn (k3 _ _ (.seq fun _ k10 => .cv (Cv.freezeGKX (t := 3) (ys := ((frs l).take n).map nq) qg rfl rfl rfl) (.region (st (.mv (.t rfl)) rfl (st (.as (.t rfl)) rfl (nl (.thn (k10 _ _ (.cv (Cv.wk (.l [2] rfl)) (.ret (jO (.cons_cons _ .slnil) (.inl rfl) Tryz.results29 rfl (.tmp (.t rfl) .nil) (⟨wZ (by rw [List.take_of_length_le (by omega)]), rfl⟩))))))))))))))))
theorem gram_Near {R C : Nat} {xs : List (Bool × List Nat)} (hR : R ≤ 3) (hC : C ≤ 3) (hl : xs.length = R * C) (hb : Bd (vals xs) 1) {vs : List (Bool × List Nat)} (hv : Bd (vals vs) 2) (hvl : vs.length = C) (hs : ∀ i, i < R → gsS C (vals xs) i ≠ 0) : Ctr Tryz.prog 7 [isM (R : Int) (C : Int) xs, SlK 2 zc vs] (zQ [isP (nrL C (vals xs) (vals vs) R), isP (nrR C (vals xs) (vals vs) R R), isI 0]) := by
 refine Ctr.intro Tryz.func7 rfl (by kernel_rfl) Tryz.ntmps7 rfl fun w0 F0 => .cv (Cv.wk (.l [0, 1] rfl)) (.fact (Has.lenLt (Has.t (t := 1) rfl)) fun lt1 => ?_)
 have hRC := qL (show R ≤ 64 by omega) (show C ≤ 64 by omega)
 have hW := ao hR hC hb
 have hfo := zj (show R ≤ 64 by omega) (show C ≤ 64 by omega) hl
 have hvv : (vals vs).length = C := by rw [qJ]; exact hvl
 have hgR := xB C (vals xs) R
 refine .seq fun _ k1 => .region (.box (.t rfl) rfl fun b1 => st (.as (.cWK (k := 2) (fk := zc))) rfl (st (.as (.cWK (k := 2) (fk := zc))) rfl (st (.as (.cI 0 rfl)) rfl (nl (.thn (k1 _ _ (.seq fun _ k2 => .seq fun _ k3 => .region (st (.load (.t rfl) (i := 0) rfl ty24 rfl (Ss' := [_, _, _]) rfl) rfl (st (.eq (.call (zh) (.cons (.t rfl) .nil)) ((show isB _ = isB true from zU (hfo)))) rfl (st (.not (.t rfl)) rfl (st (.mv (.t rfl)) rfl (stF rfl rfl (fun hg => .mv (.t rfl)) rfl (stF rfl rfl (fun hg => .len sl22 (Has.g rfl hg)) rfl (stF rfl rfl (fun hg => .fieldAddr (.t rfl) zS ty3) rfl (stF rfl rfl (fun hg => .load1 (Has.g rfl hg) (i := 0) rfl ty3 rfl) rfl (stF rfl rfl (fun hg => .neI (Has.g rfl hg) (Has.g rfl hg)) rfl (st (.pickOr (.t rfl) (fun h => Has.g rfl (ng h))) rfl (nl (.thn (k3 _ _ (.cv (Cv.wk (.l [1, 2, 4, 5, 6, 24] rfl)) (.cond (.t rfl) (fun hc1 => ?_) (fun hc1 => ?_)))))))))))))))))))))))
 ·have hc1 := BP.t hc1
  exfalso; first | (rw [hvl] at hc1; simp at hc1; done) | (simp at hc1; omega)
 ·have hc1 := BP.f hc1
  skip
  refine .skip (.thn (k2 _ _ (.seq fun _ k4 => .region (st (.load (.t rfl) (i := 0) rfl ty24 rfl (Ss' := [_, _, _]) rfl) rfl (st (.call (gram_left hR hC hl hb hs) (.cons (.t rfl) .nil)) rfl (st (.mv (.t rfl)) rfl (st (.ext (.t rfl) rfl) rfl (st (.ext (.t rfl) rfl) rfl (st (.as (.t rfl)) rfl (st (.as (.t rfl)) rfl (nl (.thn (k4 _ _ (.cv (Cv.wk (.l [1, 2, 4, 5, 6, 7, 8] rfl)) (.seq fun _ k5 => .seq fun _ k6 => .region (st (.mv (.t rfl)) rfl (st (.not (.t rfl)) rfl (nl (.thn (k6 _ _ (.cond (.t rfl) (fun hc2 => ?_) (fun hc2 => ?_))))))))))))))))))))))
  ·have hc2 := BP.t hc2
   exfalso; simp at hc2
  ·have hc2 := BP.f hc2
   skip
   refine .skip (.thn (k5 _ _ (.seq fun _ k7 => .region (st (.fieldAddr (.t rfl) zT ty3) rfl (st (.load1 (.t rfl) (i := 0) rfl ty3 rfl) rfl (.makeK (fk := zc) (u := (false, [])) (n := R) (c := R) sl22 ty41 zG (fun _ _ => ⟨rfl, nilM _ _, trivial⟩) zO by41 (Has.t' rfl rfl) (Has.t' rfl rfl) ⟨by omega, by omega⟩ rfl fun b2 => st (.as (.t rfl)) rfl (nl (.thn (k7 _ _ (.cv (Cv.wk (.l [1, 2, 4, 5, 6, 7, 9] rfl)) (.seq fun _ k8 => .region (.cv (Cv.grow0K (α := Bool × List Nat) zc) (st (.as (Has.cGr (α := Bool × List Nat))) rfl (nl (.thn (k8 _ _ (.seq fun _ k9 => .seq fun _ k10 => .region (st (.mv (.t rfl)) rfl (st (.len sl22 (.t rfl)) rfl (st (.mv (.cI 0 rfl)) rfl (nl (.thn (k10 _ _ (.block (.loopF [2, 4, 5, 6, 7, 9, 35, 36] (fun (z : { z : Nat × Gr (Bool × List Nat) // z.1 ≤ vs.length }) => match z with | ⟨(n0, g), hI⟩ => [(37, isI (n0 : Int)), (10, isGr g (((vals vs).take n0).map nz).length)]) (fun M => fun (z : { z : Nat × Gr (Bool × List Nat) // z.1 ≤ vs.length }) => match z with | ⟨(n0, g), hI⟩ => [grMK zc g (((vals vs).take n0).map nz), (some b2, zB ((cN C (vals xs) (vals vs) R (0)).flatMap zc)), (some b1, zB [isI (R : Int), isI (C : Int), SlK 2 zc xs])]) (fun (z : { z : Nat × Gr (Bool × List Nat) // z.1 ≤ vs.length }) => match z with | ⟨(n0, g), hI⟩ => vs.length - n0) (⟨(0, Gr.nil), Nat.zero_le _⟩) (Cv.mem (.c 37 rfl ?_ (.c 10 rfl ?_ (.l [2, 4, 5, 6, 7, 9, 35, 36] rfl))) ?_) ?_)))))))))))))))))))))))))
   ·rfl
   ·rfl
   ·exact memC_eq (by rw [cN_zero])
   rintro ⟨⟨n0, g⟩, hI⟩ K11 hK11
   refine .cv (Cv.wk (.l [37, 10, 2, 4, 5, 6, 7, 9, 35, 36] rfl)) (.memEq (M' := [grMK zc g (((vals vs).take n0).map nz), (some b2, zB ((cN C (vals xs) (vals vs) R (0)).flatMap zc)), (some b1, zB [isI (R : Int), isI (C : Int), SlK 2 zc xs])]) rfl ?_)
   simp only [] at hI
   refine .seq fun _ k12 => .region (st (.ltI (.t rfl) (.t rfl)) rfl (nl (.thn (k12 _ _ (.seq fun _ k13 => .cond (.t rfl) (fun hc3 => ?_) (fun hc3 => ?_))))))
   ·have hc3 := BP.t hc3
    refine .skip (.thn (k13 _ _ (.seq fun _ k14 => .block (.seq fun _ k15 => .region (st (.ixK sl22 ty41 (.t rfl) (.t rfl) zO ⟨by omega, by omega⟩ (getD_some (d := (false, [])) (i := n0) (by omega))) rfl (st (.loadP (.t rfl) ty41 rfl (Ss' := [_, _]) rfl) rfl (.alloc [isB false, SlM isU []] zG (fun _ _ => ⟨rfl, nilM _ _, trivial⟩) rfl fun b3 => .store (.t rfl) (.t rfl) (i := 0) rfl ty41 rfl rfl (Ss' := [_, _]) rfl (M' := [(some _, zB [_, _]), _, _, _]) rfl (nl (.thn (k15 _ _ (.region (st (.mv (.t rfl)) rfl (st (.fieldAddr (.t rfl) qA ty39) rfl (st (.load1 (.t rfl) (i := 0) rfl ty39 rfl) rfl (st (.fieldAddr (.t rfl) qX ty4) rfl (st (.load1 (.t rfl) (i := 0) rfl ty4 rfl) rfl ?_))))))))))))))))
    refine st (.eq (.call (qE (by show (List.length (zA (val (vs.getD n0 (false, [])).2))) ≤ _; have := hv.raw n0; omega)) (.cons (.t rfl) (.cons (.t rfl) .nil))) ((show isZ _ = isZ (cf (vals vs) n0) from zN (by rw [zi])))) rfl ?_
    refine st (.buildS [isB false, SlM isU []] sl22 ty41 zG (fun _ _ => ⟨rfl, nilM _ _, trivial⟩) rfl rfl (.cons (.t rfl) rfl rfl rfl .nil) rfl (S := SlK 2 zc [nz (cf (vals vs) n0)]) rfl) rfl (.appendGK (fk := zc) (u := (false, [])) zO (by decide) (fun _ => inferInstance) sl22 ty41 zG (fun _ _ => ⟨rfl, nilM _ _, trivial⟩) by41 (.t rfl) (i := 1) rfl (.t rfl) (by rw [List.length_map, List.length_take]; show min n0 _ + 1 ≤ _; omega) (by simp) rfl fun gr1 => ?_)
    refine .memEq (M' := [_, grMK _ _ _, _, _]) rfl (st (.as (.t rfl)) rfl (nl (.bln (.thn (k14 _ _ (.region (st (.addI (.t rfl) (.cI 1 rfl) (by omega) (by omega)) rfl (st (.mv (.t rfl)) rfl (nl (.thn ?_))))))))))
    refine hK11 (⟨(n0 + 1, gr1), by show n0 + 1 ≤ vs.length; omega⟩) _ _ ?_ (Cv.trans (Cv.drop ((.cons _ (.cons_cons _ (.cons_cons _ (.cons_cons _ .slnil)))))) (Cv.mem (.c 37 rfl ?_ (.c 10 rfl ?_ (.l [2, 4, 5, 6, 7, 9, 35, 36] rfl))) ?_))
    ·show vs.length - (n0 + 1) < vs.length - n0; omega
    ·exact zE (by omega)
    ·exact qq (by rw [← wj _ _ (by rw [qJ]; omega), List.length_append])
    ·exact qz (wj _ _ (by rw [qJ]; omega))
   ·have hc3 := BP.f hc3
    refine .exit (.the (.the (.blh (.thn (k9 _ _ (.seq fun _ k16 => .seq fun _ k17 => .region (st (.fieldAddr (.t rfl) zT ty3) rfl (st (.load1 (.t rfl) (i := 2) rfl ty3 rfl) rfl (st (.subI (.t rfl) (.cI 1 rfl) (by omega) (by omega)) rfl (st (.as (.t rfl)) rfl (nl (.thn (k17 _ _ (.cv (Cv.wk (.l [2, 4, 5, 6, 7, 9, 10, 13] rfl)) (.block (.loopF [2, 4, 5, 6, 7, 9, 10] (fun (z : { n : Nat // n ≤ R }) => match z with | ⟨n, hn⟩ => [(13, isI ((R : Int) - 1 - (n : Int)))]) (fun M => fun (z : { n : Nat // n ≤ R }) => match z with | ⟨n, hn⟩ => [grMK zc g ((nrR C (vals xs) (vals vs) R n).map nz), (some b2, zB ((cN C (vals xs) (vals vs) R (n)).flatMap zc)), (some b1, zB [isI (R : Int), isI (C : Int), SlK 2 zc xs])]) (fun (z : { n : Nat // n ≤ R }) => match z with | ⟨n, hn⟩ => R - n) (⟨0, Nat.zero_le _⟩) (Cv.mem (.c 13 rfl ?_ (.l [2, 4, 5, 6, 7, 9, 10] rfl)) ?_) ?_))))))))))))))))
    ·exact zE (by omega)
    ·exact qz (by rw [List.take_of_length_le (by omega)]; rfl)
    rintro ⟨n, hn⟩ K18 hK18
    refine .cv (Cv.wk (.l [13, 2, 4, 5, 6, 7, 9, 10] rfl)) (.memEq (M' := [grMK zc g ((nrR C (vals xs) (vals vs) R n).map nz), (some b2, zB ((cN C (vals xs) (vals vs) R (n)).flatMap zc)), (some b1, zB [isI (R : Int), isI (C : Int), SlK 2 zc xs])]) rfl (.seq fun _ k19 => .seq fun _ k20 => .region (st (.mv (.t rfl)) rfl (st (.geI (.t rfl) (.cI 0 rfl)) rfl (nl (.thn (k20 _ _ (.cond (.t rfl) (fun hc4 => ?_) (fun hc4 => ?_)))))))))
    ·have hc4 := BP.t hc4
     obtain ⟨i, hi⟩ : ∃ i, i = R - 1 - n := ⟨_, rfl⟩
     have hiR : i < R := by omega
     have hrl := bV (C := C) (L := vals xs) (R := R) hvv n
     have hn0l : (((vals vs).take n0).map nz).length = C := by rw [List.length_map, List.length_take]; omega
     have hrb := cc (R := R) hR hC hb hv n (by omega)
     have hk2 := aM (show n ≤ 2 by omega)
     have hk3 : kB 2 = 100032 := by decide
     have hk0 := kB_two n
     have hrq := cw hrb (by omega)
     have hY : QB (gsY C (vals xs) i) 1000 := hW i i hiR (Nat.le_refl _)
     have hd1 := xo hC hrq hY
     have hd2 : qs (gsS C (vals xs) i) ≤ 3 * (1000 + 1000 + 1) + 1 := xo hC hY hY
     have hqq := cT hd1 hd2
     have hnc : nrC C (vals xs) (vals vs) R i = nrQ C (vals xs) (nrR C (vals xs) (vals vs) R n) i := by unfold nrC; rw [show R - 1 - i = n by omega]
     have hnw := nrQ_nw hC (by omega) hrb hY
     rw [← hnc] at hnw
     have hpl1 : (i + 1) * C ≤ R * C := Nat.mul_le_mul_right _ hiR
     have hwv : vals ((xs.take ((i + 1) * C)).drop (i * C)) = Go.Hp.rowL C (vals xs) i := rowL_of (by omega)
     have hpl2 : (i + 1) * C = i * C + C := Nat.succ_mul _ _
     have hwl : ((xs.take ((i + 1) * C)).drop (i * C)).length = C := by rw [List.length_drop, List.length_take]; omega
     have hwb : Bd (vals ((xs.take ((i + 1) * C)).drop (i * C))) 1 := by rw [hwv]; exact fun k => by unfold Go.Hp.rowL; rw [xF]; split; exact hb _; rw [Int.natAbs_zero, zF]; exact Nat.zero_le _
     refine .skip (.thn (k19 _ _ (.seq fun _ k21 => .block (.seq fun _ k22 => .drx [3, 8, 17, 18, 19] [false, true, true] (Ms := [_, _]) rfl (.cons _ (.cons_cons _ (.cons_cons _ .slnil))) (.st (i := 0) [] rfl rfl rfl (by kernel_rfl) (by kernel_rfl) (.o rfl (.mv (.t rfl))) (.st (i := 1) [] rfl rfl rfl (by kernel_rfl) (by kernel_rfl) (.o rfl (.eq (.mv (.t rfl)) ((show isI _ = isI ((i : Nat) : Int) from zE (by omega))))) (.st (i := 2) [] rfl rfl rfl (by kernel_rfl) (by kernel_rfl) (.o rfl (.mv (.t rfl))) (.mid (i := 3) [59] rfl rfl rfl (by kernel_rfl) (by kernel_rfl) (by kernel_rfl) (StG.callX (bJ (gv := g) hrb (by omega) (by omega) (by rw [List.length_map, List.length_take, hrl]; omega)) rfl (.cons (.t rfl) .nil) (by rintro _ _ ⟨rfl, rfl⟩; exact ⟨rfl, rfl⟩)) (.cons _ (.cons_cons _ (.cons_cons _ .slnil))) ?_))))))))
     refine .st (i := 4) [] rfl rfl rfl (by kernel_rfl) (by kernel_rfl) (.o rfl (.mv (.t rfl))) (.st (i := 5) [] rfl rfl rfl (by kernel_rfl) (by kernel_rfl) (.o rfl (.eq (.mv (.t rfl)) ((show isI _ = isI ((i : Nat) : Int) from zE (by omega))))) (.st (i := 6) [61, 62] rfl rfl rfl (by kernel_rfl) (by kernel_rfl) (.o rfl (.ixP sl35 ty37 (.t rfl) (.t rfl) ⟨by omega, by omega⟩ (xH (by omega)))) (.st (i := 7) [63] rfl rfl rfl (by kernel_rfl) (by kernel_rfl) (.o rfl (.loadP1 (.t rfl) ty37)) (.mid (i := 8) [64] rfl rfl rfl (by kernel_rfl) (by kernel_rfl) (by kernel_rfl) (StG.of rfl (.eq (.call (xn hrq hY (by rw [vX, hrl, wd]) (by rw [vX]; omega) (by omega)) (.cons (.t rfl) (.cons (.t rfl) .nil))) ((show _ = isQ (dotQ (qf (frs (nrR C (vals xs) (vals vs) R n))) (qf (gsY C (vals xs) i)) C) from qk (by rw [vX, hrl]))))) (.cons _ (.cons_cons _ (.cons_cons _ .slnil))) ?_))))
     refine .st (i := 9) [] rfl rfl rfl (by kernel_rfl) (by kernel_rfl) (.o rfl (.mv (.t rfl))) (.st (i := 10) [] rfl rfl rfl (by kernel_rfl) (by kernel_rfl) (.o rfl (.eq (.mv (.t rfl)) ((show isI _ = isI ((i : Nat) : Int) from zE (by omega))))) (.st (i := 11) [66, 67] rfl rfl rfl (by kernel_rfl) (by kernel_rfl) (.o rfl (.ixP sl35 ty37 (.t rfl) (.t rfl) ⟨by omega, by omega⟩ (xH (by omega)))) (.st (i := 12) [68] rfl rfl rfl (by kernel_rfl) (by kernel_rfl) (.o rfl (.loadP1 (.t rfl) ty37)) (.st (i := 13) [] rfl rfl rfl (by kernel_rfl) (by kernel_rfl) (.o rfl (.mv (.t rfl))) (.st (i := 14) [] rfl rfl rfl (by kernel_rfl) (by kernel_rfl) (.o rfl (.eq (.mv (.t rfl)) ((show isI _ = isI ((i : Nat) : Int) from zE (by omega))))) (.st (i := 15) [70, 71] rfl rfl rfl (by kernel_rfl) (by kernel_rfl) (.o rfl (.ixP sl35 ty37 (.t rfl) (.t rfl) ⟨by omega, by omega⟩ (xH (by omega)))) (.st (i := 16) [72] rfl rfl rfl (by kernel_rfl) (by kernel_rfl) (.o rfl (.loadP1 (.t rfl) ty37)) (.mid (i := 17) [69, 73] rfl rfl rfl (by kernel_rfl) (by kernel_rfl) (by kernel_rfl) (StG.of rfl (.eq (.call (xn hY hY rfl (by rw [wd]; omega) (by decide)) (.cons (.t rfl) (.cons (.t rfl) .nil))) ((show _ = isQ (gsS C (vals xs) i) from qk (by rw [wd]; rfl))))) (.cons _ (.cons_cons _ (.cons_cons _ .slnil))) ?_))))))))
     refine .mid (i := 18) [] rfl rfl rfl (by kernel_rfl) (by kernel_rfl) (by kernel_rfl) (StG.of rfl (.call (eH hd1 hd2 (by omega) (hs i (by omega))) (.cons (.t rfl) (.cons (.t rfl) .nil)))) (.cons _ (.cons_cons _ (.cons_cons _ .slnil))) (.mid (i := 19) [] rfl rfl rfl (by kernel_rfl) (by kernel_rfl) (by kernel_rfl) (StG.of rfl (.eq (.call (rat_Round hqq (by omega)) (.cons (.t rfl) .nil)) ((show _ = isZ (nrC C (vals xs) (vals vs) R i) from zN hnc.symm)))) (.cons _ (.cons_cons _ (.cons_cons _ .slnil))) (.fin (n := 20) zR rfl (by kernel_rfl) (by kernel_rfl) (by kernel_rfl) (.cv (Cv.wk (.l [2, 4, 5, 6, 7, 9, 10, 13, 53, 54, 57, 58, 59, 60, 61, 62, 63, 64, 65, 66, 67, 68, 69, 70, 71, 72, 73, 74, 75, 76] rfl)) (st (.eq (.ixWin sl22 ty41 (.t rfl) (.t rfl) ⟨by omega, by omega⟩) (zX (by exact ixo2))) rfl (.storeK (z := nz (nrC C (vals xs) (vals vs) R i)) zO (.t rfl) (.t rfl) (i := 1) rfl ty41 (by rw [wy]; simp only [Int.toNat_natCast]; omega) (M' := [_, (_, _), _]) rfl ?_)))))
     refine nl (.thn (k22 _ _ (.seq fun _ k23 => .region (st (.mv (.t rfl)) rfl (st (.len sl22 (.t rfl)) rfl (st (.mv (.cI 0 rfl)) rfl (nl (.thn (k23 _ _ (.block (.loopF [2, 4, 5, 6, 7, 9, 10, 13, 53, 54, 57, 58, 59, 60, 61, 62, 63, 64, 65, 66, 67, 68, 69, 70, 71, 72, 73, 74, 75, 76, 77, 78, 79] (fun (z : { k : Nat // k ≤ C }) => match z with | ⟨k, hk⟩ => [(80, isI (k : Int))]) (fun M => fun (z : { k : Nat // k ≤ C }) => match z with | ⟨k, hk⟩ => [grMK zc g ((nrN C (vals xs) (nrR C (vals xs) (vals vs) R n) i k).map nz), (some b2, zB ((cN C (vals xs) (vals vs) R (n + 1)).flatMap zc)), (some b1, zB [isI (R : Int), isI (C : Int), SlK 2 zc xs])]) (fun (z : { k : Nat // k ≤ C }) => match z with | ⟨k, hk⟩ => C - k) (⟨0, Nat.zero_le _⟩) (Cv.mem (.c 80 rfl ?_ (.l [2, 4, 5, 6, 7, 9, 10, 13, 53, 54, 57, 58, 59, 60, 61, 62, 63, 64, 65, 66, 67, 68, 69, 70, 71, 72, 73, 74, 75, 76, 77, 78, 79] rfl)) ?_) ?_)))))))))))
     ·rfl
     ·exact memC_eq (by rw [Int.toNat_natCast, cN_set hiR hi])
     rintro ⟨k, hk⟩ K24 hK24
     refine .cv (Cv.wk (.l [80, 2, 4, 5, 6, 7, 9, 10, 13, 53, 54, 57, 58, 59, 60, 61, 62, 63, 64, 65, 66, 67, 68, 69, 70, 71, 72, 73, 74, 75, 76, 77, 78, 79] rfl)) (.memEq (M' := [grMK zc g ((nrN C (vals xs) (nrR C (vals xs) (vals vs) R n) i k).map nz), (some b2, zB ((cN C (vals xs) (vals vs) R (n + 1)).flatMap zc)), (some b1, zB [isI (R : Int), isI (C : Int), SlK 2 zc xs])]) rfl ?_)
     have hNl : ((nrN C (vals xs) (nrR C (vals xs) (vals vs) R n) i k).map nz).length = C := by rw [List.length_map, nrN_len hrl hk]
     refine .seq fun _ k25 => .region (st (.ltI (.t rfl) (.t rfl)) rfl (nl (.thn (k25 _ _ (.seq fun _ k26 => .cond (.t rfl) (fun hc5 => ?_) (fun hc5 => ?_))))))
     ·have hc5 := BP.t hc5
      have hkC : k < C := (by omega)
      have hrk := hrb k
      have hmk : (List.length (zA (mf C (vals xs) i k).natAbs)) ≤ 1 := hb _
      have hmm := qD (nrQ C (vals xs) (nrR C (vals xs) (vals vs) R n) i) (mf C (vals xs) i k)
      have hnw2 := hnw
      rw [hnc] at hnw2
      refine .skip (.thn (k26 _ _ (.seq fun _ k27 => .block (.seq fun _ k28 => .region (st (.mv (.t rfl)) rfl (st (.as (.t rfl)) rfl (nl (.thn (k28 _ _ (.dr (.s [] rfl rfl rfl (.o rfl (.mv (.t rfl))) (.s [] rfl rfl rfl (.o rfl (.mv (.t rfl))) (.s [] rfl rfl rfl (.o rfl (.mv (.t rfl))) (.s [] rfl rfl rfl (.o rfl (.mv (.t rfl))) (.s [85, 86] rfl rfl rfl (.o rfl (.ixGr sl22 ty41 (.t rfl) (.t rfl) ⟨by omega, by omega⟩)) ?_)))))))))))))))
      refine .s [87] rfl rfl rfl (.o rfl (.loadGK zO (.t rfl) (i := 0) rfl ty41 (nrN_get hrl hkC))) (.s [] rfl rfl rfl (.o rfl (.mv (.t rfl))) (.s [] rfl rfl rfl (.o rfl (.eq (.mv (.t rfl)) ((show isI _ = isI ((i : Nat) : Int) from zE (by omega))))) (.s [89, 90] rfl rfl rfl (.o rfl (.eq (.ixWin sl22 ty41 (.t rfl) (.t rfl) ⟨by omega, by omega⟩) (zX (by exact ixo2)))) (.s [91] rfl rfl rfl (.o rfl (.loadK zO (.t rfl) (i := 1) rfl ty41 (Eq.trans (congrArg (fun z => (cN C (vals xs) (vals vs) R (n + 1))[z]?) (Int.toNat_natCast i)) (cN_get hiR (by omega))))) (.s [] rfl rfl rfl (.o rfl (.load (.t rfl) (i := 2) rfl ty24 rfl (Ss' := [_, _, _]) rfl)) (.s [] rfl rfl rfl (.o rfl (.eq (.mv (.t rfl)) ((show isI _ = isI ((i : Nat) : Int) from zE (by omega))))) (.s [93, 94] rfl rfl rfl (.o rfl (.call (gram_row (i := i) (by omega) (by omega) hl (by omega)) (.cons (.t rfl) (.cons (.t rfl) .nil)))) (.s [] rfl rfl rfl (.o rfl (.mv (.t rfl))) (.s [95, 96] rfl rfl rfl (.o rfl (.ixK sl22 ty41 (.t rfl) (.t rfl) zO ⟨by omega, by omega⟩ (getD_some (d := (false, [])) (i := k) (by omega)))) (.s [97] rfl rfl rfl (.o rfl (.loadP (.t rfl) ty41 rfl (Ss' := [_, _]) rfl)) ?_))))))))))
      refine .s [92, 98] rfl rfl rfl (.o rfl (.eq (.call (qT (by rw [zC]; omega) (by show (List.length (zA (val (((xs.take ((i + 1) * C)).drop (i * C)).getD k (false, [])).2))) ≤ _; have := hwb.raw k; omega)) (.cons (.t rfl) (.cons (.t rfl) .nil))) ((show isZ _ = isZ (nrQ C (vals xs) (nrR C (vals xs) (vals vs) R n) i * mf C (vals xs) i k) from zN (by rw [zH, hnc, ← zi, hwv, Go.Hp.cf_rowL hkC]))))) ?_
      refine .s [88, 99] rfl rfl rfl (.o rfl (.eq (.call (vd (by rw [zC]; omega) (by rw [zC]; omega)) (.cons (.t rfl) (.cons (.t rfl) .nil))) ((show isZ _ = isZ (cf (nrR C (vals xs) (vals vs) R n) k - nrQ C (vals xs) (nrR C (vals xs) (vals vs) R n) i * mf C (vals xs) i k) from zN (by simp only [zH]))))) ?_
      refine .fin (n := 18) zR (by kernel_rfl) (by kernel_rfl) (by kernel_rfl) (.cv (Cv.wk (.l [2, 4, 5, 6, 7, 9, 10, 13, 53, 54, 57, 58, 59, 60, 61, 62, 63, 64, 65, 66, 67, 68, 69, 70, 71, 72, 73, 74, 75, 76, 77, 78, 79, 80, 81, 82, 14, 83, 84, 85, 86, 87, 88, 89, 90, 91, 92, 93, 94, 95, 96, 97, 98, 99, 100] rfl)) (st (.ixGr sl22 ty41 (.t rfl) (.t rfl) ⟨by omega, by omega⟩) rfl (.storeGK (z := nz (cf (nrR C (vals xs) (vals vs) R n) k - nrQ C (vals xs) (nrR C (vals xs) (vals vs) R n) i * mf C (vals xs) i k)) zO (.t rfl) (.t rfl) (i := 0) rfl ty41 (by omega) (M' := [grMK _ _ _, _, _]) rfl (nl (.bln (.thn (k27 _ _ (.region (st (.addI (.t rfl) (.cI 1 rfl) (by omega) (by omega)) rfl (st (.mv (.t rfl)) rfl (nl (.thn (hK24 (⟨k + 1, by omega⟩) _ _ ?_ (Cv.mem (.c 80 rfl ?_ (.l [2, 4, 5, 6, 7, 9, 10, 13, 53, 54, 57, 58, 59, 60, 61, 62, 63, 64, 65, 66, 67, 68, 69, 70, 71, 72, 73, 74, 75, 76, 77, 78, 79] rfl)) ?_))))))))))))))
      ·show C - (k + 1) < C - k; omega
      ·exact zE (by omega)
      ·exact qz (by rw [← List.map_set, Int.toNat_natCast, nrN_set hrl hkC])
     ·have hc5 := BP.f hc5
      skip
      refine .exit (.the (.the (.blh (.bln (.thn (k21 _ _ (.region (st (.mv (.t rfl)) rfl (st (.subI (.t rfl) (.cI 1 rfl) (by omega) (by omega)) rfl (st (.as (.t rfl)) rfl (nl (.thn (hK18 (⟨n + 1, by omega⟩) _ _ ?_ (Cv.mem (.c 13 rfl ?_ (.l [2, 4, 5, 6, 7, 9, 10] rfl)) ?_))))))))))))))
      ·show R - (n + 1) < R - n; omega
      ·exact zE (by omega)
      ·exact qz (by rw [show k = C by omega, nrN_all hrl, hi]; rfl)
    ·have hc4 := BP.f hc4
     have hnR : n = R := (by omega)
     refine .exit (.the (.the (.blh (.thn (k16 _ _ (.cv (Cv.wk (.l [4, 5, 6, 9, 10] rfl)) (.seq fun _ k29 => .cv (Cv.wk (.k 4 rfl (.k 5 rfl (.k 6 rfl (.k 9 rfl (.cons (t := 10) (Has.t' rfl (show isGr g (((vals vs).take n0).map nz).length = isGr g ((nrR C (vals xs) (vals vs) R n).map nz).length from qq (by rw [List.length_map, List.length_take, List.length_map, bV hvv]; omega))) .nil)))))) ?_)))))))
     refine .cv (Cv.freezeGK (t := 10) (i := 0) (ys := (nrR C (vals xs) (vals vs) R n).map nz) zO rfl rfl rfl) (.memEq (M' := [_, _]) rfl (.cv (Cv.wk (.l [4, 5, 6, 9, 10] rfl)) (.cv (Cv.freezeK (t := 9) (i := 0) (ys := (nrL C (vals xs) (vals vs) R).map nz) zO rfl rfl rfl (by rw [wy]; omega) (by rw [hnR, List.take_of_length_le (by rw [wy]; exact Nat.le_refl _), cN_all])) ?_)))
     refine .memEq (M' := [_]) rfl (.cv (Cv.wk (.l [4, 5, 6, 9, 10] rfl)) (.region (st (.mv (.t rfl)) rfl (st (.mv (.t rfl)) rfl (st (.as (.t rfl)) rfl (st (.as (.t rfl)) rfl (st (.as (.cI 0 rfl)) rfl (nl (.thn (k29 _ _ (.ret (rtN (.inl rfl) Tryz.results7 rfl rfl (.tmp (Has.t' rfl ?_) (.tmp (Has.t' rfl ?_) (.tmp (Has.t' rfl ?_) .nil)))))))))))))))
     ·rfl
     ·exact wa (by rw [hnR])
     ·rfl
theorem da {r c : Int} {xs vs : List (Bool × List Nat)} (hf : xe r c xs.length = false) : Ctr Tryz.prog 7 [isM r c xs, SlK 2 zc vs] (zQ [isP [], isP [], isI 2]) := by
 refine Ctr.intro Tryz.func7 rfl (by kernel_rfl) Tryz.ntmps7 rfl fun w0 F0 => .cv (Cv.wk (.l [0, 1] rfl)) (.fact (Has.lenLt (Has.t (t := 1) rfl)) fun lt1 => .seq fun _ k1 => .region (.box (.t rfl) rfl fun b1 => st (.as (.cWK (k := 2) (fk := zc))) rfl (st (.as (.cWK (k := 2) (fk := zc))) rfl (st (.as (.cI 0 rfl)) rfl (nl (.thn (k1 _ _ (.seq fun _ k2 => .seq fun _ k3 => .region (st (.load (.t rfl) (i := 0) rfl ty24 rfl (Ss' := [_, _, _]) rfl) rfl (st (.eq (.call (zh) (.cons (.t rfl) .nil)) ((show isB _ = isB false from zU (hf)))) rfl (st (.not (.t rfl)) rfl (st (.mv (.t rfl)) rfl (stF rfl rfl (fun hg => .mv (.t rfl)) rfl (stF rfl rfl (fun hg => .len sl22 (Has.g rfl hg)) rfl (stF rfl rfl (fun hg => .fieldAddr (.t rfl) zS ty3) rfl (stF rfl rfl (fun hg => .load1 (Has.g rfl hg) (i := 0) rfl ty3 rfl) rfl (stF rfl rfl (fun hg => .neI (Has.g rfl hg) (Has.g rfl hg)) rfl (st (.pickOr (.t rfl) (fun h => Has.g rfl (ng h))) rfl (nl (.thn (k3 _ _ (.cv (Cv.wk (.l [1, 2, 4, 5, 6, 24] rfl)) (.cond (.t rfl) (fun hc1 => ?_) (fun hc1 => ?_))))))))))))))))))))))))
 ·have hc1 := BP.t hc1
  refine .seq fun _ k4 => .region (st (.as (.cWK (k := 2) (fk := zc))) rfl (st (.as (.cWK (k := 2) (fk := zc))) rfl (st (.as (.cI 2 rfl)) rfl (nl (.thn (k4 _ _ (.ret (.thr (rtN (.inl rfl) Tryz.results7 rfl rfl (.tmp (Has.t' rfl ?_) (.tmp (Has.t' rfl ?_) (.tmp (Has.t' rfl ?_) .nil))))))))))))
  ·rfl
  ·rfl
  ·rfl
 ·have hc1 := BP.f hc1
  exfalso; simp at hc1
theorem dZ {r : Int} {C : Nat} {xs vs : List (Bool × List Nat)} (hf : xe r C xs.length = true) (hne : vs.length ≠ C) : Ctr Tryz.prog 7 [isM r (C : Int) xs, SlK 2 zc vs] (zQ [isP [], isP [], isI 2]) := by
 refine Ctr.intro Tryz.func7 rfl (by kernel_rfl) Tryz.ntmps7 rfl fun w0 F0 => .cv (Cv.wk (.l [0, 1] rfl)) (.fact (Has.lenLt (Has.t (t := 1) rfl)) fun lt1 => .seq fun _ k1 => .region (.box (.t rfl) rfl fun b1 => st (.as (.cWK (k := 2) (fk := zc))) rfl (st (.as (.cWK (k := 2) (fk := zc))) rfl (st (.as (.cI 0 rfl)) rfl (nl (.thn (k1 _ _ (.seq fun _ k2 => .seq fun _ k3 => .region (st (.load (.t rfl) (i := 0) rfl ty24 rfl (Ss' := [_, _, _]) rfl) rfl (st (.eq (.call (zh) (.cons (.t rfl) .nil)) ((show isB _ = isB true from zU (hf)))) rfl (st (.not (.t rfl)) rfl (st (.mv (.t rfl)) rfl (stF rfl rfl (fun hg => .mv (.t rfl)) rfl (stF rfl rfl (fun hg => .len sl22 (Has.g rfl hg)) rfl (stF rfl rfl (fun hg => .fieldAddr (.t rfl) zS ty3) rfl (stF rfl rfl (fun hg => .load1 (Has.g rfl hg) (i := 0) rfl ty3 rfl) rfl (stF rfl rfl (fun hg => .neI (Has.g rfl hg) (Has.g rfl hg)) rfl (st (.pickOr (.t rfl) (fun h => Has.g rfl (ng h))) rfl (nl (.thn (k3 _ _ (.cv (Cv.wk (.l [1, 2, 4, 5, 6, 24] rfl)) (.cond (.t rfl) (fun hc1 => ?_) (fun hc1 => ?_))))))))))))))))))))))))
 ·have hc1 := BP.t hc1
  skip
  refine .seq fun _ k4 => .region (st (.as (.cWK (k := 2) (fk := zc))) rfl (st (.as (.cWK (k := 2) (fk := zc))) rfl (st (.as (.cI 2 rfl)) rfl (nl (.thn (k4 _ _ (.ret (.thr (rtN (.inl rfl) Tryz.results7 rfl rfl (.tmp (Has.t' rfl ?_) (.tmp (Has.t' rfl ?_) (.tmp (Has.t' rfl ?_) .nil))))))))))))
  ·rfl
  ·rfl
  ·rfl
 ·have hc1 := BP.f hc1
  exfalso; first | omega | (have := hc1.2; omega) | (simp at hc1; omega)
theorem gram_Near_no {R C : Nat} {xs : List (Bool × List Nat)} (hR : R ≤ 3) (hC : C ≤ 3) (hl : xs.length = R * C) (hb : Bd (vals xs) 1) {vs : List (Bool × List Nat)} (hvl : vs.length = C) {i0 : Nat} (hi0 : i0 < R) (hz : gsS C (vals xs) i0 = 0) (hs : ∀ i, i < i0 → gsS C (vals xs) i ≠ 0) : Ctr Tryz.prog 7 [isM (R : Int) (C : Int) xs, SlK 2 zc vs] (zQ [isP [], isP [], isI 3]) := by
 refine Ctr.intro Tryz.func7 rfl (by kernel_rfl) Tryz.ntmps7 rfl fun w0 F0 => .cv (Cv.wk (.l [0, 1] rfl)) (.fact (Has.lenLt (Has.t (t := 1) rfl)) fun lt1 => ?_)
 have hfo := zj (show R ≤ 64 by omega) (show C ≤ 64 by omega) hl
 refine .seq fun _ k1 => .region (.box (.t rfl) rfl fun b1 => st (.as (.cWK (k := 2) (fk := zc))) rfl (st (.as (.cWK (k := 2) (fk := zc))) rfl (st (.as (.cI 0 rfl)) rfl (nl (.thn (k1 _ _ (.seq fun _ k2 => .seq fun _ k3 => .region (st (.load (.t rfl) (i := 0) rfl ty24 rfl (Ss' := [_, _, _]) rfl) rfl (st (.eq (.call (zh) (.cons (.t rfl) .nil)) ((show isB _ = isB true from zU (hfo)))) rfl (st (.not (.t rfl)) rfl (st (.mv (.t rfl)) rfl (stF rfl rfl (fun hg => .mv (.t rfl)) rfl (stF rfl rfl (fun hg => .len sl22 (Has.g rfl hg)) rfl (stF rfl rfl (fun hg => .fieldAddr (.t rfl) zS ty3) rfl (stF rfl rfl (fun hg => .load1 (Has.g rfl hg) (i := 0) rfl ty3 rfl) rfl (stF rfl rfl (fun hg => .neI (Has.g rfl hg) (Has.g rfl hg)) rfl (st (.pickOr (.t rfl) (fun h => Has.g rfl (ng h))) rfl (nl (.thn (k3 _ _ (.cv (Cv.wk (.l [1, 2, 4, 5, 6, 24] rfl)) (.cond (.t rfl) (fun hc1 => ?_) (fun hc1 => ?_)))))))))))))))))))))))
 ·have hc1 := BP.t hc1
  exfalso; first | (rw [hvl] at hc1; simp at hc1; done) | (simp at hc1; omega)
 ·have hc1 := BP.f hc1
  skip
  refine .skip (.thn (k2 _ _ (.seq fun _ k4 => .region (st (.load (.t rfl) (i := 0) rfl ty24 rfl (Ss' := [_, _, _]) rfl) rfl (st (.call (gram_left_no hR hC hl hb hi0 hz hs) (.cons (.t rfl) .nil)) rfl (st (.mv (.t rfl)) rfl (st (.ext (.t rfl) rfl) rfl (st (.ext (.t rfl) rfl) rfl (st (.as (.t rfl)) rfl (st (.as (.t rfl)) rfl (nl (.thn (k4 _ _ (.cv (Cv.wk (.l [1, 2, 4, 5, 6, 7, 8] rfl)) (.seq fun _ k5 => .seq fun _ k6 => .region (st (.mv (.t rfl)) rfl (st (.not (.t rfl)) rfl (nl (.thn (k6 _ _ (.cond (.t rfl) (fun hc2 => ?_) (fun hc2 => ?_))))))))))))))))))))))
  ·have hc2 := BP.t hc2
   skip
   refine .seq fun _ k7 => .region (st (.as (.cWK (k := 2) (fk := zc))) rfl (st (.as (.cWK (k := 2) (fk := zc))) rfl (st (.as (.cI 3 rfl)) rfl (nl (.thn (k7 _ _ (.ret (.thr (rtN (.inl rfl) Tryz.results7 rfl rfl (.tmp (Has.t' rfl ?_) (.tmp (Has.t' rfl ?_) (.tmp (Has.t' rfl ?_) .nil))))))))))))
   ·rfl
   ·rfl
   ·rfl
  ·have hc2 := BP.f hc2
   exfalso; simp at hc2
theorem cO {R C i : Nat} {xs : List (Bool × List Nat)} (hR : R ≤ 64) (hC : C ≤ 64) (hl : xs.length = R * C) (hb : Bd (vals xs) 1) (hi : i < R) : CtrX Tryz.prog 37 [isM (R : Int) (C : Int) xs, isI (i : Int)] ([]) (fun S M => ∃ g : Gr ((Bool × List Nat) × Bool × List Nat), S = isGr g ((frow C (vals xs) i).map nq).length ∧ M = [grMK rc g ((frow C (vals xs) i).map nq)]) := by
 refine CtrX.intro Tryz.func37 rfl (by kernel_rfl) Tryz.ntmps37 rfl fun w0 F0 => .cv (Cv.wk (.l [0, 1] rfl)) (.fact (Has.rngI (Has.t (t := 1) rfl)) fun lt1 => ?_)
 have hRC := qL hR hC
 have hfl : (frow C (vals xs) i).length = C := qc _ _ _
 refine .seq fun _ k1 => .region (.box (.t rfl) rfl fun b1 => st (.as (.cWK (k := 4) (fk := rc))) rfl (nl (.thn (k1 _ _ (.seq fun _ k2 => .region (.cv (Cv.grow0K (α := (Bool × List Nat) × Bool × List Nat) rc) (st (.as (Has.cGr (α := (Bool × List Nat) × Bool × List Nat))) rfl (nl (.thn (k2 _ _ (.seq fun _ k3 => .seq fun _ k4 => .region (st (.as (.cI 0 rfl)) rfl (nl (.thn (k4 _ _ (.block (.loopF [1, 2, 4] (fun (z : { z : Nat × Gr ((Bool × List Nat) × Bool × List Nat) // z.1 ≤ C }) => match z with | ⟨(k, g), hI⟩ => [(6, isI (k : Int)), (5, isGr g (((frow C (vals xs) i).take k).map nq).length)]) (fun M => fun (z : { z : Nat × Gr ((Bool × List Nat) × Bool × List Nat) // z.1 ≤ C }) => match z with | ⟨(k, g), hI⟩ => [grMK rc g (((frow C (vals xs) i).take k).map nq), (some b1, zB [isI (R : Int), isI (C : Int), SlK 2 zc xs])]) (fun (z : { z : Nat × Gr ((Bool × List Nat) × Bool × List Nat) // z.1 ≤ C }) => match z with | ⟨(k, g), hI⟩ => C - k) (⟨(0, Gr.nil), Nat.zero_le _⟩) (Cv.mem (.c 6 rfl ?_ (.c 5 rfl ?_ (.l [1, 2, 4] rfl))) ?_) ?_)))))))))))))))))
 ·rfl
 ·rfl
 ·rfl
 rintro ⟨⟨k, g⟩, hI⟩ K5 hK5
 refine .cv (Cv.wk (.l [6, 5, 1, 2, 4] rfl)) (.memEq (M' := [grMK rc g (((frow C (vals xs) i).take k).map nq), (some b1, zB [isI (R : Int), isI (C : Int), SlK 2 zc xs])]) rfl ?_)
 simp only [] at hI
 refine .seq fun _ k6 => .seq fun _ k7 => .region (st (.mv (.t rfl)) rfl (st (.fieldAddr (.t rfl) zS ty3) rfl (st (.load1 (.t rfl) (i := 1) rfl ty3 rfl) rfl (st (.ltI (.t rfl) (.t rfl)) rfl (nl (.thn (k7 _ _ (.cond (.t rfl) (fun hc1 => ?_) (fun hc1 => ?_)))))))))
 ·have hc1 := BP.t hc1
  have hkC : k < C := (by omega)
  have hpl := qG hi hkC
  have hxr := hb.raw (i * C + k)
  refine .skip (.thn (k6 _ _ (.seq fun _ k8 => .block (.region (st (.mv (.t rfl)) rfl (st (.load (.t rfl) (i := 1) rfl ty24 rfl (Ss' := [_, _, _]) rfl) rfl (st (.mv (.t rfl)) rfl (st (.mv (.t rfl)) rfl (st (.call (wF (i := i) (k := k) (by omega) (by omega)) (.cons (.t rfl) (.cons (.t rfl) (.cons (.t rfl) .nil)))) rfl ?_)))))))))
  refine st (.eq (.call (ag (by show (List.length (zA (val (xs.getD (i * C + k) (false, [])).2))) ≤ _; omega)) (.cons (.t rfl) .nil)) ((show isQ _ = Flat (rc (nq ((mf C (vals xs) i k : Int) : Rat))) from qk (by rw [← zi]; rfl)))) rfl ?_
  refine st (.buildS [isB false, SlM isU [], isB false, SlM isU []] sl37 ty43 zt (fun _ _ => ⟨rfl, nilM _ _, rfl, nilM _ _, trivial⟩) rfl rfl (.cons (.t rfl) rfl rfl rfl .nil) rfl (S := SlK 4 rc [nq ((mf C (vals xs) i k : Int) : Rat)]) rfl) rfl (.appendGK (fk := rc) (u := ((false, []), (false, []))) qg (by decide) (fun _ => inferInstance) sl37 ty43 zt (fun _ _ => ⟨rfl, nilM _ _, rfl, nilM _ _, trivial⟩) by43 (.t rfl) (i := 0) rfl (.t rfl) (by rw [List.length_map, List.length_take]; show min k _ + 1 ≤ _; omega) (by simp) rfl fun gr1 => ?_)
  refine .memEq (M' := [grMK _ _ _, _]) rfl (st (.as (.t rfl)) rfl (nl (.bln (.thn (k8 _ _ (.region (st (.mv (.t rfl)) rfl (st (.addI (.t rfl) (.cI 1 rfl) (by omega) (by omega)) rfl (st (.as (.t rfl)) rfl (nl (.thn ?_)))))))))))
  refine hK5 (⟨(k + 1, gr1), by show k + 1 ≤ C; omega⟩) _ _ ?_ (Cv.mem (.c 6 rfl ?_ (.c 5 rfl ?_ (.l [1, 2, 4] rfl))) ?_)
  ·show C - (k + 1) < C - k; omega
  ·exact zE (by omega)
  ·exact qq (by rw [eK hkC, List.map_append, List.length_append]; rfl)
  ·exact qz (by rw [eK hkC, List.map_append]; rfl)
 ·have hc1 := BP.f hc1
  have hkC : k = C := (by omega)
  refine .exit (.the (.the (.blh (.thn (k3 _ _ (.cv (Cv.wk (.l [4, 5] rfl)) (.seq fun _ k9 => .region (st (.mv (.t rfl)) rfl (st (.as (.t rfl)) rfl (nl (.thn (k9 _ _ (.ret (jO (.cons_cons _ (.cons _ .slnil)) (.inl rfl) Tryz.results37 rfl (.tmp (.t rfl) .nil) (⟨g, by rw [hkC, List.take_of_length_le (by omega)], by rw [hkC, List.take_of_length_le (by omega)]⟩)))))))))))))))
theorem freezeKX {P : Program} {α : Type} {fk : α → List VP} {k : Nat} {g : FuncId} {args : List VP} {ys : List α} (hk : ∀ y, (fk y).length = k) (h : CtrX P g args [] (fun S M => ∃ gr : Gr α, S = isGr gr ys.length ∧ M = [grMK fk gr ys])) : Ctr P g args (SlK k fk ys) :=
 ⟨h.1, fun w F vs hF hargs => (h.2 w F vs hF ⟨List.Pairwise.nil, by simp⟩ hargs).mono (by
  rintro e w' ⟨v, S', M', F', rfl, ⟨gr, rfl, rfl⟩, hk', hsub, hnew, hv, _, heach⟩
  refine ⟨v, rfl, hk', ?_⟩
  rcases hv with ⟨h1, h2, rfl⟩ | ⟨b, hob, rfl, h1, h2⟩
  ·obtain rfl : ys = [] := List.eq_nil_of_length_eq_zero h2
   exact nilK
  ·obtain ⟨g1, g2, g3, o, g4, us, T, rfl, hu⟩ := heach b (zB ((ys ++ gr.sp).flatMap fk)) (by unfold grMK; rw [hob]; simp)
   have hb : vx F w w' b := by
    rcases g1 with g1 | g1
    ·exact .inr ⟨g1, g2⟩
    ·exact absurd g1 (by simp [blks])
   have hu2 := hu.take (ys.flatMap fk).length
   rw [List.flatMap_append, List.take_left' rfl] at hu2
   refine ⟨_, _, rfl, by omega, h2, qW hk ys, .inr ⟨b, 0, rfl, hb, _, All2.mono (fun _ _ => rfl) hnew _ _ hu2, fun j u hj => ?_⟩⟩
   rw [List.getElem?_take] at hj
   split at hj
   ·rw [Nat.zero_add]; simp [World.cell?, g4, hj]
   ·cases hj)⟩
theorem ref20_Row {R C i : Nat} {xs : List (Bool × List Nat)} (hR : R ≤ 64) (hC : C ≤ 64) (hl : xs.length = R * C) (hb : Bd (vals xs) 1) (hi : i < R) : Ctr Tryz.prog 37 [isM (R : Int) (C : Int) xs, isI (i : Int)] (isQs (frow C (vals xs) i)) := freezeKX qg (cO hR hC hl hb hi)
end Go.Proofs.YthmhlblaleahpaaGreat
namespace Go.Gs
open Go.En Go.Pz Go.Nt Go.Mz Go.Hp Go.Dt
theorem vm {f f' g g' : Nat → Rat} : ∀ {n : Nat}, (∀ i, i < n → f i = f' i) → (∀ i, i < n → g i = g' i) → dotQ f g n = dotQ f' g' n
  | 0, _, _ => rfl
  | n + 1, h, k => by
    show dotQ f g n + f n * g n = dotQ f' g' n + f' n * g' n
    rw [vm (fun i hi => h i (by omega)) (fun i hi => k i (by omega)), h n (by omega), k n (by omega)]
theorem au (f g : Nat → Rat) : ∀ n, dotQ f g n = dotQ g f n
 | 0 => rfl
 | n + 1 => by show dotQ f g n + f n * g n = dotQ g f n + g n * f n; rw [au f g n, Rat.mul_comm]
theorem jW (f h g : Nat → Rat) (c : Rat) : ∀ n, dotQ (fun i => f i - c * h i) g n = dotQ f g n - c * dotQ h g n
  | 0 => by show (0 : Rat) = 0 - c * 0; grind
  | n + 1 => by
    show dotQ (fun i => f i - c * h i) g n + (f n - c * h n) * g n = dotQ f g n + f n * g n - c * (dotQ h g n + h n * g n)
    rw [jW f h g c n]; grind
theorem dotQ_ls {C : Nat} {X Y : List Rat} {c : Rat} (g : Nat → Rat) (h : X.length = C) : dotQ (qf (lsQ X Y c)) g C = dotQ (qf X) g C - c * dotQ (qf Y) g C := by
 rw [← jW]
 exact vm (fun i hi => lsQ_at (by omega)) fun _ _ => rfl
theorem bl (f : Nat → Rat) : ∀ n, 0 ≤ dotQ f f n
  | 0 => Rat.le_refl
  | n + 1 => by
    have h1 := bl f n
    have h2 : 0 ≤ f n * f n := by
      rcases Rat.le_total (a := 0) (b := f n) with h | h
      · exact Rat.mul_nonneg h h
      · have := Rat.mul_nonneg (a := -f n) (b := -f n) (by grind) (by grind)
        grind
    show 0 ≤ dotQ f f n + f n * f n
    grind
theorem sq0 {x : Rat} (h : x * x = 0) : x = 0 := by
 rcases Rat.mul_eq_zero.1 h with h | h <;> exact h
theorem eP {f : Nat → Rat} : ∀ {n : Nat}, dotQ f f n = 0 → ∀ i, i < n → f i = 0
  | 0, _, i, h => absurd h (Nat.not_lt_zero _)
  | n + 1, h, i, hi => by
    have h0 : dotQ f f n + f n * f n = 0 := h
    have h1 := bl f n
    have h2 : 0 ≤ f n * f n := by
      have := bl (fun _ => f n) 1
      have e : dotQ (fun _ => f n) (fun _ => f n) 1 = 0 + f n * f n := rfl
      rw [e] at this; grind
    by_cases e : i = n
    · subst e; exact sq0 (by grind)
    · exact eP (n := n) (by grind) i (by omega)
theorem gs_orth {C : Nat} {L : List Int} : ∀ i, (∀ a, a < i → gsS C L a ≠ 0) → (∀ a b, a < b → b < i → dotQ (qf (gsY C L b)) (qf (gsY C L a)) C = 0) ∧ (∀ b, b ≤ i → (∀ a, a < b → gsS C L a ≠ 0) → ∀ j, j ≤ b → (∀ a, a < j → dotQ (qf (gsX C (gsL C L b) (frow C L b) j)) (qf (gsY C L a)) C = 0) ∧ ∀ a, j ≤ a → a < b → dotQ (qf (gsX C (gsL C L b) (frow C L b) j)) (qf (gsY C L a)) C = dotQ (qf (frow C L b)) (qf (gsY C L a)) C) := by
  intro i
  induction i with
  | zero =>
    intro _
    refine ⟨fun a b _ h => absurd h (Nat.not_lt_zero _), fun b hb _ j hj => ?_⟩
    obtain rfl : b = 0 := by omega
    obtain rfl : j = 0 := by omega
    exact ⟨fun a h => absurd h (Nat.not_lt_zero _), fun a _ h => absurd h (Nat.not_lt_zero _)⟩
  | succ i ih =>
    intro hs
    obtain ⟨h1, h2⟩ := ih fun a ha => hs a (by omega)
    have hO : ∀ a b, a < b → b < i + 1 → dotQ (qf (gsY C L b)) (qf (gsY C L a)) C = 0 := fun a b hab hb => by
      by_cases e : b = i
      · subst e; exact (h2 b (Nat.le_refl _) (fun a ha => hs a (by omega)) b (Nat.le_refl _)).1 a hab
      · exact h1 a b hab (by omega)
    refine ⟨hO, fun b hb hsb j => ?_⟩
    induction j with
    | zero => intro _; exact ⟨fun a h => absurd h (Nat.not_lt_zero _), fun a _ _ => rfl⟩
    | succ j ihj =>
      intro hj
      obtain ⟨g1, g2⟩ := ihj (by omega)
      have hl : (gsX C (gsL C L b) (frow C L b) j).length = C := by rw [vV, qc]
      have hst : ∀ a, dotQ (qf (gsX C (gsL C L b) (frow C L b) (j + 1))) (qf (gsY C L a)) C = dotQ (qf (gsX C (gsL C L b) (frow C L b) j)) (qf (gsY C L a)) C - dotQ (qf (gsX C (gsL C L b) (frow C L b) j)) (qf (gsY C L j)) C / gsS C L j * dotQ (qf (gsY C L j)) (qf (gsY C L a)) C := fun a => by
        show dotQ (qf (lsQ _ _ _)) _ C = _
        rw [dotQ_ls _ hl, ap (by omega)]; rfl
      refine ⟨fun a ha => ?_, fun a ha hab => ?_⟩
      · rw [hst]
        by_cases e : a = j
        · subst e
          have h0 := hsb a (by omega)
          show _ - _ / gsS C L a * gsS C L a = 0
          rw [Rat.div_mul_cancel h0]; grind
        · rw [g1 a (by omega), hO a j (by omega) (by omega)]; grind
      · rw [hst, g2 a (by omega) hab, au (qf (gsY C L j)), hO j a (by omega) (by omega)]; grind
theorem dot_same {C i k : Nat} {L : List Int} (hs : ∀ a, a < i → gsS C L a ≠ 0) (hk : k < i) : dotQ (qf (frow C L i)) (qf (gsY C L k)) C = dotQ (qf (gsX C (gsL C L i) (frow C L i) k)) (qf (gsY C L k)) C :=
 (((gs_orth i hs).2 i (Nat.le_refl _) hs k (by omega)).2 k (Nat.le_refl _) hk).symm
theorem gsY_orth {C R a b : Nat} {L : List Int} (hs : ∀ i, i < R → gsS C L i ≠ 0) (ha : a < R) (hb : b < R) (h : a ≠ b) : dotQ (qf (gsY C L b)) (qf (gsY C L a)) C = 0 := by
 rcases Nat.lt_or_ge a b with h1 | h1
 ·exact (gs_orth R hs).1 a b h1 hb
 ·rw [au]; exact (gs_orth R hs).1 b a (by omega) ha
end Go.Gs
namespace Go.Proofs.YthmhlblaleahpaaGreat
open Go.En Go.RowKit
set_option maxRecDepth 10000
set_option maxHeartbeats 4000000
open Go.Nt
open Go.Pz
open Go.Mz
open Go.Hn
open Go.Hp
open Go.Dt
open Go.Gs
theorem memEqN {E : Env} {Γ : Ctx} {M M' : Mem} (h : M = M') : Cv E Γ M Γ M' := h ▸ Cv.refl
theorem memG_eq {α : Type} {fk : α → List VP} {a : Option Nat × MP} {g : Gr α} {ys ys' : List α} {M : Mem} (h : ys = ys') : (a :: grMK fk g ys :: M : Mem) = a :: grMK fk g ys' :: M := by rw [h]
theorem ref20_LeftX {R C : Nat} {xs : List (Bool × List Nat)} (hR : R ≤ 3) (hC : C ≤ 3) (hl : xs.length = R * C) (hb : Bd (vals xs) 1) (hs : ∀ i, i < R → gsS C (vals xs) i ≠ 0) : CtrX Tryz.prog 12 [isM (R : Int) (C : Int) xs] ([]) (fun S M => S = SlM isQs (gsL C (vals xs) R)) := by
 refine CtrX.intro Tryz.func12 rfl (by kernel_rfl) Tryz.ntmps12 rfl fun w0 F0 => .cv (Cv.wk (.l [0] rfl)) ?_
 have hRC := qL (show R ≤ 64 by omega) (show C ≤ 64 by omega)
 have hW := ao hR hC hb
 refine .seq fun _ k1 => .region (.box (.t rfl) rfl fun b1 => st (.as (.cW (f := fun l => zD l))) rfl (nl (.thn (k1 _ _ (.seq fun _ k2 => .region (.cv (Cv.grow0 (α := List Rat) isQs) (st (.as (Has.cGr (α := List Rat))) rfl (nl (.thn (k2 _ _ (.seq fun _ k3 => .seq fun _ k4 => .region (st (.as (.cI 0 rfl)) rfl (nl (.thn (k4 _ _ (.block (.loopF [1, 2] (fun (z : { z : Nat × Gr (List Rat) // z.1 ≤ R }) => match z with | ⟨(i, g), hI⟩ => [(4, isI (i : Int)), (3, isGr g (gsL C (vals xs) i).length)]) (fun M => fun (z : { z : Nat × Gr (List Rat) // z.1 ≤ R }) => match z with | ⟨(i, g), hI⟩ => [grM isQs g (gsL C (vals xs) i), (some b1, zB [isI (R : Int), isI (C : Int), SlK 2 zc xs])]) (fun (z : { z : Nat × Gr (List Rat) // z.1 ≤ R }) => match z with | ⟨(i, g), hI⟩ => R - i) (⟨(0, Gr.nil), Nat.zero_le _⟩) (Cv.mem (.c 4 rfl ?_ (.c 3 rfl ?_ (.l [1, 2] rfl))) ?_) ?_)))))))))))))))))
 ·rfl
 ·rfl
 ·rfl
 rintro ⟨⟨i, g⟩, hI⟩ K5 hK5
 refine .cv (Cv.wk (.l [4, 3, 1, 2] rfl)) (.memEq (M' := [grM isQs g (gsL C (vals xs) i), (some b1, zB [isI (R : Int), isI (C : Int), SlK 2 zc xs])]) rfl ?_)
 simp only [] at hI
 have hgl : (gsL C (vals xs) i).length = i := xB _ _ _
 refine .seq fun _ k6 => .seq fun _ k7 => .region (st (.mv (.t rfl)) rfl (st (.fieldAddr (.t rfl) zT ty3) rfl (st (.load1 (.t rfl) (i := 1) rfl ty3 rfl) rfl (st (.ltI (.t rfl) (.t rfl)) rfl (nl (.thn (k7 _ _ (.cond (.t rfl) (fun hc1 => ?_) (fun hc1 => ?_)))))))))
 ·have hc1 := BP.t hc1
  have hiR : i < R := (by omega)
  have hfl : ((frow C (vals xs) i).map nq).length = C := by rw [List.length_map]; exact qc _ _ _
  have hfr : (frow C (vals xs) i).length = C := qc _ _ _
  refine .skip (.thn (k6 _ _ (.seq fun _ k8 => .block (.seq fun _ k9 => .region (st (.load (.t rfl) (i := 1) rfl ty24 rfl (Ss' := [_, _, _]) rfl) rfl (st (.mv (.t rfl)) rfl (st (.call (ref20_Row (i := i) (by omega) (by omega) hl hb (by omega)) (.cons (.t rfl) (.cons (.t rfl) .nil))) rfl (st (.as (.t rfl)) rfl (nl (.thn (k9 _ _ (.seq fun _ k10 => .region (st (.load (.t rfl) (i := 1) rfl ty24 rfl (Ss' := [_, _, _]) rfl) rfl (st (.mv (.t rfl)) rfl (.callX (cO (i := i) (by omega) (by omega) hl hb (by omega)) (List.Perm.refl _) (.cons (.t rfl) (.cons (.t rfl) .nil)) rfl ?_)))))))))))))))
  rintro _ _ ⟨gy, rfl, rfl⟩
  refine .memEq (M' := [grMK rc gy ((frow C (vals xs) i).map nq), grM isQs g (gsL C (vals xs) i), (some b1, zB [isI (R : Int), isI (C : Int), SlK 2 zc xs])]) rfl (st (.as (.t rfl)) rfl (nl (.thn (k10 _ _ (.seq fun _ k11 => .seq fun _ k12 => .region (st (.as (.cI 0 rfl)) rfl (nl (.thn (k12 _ _ (.block (.loopF [1, 2, 4, 3, 11, 12, 13, 14, 17, 18, 19, 5, 20, 21, 22, 6] (fun (z : { k : Nat // k ≤ i }) => match z with | ⟨k, hk⟩ => [(7, isI (k : Int))]) (fun M => fun (z : { k : Nat // k ≤ i }) => match z with | ⟨k, hk⟩ => [grMK rc gy ((gsX C (gsL C (vals xs) i) (frow C (vals xs) i) k).map nq), grM isQs g (gsL C (vals xs) i), (some b1, zB [isI (R : Int), isI (C : Int), SlK 2 zc xs])]) (fun (z : { k : Nat // k ≤ i }) => match z with | ⟨k, hk⟩ => i - k) (⟨0, Nat.zero_le _⟩) (Cv.mem (.c 7 rfl ?_ (.l [1, 2, 4, 3, 11, 12, 13, 14, 17, 18, 19, 5, 20, 21, 22, 6] rfl)) ?_) ?_)))))))))))
  ·rfl
  ·rfl
  rintro ⟨k, hk⟩ K13 hK13
  refine .cv (Cv.wk (.l [7, 1, 2, 4, 3, 11, 12, 13, 14, 17, 18, 19, 5, 20, 21, 22, 6] rfl)) (.memEq (M' := [grMK rc gy ((gsX C (gsL C (vals xs) i) (frow C (vals xs) i) k).map nq), grM isQs g (gsL C (vals xs) i), (some b1, zB [isI (R : Int), isI (C : Int), SlK 2 zc xs])]) rfl ?_)
  have hXl : (gsX C (gsL C (vals xs) i) (frow C (vals xs) i) k).length = C := by rw [vV, qc]
  refine .seq fun _ k14 => .seq fun _ k15 => .region (st (.mv (.t rfl)) rfl (st (.mv (.t rfl)) rfl (st (.ltI (.t rfl) (.t rfl)) rfl (nl (.thn (k15 _ _ (.cond (.t rfl) (fun hc2 => ?_) (fun hc2 => ?_))))))))
  ·have hc2 := BP.t hc2
   have hki : k < i := (by omega)
   have hYl := wd C (vals xs) k
   have hYm : ((gsY C (vals xs) k).map nq).length = C := by rw [List.length_map]; exact hYl
   have hX0 : QB (frow C (vals xs) i) 1000 := hW i 0 hiR (Nat.zero_le _)
   have hX := hW i k hiR (by omega)
   have hY : QB (gsY C (vals xs) k) 1000 := hW k k (by omega) (Nat.le_refl _)
   have hd0 := xo hC hX0 hY
   have hd1 := xo hC hX hY
   have hd2 := xo hC hY hY
   have hdq := cT hd1 hd2
   have hsm : dotQ (qf (frow C (vals xs) i)) (qf (gsY C (vals xs) k)) C = dotQ (qf (gsX C (gsL C (vals xs) i) (frow C (vals xs) i) k)) (qf (gsY C (vals xs) k)) C := dot_same (fun a ha => hs a (by omega)) hki
   refine .skip (.thn (k14 _ _ (.seq fun _ k16 => .block (.seq fun _ k17 => .drh [true, true, true] (Ms := [_, _, _]) rfl (.s [] rfl rfl rfl (.o rfl (.mv (.t rfl))) (.s [] rfl rfl rfl (.o rfl (.mv (.t rfl))) (.s [] rfl rfl rfl (.o rfl (.mv (.t rfl))) (.s [30, 31] rfl rfl rfl (.o rfl (.ixGr sl35 ty37 (.t rfl) (.t rfl) ⟨by omega, by omega⟩)) ?_))))))))
   refine .s [32] rfl rfl rfl (.o rfl (.loadGM (.t rfl) (i := 1) rfl ty37 (xH (by omega)))) (.s [29, 33] rfl rfl rfl (.o rfl (.eq (.call (vD hX0 hY (by rw [qc, hYl]) (by rw [qc]; omega) (by decide)) (.cons (.t rfl) (.cons (.t rfl) .nil))) ((show _ = isQ (dotQ (qf (frow C (vals xs) i)) (qf (gsY C (vals xs) k)) C) from qk (by rw [qc]))))) ?_)
   refine .s [] rfl rfl rfl (.o rfl (.mv (.t rfl))) (.s [] rfl rfl rfl (.o rfl (.mv (.t rfl))) (.s [35, 36] rfl rfl rfl (.o rfl (.ixGr sl35 ty37 (.t rfl) (.t rfl) ⟨by omega, by omega⟩)) ?_))
   refine .s [37] rfl rfl rfl (.o rfl (.loadGM (.t rfl) (i := 1) rfl ty37 (xH (by omega)))) (.s [] rfl rfl rfl (.o rfl (.mv (.t rfl))) (.s [] rfl rfl rfl (.o rfl (.mv (.t rfl))) (.s [39, 40] rfl rfl rfl (.o rfl (.ixGr sl35 ty37 (.t rfl) (.t rfl) ⟨by omega, by omega⟩)) ?_)))
   refine .s [41] rfl rfl rfl (.o rfl (.loadGM (.t rfl) (i := 1) rfl ty37 (xH (by omega)))) (.s [38, 42] rfl rfl rfl (.o rfl (.eq (.call (vD hY hY rfl (by omega) (by decide)) (.cons (.t rfl) (.cons (.t rfl) .nil))) ((show _ = isQ (dotQ (qf (gsY C (vals xs) k)) (qf (gsY C (vals xs) k)) C) from qk (by rw [hYl]))))) (.s [34, 43] rfl rfl rfl (.o rfl (.eq (.call (rat_Quo hd0 hd2 (by decide) (hs k (by omega))) (.cons (.t rfl) (.cons (.t rfl) .nil))) ((show _ = zQ [isQ (dotQ (qf (gsX C (gsL C (vals xs) i) (frow C (vals xs) i) k)) (qf (gsY C (vals xs) k)) C / dotQ (qf (gsY C (vals xs) k)) (qf (gsY C (vals xs) k)) C), isB true] from by rw [hsm])))) (.s [44] rfl rfl rfl (.o rfl (.mv (.t rfl))) (.s [28] rfl rfl rfl (.o rfl (.ext (.t rfl) rfl)) (.s [28] rfl rfl rfl (.o rfl (.ext (.t rfl) rfl)) (.als2 (n1 := 20) (ds := [8]) (zs := [[isB false, SlM isU [], isB false, SlM isU []]]) rfl (.cons rfl rfl zt (fun _ _ => ⟨rfl, nilM _ _, rfl, nilM _ _, trivial⟩) .nil) (.cons_cons _ (.cons_cons _ (.cons_cons _ .slnil))) (Cs := [_]) rfl (.new [45] 0 (Ss' := [_, _, _, _]) (Cs' := [zB [_, _, _, _]]) rfl (by kernel_rfl) (by kernel_rfl) rfl rfl rfl (by kernel_rfl) rfl (.t rfl) ty43 rfl rfl rfl rfl (.fin (n := 21) zR rfl (by kernel_rfl) (by kernel_rfl) (by kernel_rfl) (fun bs hbs => ?_)))))))))
   obtain ⟨b2, rfl⟩ := len1 hbs
   refine .memEq (M' := [_, _, _, _]) rfl (.cv (Cv.wk (.k 1 rfl (.k 2 rfl (.k 4 rfl (.k 3 rfl (.k 11 rfl (.k 12 rfl (.k 13 rfl (.k 14 rfl (.k 17 rfl (.k 18 rfl (.k 19 rfl (.k 5 rfl (.k 20 rfl (.k 21 rfl (.k 22 rfl (.k 6 rfl (.k 7 rfl (.k 23 rfl (.k 24 rfl (.k 25 rfl (.k 29 rfl (.k 30 rfl (.k 31 rfl (.k 32 rfl (.k 33 rfl (.k 34 rfl (.k 35 rfl (.k 36 rfl (.k 37 rfl (.k 38 rfl (.k 39 rfl (.k 40 rfl (.k 41 rfl (.k 42 rfl (.k 43 rfl (.k 44 rfl (.k 28 rfl (.k 45 rfl (.k 46 rfl (.cons (t := 8) (Has.op rfl) .nil))))))))))))))))))))))))))))))))))))))))) (st (.as (.t rfl)) rfl (nl (.thn (k17 _ _ (.seq fun _ k18 => .region (st (.as (.cI 0 rfl)) rfl (nl (.thn (k18 _ _ (.block (.loopF [1, 2, 4, 3, 11, 12, 13, 14, 17, 18, 19, 5, 20, 21, 22, 6, 7, 23, 24, 25, 29, 30, 31, 32, 33, 34, 35, 36, 37, 38, 39, 40, 41, 42, 43, 44, 28, 45, 46, 8, 9] (fun (z : { j : Nat // j ≤ C }) => match z with | ⟨j, hj⟩ => [(10, isI (j : Int))]) (fun M => fun (z : { j : Nat // j ≤ C }) => match z with | ⟨j, hj⟩ => [(some b2, zB (rc (nq (dotQ (qf (gsX C (gsL C (vals xs) i) (frow C (vals xs) i) k)) (qf (gsY C (vals xs) k)) C / dotQ (qf (gsY C (vals xs) k)) (qf (gsY C (vals xs) k)) C)))), grMK rc gy ((lsN (gsX C (gsL C (vals xs) i) (frow C (vals xs) i) k) (gsY C (vals xs) k) (dotQ (qf (gsX C (gsL C (vals xs) i) (frow C (vals xs) i) k)) (qf (gsY C (vals xs) k)) C / dotQ (qf (gsY C (vals xs) k)) (qf (gsY C (vals xs) k)) C) j).map nq), grM isQs g (gsL C (vals xs) i), (some b1, zB [isI (R : Int), isI (C : Int), SlK 2 zc xs])]) (fun (z : { j : Nat // j ≤ C }) => match z with | ⟨j, hj⟩ => C - j) (⟨0, Nat.zero_le _⟩) (Cv.mem (.c 10 rfl ?_ (.l [1, 2, 4, 3, 11, 12, 13, 14, 17, 18, 19, 5, 20, 21, 22, 6, 7, 23, 24, 25, 29, 30, 31, 32, 33, 34, 35, 36, 37, 38, 39, 40, 41, 42, 43, 44, 28, 45, 46, 8, 9] rfl)) ?_) ?_))))))))))))
   ·rfl
   ·rfl
   rintro ⟨j, hj⟩ K19 hK19
   refine .cv (Cv.wk (.l [10, 1, 2, 4, 3, 11, 12, 13, 14, 17, 18, 19, 5, 20, 21, 22, 6, 7, 23, 24, 25, 29, 30, 31, 32, 33, 34, 35, 36, 37, 38, 39, 40, 41, 42, 43, 44, 28, 45, 46, 8, 9] rfl)) (.memEq (M' := [(some b2, zB (rc (nq (dotQ (qf (gsX C (gsL C (vals xs) i) (frow C (vals xs) i) k)) (qf (gsY C (vals xs) k)) C / dotQ (qf (gsY C (vals xs) k)) (qf (gsY C (vals xs) k)) C)))), grMK rc gy ((lsN (gsX C (gsL C (vals xs) i) (frow C (vals xs) i) k) (gsY C (vals xs) k) (dotQ (qf (gsX C (gsL C (vals xs) i) (frow C (vals xs) i) k)) (qf (gsY C (vals xs) k)) C / dotQ (qf (gsY C (vals xs) k)) (qf (gsY C (vals xs) k)) C) j).map nq), grM isQs g (gsL C (vals xs) i), (some b1, zB [isI (R : Int), isI (C : Int), SlK 2 zc xs])]) rfl ?_)
   have hNl : ((lsN (gsX C (gsL C (vals xs) i) (frow C (vals xs) i) k) (gsY C (vals xs) k) (dotQ (qf (gsX C (gsL C (vals xs) i) (frow C (vals xs) i) k)) (qf (gsY C (vals xs) k)) C / dotQ (qf (gsY C (vals xs) k)) (qf (gsY C (vals xs) k)) C) j).map nq).length = C := by rw [List.length_map, bb (by omega)]; exact hXl
   refine .seq fun _ k20 => .seq fun _ k21 => .region (st (.mv (.t rfl)) rfl (st (.mv (.t rfl)) rfl (st (.len sl37 (.t rfl)) rfl (st (.ltI (.t rfl) (.t rfl)) rfl (st (.mv (.t rfl)) rfl (stT rfl rfl (fun hg => .mv (.t rfl)) rfl (st (.pickAnd (.t rfl) (fun h => Has.g rfl h)) rfl (nl (.thn (k21 _ _ (.cond (.t rfl) (fun hc3 => ?_) (fun hc3 => ?_))))))))))))
   ·have hc3 := BP.t hc3
    skip
    refine .skip (.thn (k20 _ _ (.seq fun _ k22 => .block (.dr (.s [] rfl rfl rfl (.o rfl (.mv (.t rfl))) (.s [] rfl rfl rfl (.o rfl (.mv (.t rfl))) (.s [] rfl rfl rfl (.o rfl (.mv (.t rfl))) (.s [] rfl rfl rfl (.o rfl (.mv (.t rfl))) (.s [58, 59] rfl rfl rfl (.o rfl (.ixGr sl37 ty43 (.t rfl) (.t rfl) ⟨by omega, by omega⟩)) ?_)))))))))
    refine .s [60] rfl rfl rfl (.o rfl (.loadGK qg (.t rfl) (i := 1) rfl ty43 (lsN_get (n := j) (by omega)))) (.s [] rfl rfl rfl (.o rfl (.load (.t rfl) (i := 0) rfl ty43 rfl (Ss' := [_, _, _, _]) rfl)) (.s [] rfl rfl rfl (.o rfl (.mv (.t rfl))) (.s [] rfl rfl rfl (.o rfl (.mv (.t rfl))) (.s [63, 64] rfl rfl rfl (.o rfl (.ixGr sl35 ty37 (.t rfl) (.t rfl) ⟨by omega, by omega⟩)) ?_))))
    refine .s [65] rfl rfl rfl (.o rfl (.loadGM (.t rfl) (i := 2) rfl ty37 (xH (i := i) (a := k) (by omega)))) (.s [] rfl rfl rfl (.o rfl (.mv (.t rfl))) (.s [66, 67] rfl rfl rfl (.o rfl (.ixK sl37 ty43 (.t rfl) (.t rfl) qg ⟨by omega, by omega⟩ (getQ (i := j) (by omega)))) (.s [68] rfl rfl rfl (.o rfl (.loadP (.t rfl) ty43 rfl (Ss' := [_, _, _, _]) rfl)) (.s [62, 69] rfl rfl rfl (.o rfl (.call (bT hdq (hY j) (by decide)) (.cons (.t rfl) (.cons (.t rfl) .nil)))) (.s [61, 70] rfl rfl rfl (.o rfl (.call (et (hX j) (ah hdq (hY j)) (by decide)) (.cons (.t rfl) (.cons (.t rfl) .nil)))) (.fin (n := 16) zR (by kernel_rfl) (by kernel_rfl) (by kernel_rfl) (.cv (Cv.wk (.l [1, 2, 4, 3, 11, 12, 13, 14, 17, 18, 19, 5, 20, 21, 22, 6, 7, 23, 24, 25, 29, 30, 31, 32, 33, 34, 35, 36, 37, 38, 39, 40, 41, 42, 43, 44, 28, 45, 46, 8, 9, 10, 47, 48, 49, 50, 51, 52, 53, 56, 57, 58, 59, 60, 61, 62, 63, 64, 65, 66, 67, 68, 69, 70, 71] rfl)) (st (.ixGr sl37 ty43 (.t rfl) (.t rfl) ⟨by omega, by omega⟩) rfl (.storeGK (z := nq (qf (gsX C (gsL C (vals xs) i) (frow C (vals xs) i) k) j - (dotQ (qf (gsX C (gsL C (vals xs) i) (frow C (vals xs) i) k)) (qf (gsY C (vals xs) k)) C / dotQ (qf (gsY C (vals xs) k)) (qf (gsY C (vals xs) k)) C) * qf (gsY C (vals xs) k) j)) qg (.t rfl) (.t rfl) (i := 1) rfl ty43 (by omega) (M' := [_, grMK _ _ _, _, _]) rfl (nl (.bln (.thn (k22 _ _ (.region (st (.mv (.t rfl)) rfl (st (.addI (.t rfl) (.cI 1 rfl) (by omega) (by omega)) rfl (st (.as (.t rfl)) rfl (nl (.thn (hK19 (⟨j + 1, by omega⟩) _ _ ?_ (Cv.mem (.c 10 rfl ?_ (.l [1, 2, 4, 3, 11, 12, 13, 14, 17, 18, 19, 5, 20, 21, 22, 6, 7, 23, 24, 25, 29, 30, 31, 32, 33, 34, 35, 36, 37, 38, 39, 40, 41, 42, 43, 44, 28, 45, 46, 8, 9] rfl)) ?_)))))))))))))))))))))
    ·show C - (j + 1) < C - j; omega
    ·exact zE (by omega)
    ·exact memG_eq (by rw [set_nq, Int.toNat_natCast, lsN_set (by omega)])
   ·have hc3 := BP.f hc3
    have hjC : j = C := (by have hhc3 := hc3; simp at hhc3; omega)
    refine .exit (.the (.the (.blh (.bln (.thn (k16 _ _ (.region (st (.mv (.t rfl)) rfl (st (.addI (.t rfl) (.cI 1 rfl) (by omega) (by omega)) rfl (st (.as (.t rfl)) rfl (nl (.thn (hK13 (⟨k + 1, by omega⟩) _ _ ?_ (Cv.trans (Cv.drop ((.cons _ (.cons_cons _ (.cons_cons _ (.cons_cons _ .slnil)))))) (Cv.mem (.c 7 rfl ?_ (.l [1, 2, 4, 3, 11, 12, 13, 14, 17, 18, 19, 5, 20, 21, 22, 6] rfl)) ?_)))))))))))))))
    ·show i - (k + 1) < i - k; omega
    ·exact zE (by omega)
    ·exact qz (by rw [show j = (gsX C (gsL C (vals xs) i) (frow C (vals xs) i) k).length by omega, lsN_all]; show List.map nq (lsQ _ _ _) = List.map nq (lsQ _ _ _); rw [ap hki])
  ·have hc2 := BP.f hc2
   have hki : i = k := (by omega)
   subst hki
   refine .exit (.the (.the (.blh (.thn (k11 _ _ (.cv (Cv.trans (Cv.wk (.k 1 rfl (.k 2 rfl (.k 3 rfl (.k 4 rfl (.cons (t := 6) (Has.t' rfl (show isGr gy ((frow C (vals xs) i).map nq).length = isGr gy ((gsX C (gsL C (vals xs) i) (frow C (vals xs) i) i).map nq).length from qq (by rw [List.length_map, List.length_map, vV]))) .nil)))))) (Cv.trans (Cv.freezeGK (t := 6) (i := 0) (ys := (gsX C (gsL C (vals xs) i) (frow C (vals xs) i) i).map nq) qg rfl rfl rfl) (memEqN (M' := [_, _]) rfl))) (.region (st (.mv (.t rfl)) rfl (st (.mv (.t rfl)) rfl (st (.buildS [nilS] sl35 ty37 eY (fun _ _ => ⟨rfl, trivial⟩) rfl rfl (.cons (.t rfl) rfl rfl rfl .nil) rfl (S := SlM isQs [gsX C (gsL C (vals xs) i) (frow C (vals xs) i) i]) rfl) rfl (.appendG (f := isQs) (u := ([] : List Rat)) sl35 ty37 eY (fun _ _ => ⟨nilK, trivial⟩) (fun _ => inferInstance) by37 (.t rfl) (i := 0) rfl (.t rfl) (by rw [xB, List.length_singleton]; omega) (by simp) rfl fun gr1 => ?_)))))))))))
   refine .memEq (M' := [grM _ _ _, _]) rfl (st (.as (.t rfl)) rfl (nl (.bln (.thn (k8 _ _ (.region (st (.mv (.t rfl)) rfl (st (.addI (.t rfl) (.cI 1 rfl) (by omega) (by omega)) rfl (st (.as (.t rfl)) rfl (nl (.thn ?_)))))))))))
   refine hK5 (⟨(i + 1, gr1), by show i + 1 ≤ _; omega⟩) _ _ ?_ (Cv.mem (.c 4 rfl ?_ (.c 3 rfl ?_ (.l [1, 2] rfl))) ?_)
   ·show R - (i + 1) < R - i; omega
   ·exact zE (by omega)
   ·exact qq (by rw [xB, xB]; rfl)
   ·rfl
 ·have hc1 := BP.f hc1
  skip
  refine .exit (.the (.the (.blh (.thn (k3 _ _ (.cv (Cv.wk (.l [2, 3] rfl)) (.seq fun _ k23 => .cv (Cv.freezeG (t := 3) (i := 0) (ys := gsL C (vals xs) i) rfl rfl rfl) (.memEq (M' := [_]) rfl (.cv (Cv.wk (.l [2, 3] rfl)) (.region (st (.mv (.t rfl)) rfl (st (.as (.t rfl)) rfl (nl (.thn (k23 _ _ (.ret (jO (.cons _ .slnil) (.inl rfl) Tryz.results12 rfl (.tmp (.t rfl) .nil) (zY (by rw [show i = R by omega])))))))))))))))))))
end Go.Proofs.YthmhlblaleahpaaGreat
namespace Go.Gs
open Go.En Go.Pz Go.Nt Go.Mz Go.Hp Go.Dt
theorem frow_dot {C R b i : Nat} {L : List Int} (hs : ∀ a, a < R → gsS C L a ≠ 0) (hb : b ≤ i) (hi : i < R) : dotQ (qf (frow C L b)) (qf (gsY C L i)) C = if i = b then gsS C L b else 0 := by
  have hk : ∀ j, j ≤ b → dotQ (qf (gsX C (gsL C L b) (frow C L b) j)) (qf (gsY C L i)) C = dotQ (qf (frow C L b)) (qf (gsY C L i)) C := by
    intro j
    induction j with
    | zero => intro _; rfl
    | succ j ih =>
      intro hj
      show dotQ (qf (lsQ _ _ _)) _ C = _
      rw [dotQ_ls _ (by rw [vV, qc]), ih (by omega), ap (by omega), gsY_orth hs hi (by omega) (by omega)]
      grind
  have h1 := hk b (Nat.le_refl _)
  rw [← h1]
  show dotQ (qf (gsY C L b)) _ C = _
  split
  · rename_i e; subst e; rfl
  · exact gsY_orth hs hi (by omega) (by omega)
theorem gsS_pos {C i : Nat} {L : List Int} (h : gsS C L i ≠ 0) : 0 < gsS C L i := by
 have := bl (qf (gsY C L i)) C
 have h2 : 0 ≤ gsS C L i := this
 grind
theorem frs_dot {C i : Nat} {L r : List Int} (g : Nat → Rat) : dotQ (qf (frs (xE C L r i))) g C = dotQ (qf (frs r)) g C - ((nrQ C L r i : Int) : Rat) * dotQ (qf (frow C L i)) g C := by
 rw [← jW]
 refine vm (fun k hk => ?_) fun _ _ => rfl
 rw [cx, cx, wW hk, bg hk, Rat.intCast_sub, Rat.intCast_mul]
theorem near_all {C R : Nat} {L V : List Int} (hs : ∀ a, a < R → gsS C L a ≠ 0) : ∀ n, n ≤ R → ∀ i, R - n ≤ i → i < R →
    -(gsS C L i) ≤ dotQ (qf (frs (nrR C L V R n))) (qf (gsY C L i)) C + dotQ (qf (frs (nrR C L V R n))) (qf (gsY C L i)) C ∧ dotQ (qf (frs (nrR C L V R n))) (qf (gsY C L i)) C + dotQ (qf (frs (nrR C L V R n))) (qf (gsY C L i)) C < gsS C L i
  | 0, _, i, h1, h2 => absurd h2 (by omega)
  | n + 1, hn, i, h1, h2 => by
    show _ ≤ dotQ (qf (frs (xE C L (nrR C L V R n) (R - 1 - n)))) _ C + dotQ (qf (frs (xE C L (nrR C L V R n) (R - 1 - n)))) _ C ∧ dotQ (qf (frs (xE C L (nrR C L V R n) (R - 1 - n)))) _ C + dotQ (qf (frs (xE C L (nrR C L V R n) (R - 1 - n)))) _ C < _
    rw [frs_dot, frow_dot hs (by omega) h2]
    by_cases e : i = R - 1 - n
    · subst e
      rw [if_pos rfl]
      have hp := gsS_pos (hs (R - 1 - n) h2)
      obtain ⟨d, hd⟩ : ∃ d, d = dotQ (qf (frs (nrR C L V R n))) (qf (gsY C L (R - 1 - n))) C := ⟨_, rfl⟩
      obtain ⟨S, hS⟩ : ∃ S, S = gsS C L (R - 1 - n) := ⟨_, rfl⟩
      have hq : nrQ C L (nrR C L V R n) (R - 1 - n) = rnd (d / S) := by rw [hd, hS]; rfl
      rw [hq, ← hd, ← hS]
      rw [← hS] at hp
      have r1 := rnd_le (d / S)
      have r2 := rnd_gt (d / S)
      obtain ⟨q, hq2⟩ : ∃ q : Rat, q = ((rnd (d / S) : Int) : Rat) := ⟨_, rfl⟩
      rw [← hq2] at r1 r2 ⊢
      have hdS : d / S * S = d := Rat.div_mul_cancel (by grind)
      have m1 : 2 * q * S ≤ (2 * (d / S) + 1) * S := Rat.mul_le_mul_of_nonneg_right r1 (Rat.le_of_lt hp)
      have m2 : 2 * (d / S) * S < (2 * q + 1) * S := Rat.mul_lt_mul_of_pos_right r2 hp
      constructor
      · grind
      · grind
    · rw [if_neg e]
      have := near_all (V := V) hs n (by omega) i (by omega) h2
      grind
theorem sm_rev (f : Nat → Int) : ∀ n, (sm n fun q => f (n - 1 - q)) = sm n f
  | 0 => rfl
  | n + 1 => by
    rw [jd]
    show f (n + 1 - 1 - 0) + _ = sm n f + f n
    have h := sm_rev f n
    rw [show n + 1 - 1 - 0 = n by omega, ← h]
    rw [show (sm n fun i => f (n + 1 - 1 - (i + 1))) = sm n fun q => f (n - 1 - q) from zk fun i hi => by rw [show n + 1 - 1 - (i + 1) = n - 1 - i by omega]]
    omega
theorem nrR_sum {C R k : Nat} {L V : List Int} (hk : k < C) : ∀ n, n ≤ R → cf (nrR C L V R n) k = cf V k - sm n fun q => nrC C L V R (R - 1 - q) * mf C L (R - 1 - q) k
  | 0, _ => by show cf V k = cf V k - 0; omega
  | n + 1, hn => by
    show cf (xE C L (nrR C L V R n) (R - 1 - n)) k = cf V k - (sm n _ + nrC C L V R (R - 1 - n) * mf C L (R - 1 - n) k)
    rw [wW hk, nrR_sum hk n (by omega)]
    have : nrC C L V R (R - 1 - n) = nrQ C L (nrR C L V R n) (R - 1 - n) := by unfold nrC; rw [show R - 1 - (R - 1 - n) = n by omega]
    rw [this]; omega
theorem nrL_at {C R i : Nat} {L V : List Int} (h : i < R) : cf (nrL C L V R) i = nrC C L V R i := by unfold nrL; rw [xF, if_pos h]
def smV (C : Nat) (L V c : List Int) (k i : Nat) : Int := cf V k - sm i fun a => cf c a * mf C L a k
theorem smV_all {C R k : Nat} {L V : List Int} (hk : k < C) : smV C L V (nrL C L V R) k R = cf (nrR C L V R R) k := by
 rw [nrR_sum hk R (Nat.le_refl _), sm_rev (fun q => nrC C L V R q * mf C L q k)]
 unfold smV
 rw [show (sm R fun a => cf (nrL C L V R) a * mf C L a k) = sm R fun q => nrC C L V R q * mf C L q k from zk fun a ha => by rw [nrL_at ha]]
theorem smV_succ (C : Nat) (L V c : List Int) (k i : Nat) : smV C L V c k (i + 1) = smV C L V c k i - cf c i * mf C L i k := by
 have e : (sm (i + 1) fun a => cf c a * mf C L a k) = (sm i fun a => cf c a * mf C L a k) + cf c i * mf C L i k := rfl
 unfold smV
 rw [e]; omega
theorem smV_nw {C k K : Nat} {L V c : List Int} (hb : Bd L 1) (hv : Bd V 2) (hc : Bd c K) : ∀ i, (List.length (zA (smV C L V c k i).natAbs)) ≤ 2 + i * (K + 2)
  | 0 => by
    show (List.length (zA (cf V k - 0).natAbs)) ≤ _
    rw [Int.sub_zero]; have := hv k; omega
  | i + 1 => by
    have h1 := smV_nw (C := C) (k := k) hb hv hc i
    have h2 := qD (cf c i) (mf C L i k)
    have h3 : (List.length (zA (mf C L i k).natAbs)) ≤ 1 := hb _
    have h4 := hc i
    have h5 := xU (smV C L V c k i) (-(cf c i * mf C L i k))
    rw [Int.natAbs_neg, ← Int.sub_eq_add_neg] at h5
    have e : smV C L V c k (i + 1) = smV C L V c k i - cf c i * mf C L i k := by
      unfold smV
      show cf V k - (sm i _ + cf c i * mf C L i k) = _
      omega
    have h6 : (i + 1) * (K + 2) = i * (K + 2) + (K + 2) := Nat.succ_mul _ _
    rw [e]; omega
def sP (C : Nat) (L c : List Int) (vs : List (Bool × List Nat)) (k i : Nat) : Bool × List Nat := if i = 0 then vs.getD k (false, []) else nz (smV C L (vals vs) c k i)
theorem sP_zv {C k i : Nat} {L c : List Int} {vs : List (Bool × List Nat)} : zv (sP C L c vs k i).1 (sP C L c vs k i).2 = smV C L (vals vs) c k i := by
 unfold sP
 split
 ·rename_i e; subst e
  rw [← zi]; show _ = cf (vals vs) k - 0; omega
 ·exact aw _
theorem sP_nw {C k i : Nat} {L c : List Int} {vs : List (Bool × List Nat)} : (List.length (zA (val (sP C L c vs k i).2))) = (List.length (zA (smV C L (vals vs) c k i).natAbs)) := by rw [← sP_zv, xZ]
def suL (C : Nat) (L c : List Int) (vs : List (Bool × List Nat)) (R n : Nat) : List (Bool × List Nat) := (List.range n).map fun k => sP C L c vs k R
theorem el (C : Nat) (L c : List Int) (vs : List (Bool × List Nat)) (R n : Nat) : (suL C L c vs R n).length = n := by unfold suL; rw [List.length_map, List.length_range]
theorem suL_succ (C : Nat) (L c : List Int) (vs : List (Bool × List Nat)) (R n : Nat) : suL C L c vs R n ++ [sP C L c vs n R] = suL C L c vs R (n + 1) := by unfold suL; rw [List.range_succ, List.map_append]; rfl
theorem suL_vals {C R : Nat} {L : List Int} {vs : List (Bool × List Nat)} (hv : (vals vs).length = C) : vals (suL C L (nrL C L (vals vs) R) vs R C) = nrR C L (vals vs) R R := by
 have hl : (vals (suL C L (nrL C L (vals vs) R) vs R C)).length = C := by rw [qJ, el]
 refine dC (by rw [hl, bV hv]) fun k hk => ?_
 rw [hl] at hk
 rw [zi]
 have : (suL C L (nrL C L (vals vs) R) vs R C).getD k (false, []) = sP C L (nrL C L (vals vs) R) vs k R := by
  unfold suL
  rw [List.getD_eq_getElem?_getD, List.getElem?_map, List.getElem?_range hk]; rfl
 rw [this, sP_zv, smV_all hk]
theorem nrL_bd {C R : Nat} {L V : List Int} (hR : R ≤ 3) (hC : C ≤ 3) (hb : Bd L 1) (hv : Bd V 2) : Bd (nrL C L V R) 400000 := fun i => by
 rcases Nat.lt_or_ge i R with h | h
 ·rw [nrL_at h]
  have hr := cc (R := R) hR hC hb hv (R - 1 - i) (by omega)
  have h2 := aM (show R - 1 - i ≤ 2 by omega)
  have h3 : kB 2 = 100032 := by decide
  have h4 := kB_two (R - 1 - i)
  have h5 : (List.length (zA (nrC C L V R i).natAbs)) ≤ _ := nrQ_nw hC (by omega) hr (ao hR hC hb i i h (Nat.le_refl _))
  omega
 ·rw [xS (by rw [nrL_len]; exact h), Int.natAbs_zero, zF]; exact Nat.zero_le _
end Go.Gs
namespace Go.Dt
open RowF Go.Br Go.Pz
def zL : Nat → Nat → List (List Nat)
 | _, 0 => [[]]
 | 0, _ + 1 => []
 | m + 1, n + 1 => if m + 1 < n + 1 then [] else zL m (n + 1) ++ (zL m n).map (fun l => l ++ [m])
theorem xq (m : Nat) : zL m 0 = [[]] := by cases m <;> rfl
theorem xh {m n : Nat} (h : m < n) : zL m n = [] := by
  cases n with
  | zero => omega
  | succ n =>
    cases m with
    | zero => rfl
    | succ m => unfold zL; rw [if_pos h]
theorem xr {m n : Nat} (h : n ≤ m) : zL (m + 1) (n + 1) = zL m (n + 1) ++ (zL m n).map (fun l => l ++ [m]) := by
 show (if _ then _ else _) = _
 rw [if_neg (by omega)]
theorem xt : ∀ (m n : Nat) (Y : List Nat), Y ∈ zL m n → Y.length = n ∧ ∀ x ∈ Y, x < m
  | m, 0, Y, h => by
    rw [xq] at h
    obtain rfl := List.mem_singleton.1 h
    exact ⟨rfl, by simp⟩
  | 0, _ + 1, Y, h => by cases h
  | m + 1, n + 1, Y, h => by
    by_cases hm : m + 1 < n + 1
    · rw [xh hm] at h; cases h
    · rw [xr (by omega)] at h
      rcases List.mem_append.1 h with h | h
      · obtain ⟨h1, h2⟩ := xt m (n + 1) Y h
        exact ⟨h1, fun x hx => Nat.lt_succ_of_lt (h2 x hx)⟩
      · obtain ⟨Z, hZ, rfl⟩ := List.mem_map.1 h
        obtain ⟨h1, h2⟩ := xt m n Z hZ
        refine ⟨by rw [List.length_append, h1]; rfl, fun x hx => ?_⟩
        rcases List.mem_append.1 hx with hx | hx
        · exact Nat.lt_succ_of_lt (h2 x hx)
        · rw [List.mem_singleton.1 hx]; exact Nat.lt_succ_self m
theorem jq : ∀ (m n : Nat) (X : List Nat), X.Nodup → X.length = n → (∀ x ∈ X, x < m) → ∃ Y, Y ∈ zL m n ∧ Y.Perm X
  | m, 0, X, _, hl, _ => by
    obtain rfl := List.eq_nil_of_length_eq_zero hl
    exact ⟨[], by rw [xq]; exact List.mem_singleton.2 rfl, List.Perm.refl _⟩
  | 0, n + 1, x :: X, _, _, h => absurd (h x (by simp)) (Nat.not_lt_zero _)
  | m + 1, n + 1, X, hd, hl, h => by
    by_cases hm : m ∈ X
    · have hp := List.perm_cons_erase hm
      have hd2 := (hp.nodup_iff.1 hd)
      obtain ⟨hd3, hd4⟩ := List.nodup_cons.1 hd2
      obtain ⟨Y, hY, hYp⟩ := jq m n (X.erase m) hd4 (by rw [List.length_erase_of_mem hm, hl]; rfl) fun x hx => by
        have h1 := h x (List.mem_of_mem_erase hx)
        have h2 : x ≠ m := fun e => hd3 (e ▸ hx)
        omega
      have hnm : n ≤ m := by
        rcases Nat.lt_or_ge m n with h1 | h1
        · rw [xh h1] at hY; cases hY
        · exact h1
      refine ⟨Y ++ [m], by rw [xr hnm]; exact List.mem_append_right _ (List.mem_map.2 ⟨Y, hY, rfl⟩), ?_⟩
      exact (List.perm_append_singleton m Y).trans ((hYp.cons m).trans hp.symm)
    · obtain ⟨Y, hY, hYp⟩ := jq m (n + 1) X hd hl fun x hx => by
        have h1 := h x hx
        have h2 : x ≠ m := fun e => hm (e ▸ hx)
        omega
      have hnm : n ≤ m := by
        rcases Nat.lt_or_ge m (n + 1) with h1 | h1
        · rw [xh h1] at hY; cases hY
        · omega
      exact ⟨Y, by rw [xr hnm]; exact List.mem_append_left _ hY, hYp⟩
def jv (A : MatF) (R : Nat) (cols : List Nat) : Bool := (zL R cols.length).any fun rs => decide (mn A rs cols ≠ 0)
def pivs (A : MatF) (R : Nat) : Nat → List Nat
 | 0 => []
 | c + 1 => if jv A R (pivs A R c ++ [c]) = true then pivs A R c ++ [c] else pivs A R c
theorem BI.some_yes {A : MatF} {R C c i : Nat} {s : BS} {q : List Nat} {r : List Int} (h : BI A R C c s q) (hti : s.ps.length ≤ i) (hi : s.rows[i]? = some r) (hc : c < C) (hne : cf r c ≠ 0) : jv A R (s.ps ++ [c]) = true := by
 have hiR : i < R := by have := jh hi; have := h.hR; omega
 have hw := h.row i r hti hi c hc
 have hql := h.hq
 have hqi : q[i]? = some (q.getD i 0) := jK (by rw [h.hq]; exact hiR)
 have e1 : mn A (q.take s.ps.length ++ [q.getD i 0]) (s.ps ++ [c]) ≠ 0 := by
  rw [← mn_rev A (by rw [List.length_append, List.length_append, List.length_take]; simp; omega), List.reverse_append, List.reverse_append]
  show mn A (q.getD i 0 :: (q.take s.ps.length).reverse) (c :: s.ps.reverse) ≠ 0
  rw [← hw]; exact hne
 have hnd : (q.take s.ps.length ++ [q.getD i 0]).Nodup := by
  rw [List.nodup_append]
  refine ⟨h.nd.sublist (List.take_sublist _ _), by simp, fun a ha b hb e => ?_⟩
  rw [List.mem_singleton.1 hb] at e
  obtain ⟨j, hj, e2⟩ := List.mem_iff_getElem.1 ha
  rw [List.length_take] at hj
  rw [List.getElem_take] at e2
  refine (List.pairwise_iff_getElem.1 h.nd) j i (by omega) (by omega) (by omega) ?_
  rw [List.getElem?_eq_getElem (by omega)] at hqi
  rw [Option.some.inj hqi, e2, e]
 obtain ⟨Y, hY, hp⟩ := jq R (s.ps ++ [c]).length (q.take s.ps.length ++ [q.getD i 0]) hnd (by rw [List.length_append, List.length_append, List.length_take]; simp; omega) fun x hx => by
  rcases List.mem_append.1 hx with hx | hx
  ·exact h.lt x (List.mem_of_mem_take hx)
  ·rw [List.mem_singleton.1 hx]; exact h.lt _ (List.mem_of_getElem? hqi)
 unfold jv
 rw [List.any_eq_true]
 exact ⟨Y, hY, decide_eq_true (mn_perm A hp.symm [] e1)⟩
theorem BI.some_no {A : MatF} {R C c : Nat} {s : BS} {q : List Nat} (h : BI A R C c s q) (hc : c < C) (hz : ∀ (j : Nat) (r : List Int), s.ps.length ≤ j → s.rows[j]? = some r → cf r c = 0) : jv A R (s.ps ++ [c]) = false := by
 obtain ⟨rs, hrs⟩ : ∃ rs, rs = (q.take s.ps.length).reverse := ⟨_, rfl⟩
 have hql := h.hq
 have hpl := h.hps
 have hrl : rs.length = s.ps.length := by rw [hrs, List.length_reverse, List.length_take]; omega
 have hD : mn A rs s.ps.reverse ≠ 0 := by rw [hrs, ← h.hl]; exact h.h0
 have hzero : ∀ y, y < R → ∀ k, k ∈ s.ps ++ [c] → mn A (y :: rs) (k :: s.ps.reverse) = 0 := by
  intro y hy k hk
  rcases List.mem_append.1 hk with hk | hk
  ·exact mn_col A (by rw [List.length_reverse, hrl]) y (List.mem_reverse.2 hk)
  ·rw [List.mem_singleton.1 hk]
   by_cases hm : y ∈ rs
   ·exact mn_row A hm c
   ·have hyq : y ∈ q := h.pm.mem_iff.2 (List.mem_range.2 hy)
    obtain ⟨j, hj, e⟩ := ci hyq
    have htj : s.ps.length ≤ j := by
     rcases Nat.lt_or_ge j s.ps.length with h1 | h1
     ·refine absurd ?_ hm
      rw [hrs, List.mem_reverse, ← e]
      rw [List.getD, List.getElem?_eq_getElem hj]
      show q[j] ∈ _
      have : q[j] = (q.take s.ps.length)[j]'(by rw [List.length_take]; omega) := (List.getElem_take).symm
      rw [this]; exact List.getElem_mem _
     ·exact h1
    have hjr : j < s.rows.length := by rw [h.hR]; omega
    have hr := List.getElem?_eq_getElem hjr
    rw [← e, hrs, ← h.row j _ htj hr c hc]
    exact hz j _ htj hr
 unfold jv
 rw [List.any_eq_false]
 intro Y hY
 obtain ⟨h1, h2⟩ := xt _ _ _ hY
 have hc1 : (s.ps ++ [c]).length = s.ps.length + 1 := by simp
 have h0 : mn A Y (s.ps ++ [c]) = 0 := by
  unfold mn
  rw [h1, hc1]
  refine det_few (D := mn A rs s.ps.reverse) hD (e := fun i r => - ec A rs s.ps.reverse (Y.getD i 0) r) (V := fun r j => A (rs.getD r 0) ((s.ps ++ [c]).getD j 0)) fun i j hi hj => ?_
  have hx := mn_exp A rs s.ps.reverse (Y.getD i 0) ((s.ps ++ [c]).getD j 0)
  rw [hzero _ (h2 _ (vL (by omega))) _ (vL (by omega)), hrl] at hx
  have hs : (sm s.ps.length fun r => - ec A rs s.ps.reverse (Y.getD i 0) r * A (rs.getD r 0) ((s.ps ++ [c]).getD j 0)) = - sm s.ps.length fun r => ec A rs s.ps.reverse (Y.getD i 0) r * A (rs.getD r 0) ((s.ps ++ [c]).getD j 0) := by
   have := bO (-1) (fun r => ec A rs s.ps.reverse (Y.getD i 0) r * A (rs.getD r 0) ((s.ps ++ [c]).getD j 0)) s.ps.length
   rw [show -1 * (sm s.ps.length fun r => ec A rs s.ps.reverse (Y.getD i 0) r * A (rs.getD r 0) ((s.ps ++ [c]).getD j 0)) = - sm s.ps.length fun r => ec A rs s.ps.reverse (Y.getD i 0) r * A (rs.getD r 0) ((s.ps ++ [c]).getD j 0) by omega] at this
   rw [← this]
   exact zk fun r _ => by rw [Int.neg_mul]; omega
  rw [hs]
  show mn A rs s.ps.reverse * A (Y.getD i 0) ((s.ps ++ [c]).getD j 0) = _
  omega
 rw [h0]; decide
theorem BI.pivs {A : MatF} {R C : Nat} {s0 : BS} {q0 : List Nat} (h0 : BI A R C 0 s0 q0) (hp : s0.ps = []) : ∀ {c : Nat} {s : BS}, BRun s0 c s → c ≤ C → s.ps = Go.Dt.pivs A R c := by
  intro c s h
  induction h with
  | zero => exact fun _ => hp
  | @step c s s' hr hs ih =>
    intro hc
    obtain ⟨q, hq⟩ := h0.all hr (by omega)
    have e := ih (by omega)
    show _ = if jv A R (Go.Dt.pivs A R c ++ [c]) = true then _ else _
    rw [← e]
    rcases hs with ⟨rfl, hz⟩ | ⟨i, r, t, sw, hti, hi, ht, hne, hsw, k1, k2, k3, k4, k5⟩
    · rw [if_neg (by rw [hq.some_no (by omega) hz]; decide)]
    · rw [if_pos (hq.some_yes hti hi (by omega) hne)]; exact k3
end Go.Dt
namespace Go.En
open Go.RowKit
section
variable {E : Env} {P : Program} {Γ : Ctx} {M : Mem} {ty : TypeId} {pos : String} {after : Array Edge} {gd : Option (Nat × Bool)} {d : Option Tmp}
 {ops : Array Oper} {Q : Exit → Act → World → Prop} {rest : List Oper} {T T' : TypeId} {x y : Operand} {α : Type} {f : α → VP} {xs : List α}
theorem OKY.eq {o : Oper} {S S' : VP} (h : OKY E P Γ M o S) (e : S = S') : OKY E P Γ M o S' := e ▸ h
theorem OKY.addI {d : Option Tmp} {i j : Int} (hx : Has E Γ M x (isI i)) (hy : Has E Γ M y (isI j)) (h1 : -9223372036854775808 ≤ i + j) (h2 : i + j < 9223372036854775808) : OKY E P Γ M ⟨d, .binOp .add T x y T', ty, pos, after, none⟩ (isI (i + j)) := fun a w F s => by
 refine ⟨.int .i64 (i + j), fun w' => ?_, wI h1 h2 w F⟩
 have g1 := evI hx a w F s
 have g2 := evI hy a w F s
 have g3 := bR (P := P) (T := T) .i64 i j w'
 simp only [execOp, g1, g2]
 simp [go_sem, g3]
 exact vG h1 h2
theorem Ops.appendG0 {i : Nat} {e : TypeId} {g0 : Bool} {z : Value} {u : α} {g : Gr α} {ys zs : List α} (hT : slB P T = some e) (ht : tyB P e = some (1, g0)) (hz : qI P e = some z) (hZ : ∀ w F, All2 [f u] w F z.cells.toList) (h1 : ∀ u, One (f u)) (hby : byLe P e 1024 = true)
  (hx : Has E Γ M x (isGr g ys.length)) (hM : M[i]? = some (grM f g ys)) (hy : Has E Γ M y (SlM f zs)) (hn' : ys.length + zs.length ≤ 4294967296) {d' : Nat} (hd : Nat.blt d' E.n = true)
  (k : ∀ g' : Gr α, Ops E P ops Q rest ((d', isGr g' (ys ++ zs).length) :: Γ) (M.set i (grM f g' (ys ++ zs)))) :
  Ops E P ops Q (⟨some d', .call ⟨.builtin .append, #[x, y], #[T, T]⟩, ty, pos, after, none⟩ :: rest) Γ M := by
 have e1 : ∀ (g : Gr α) (l : List α), grMK (fun a => [f a]) g l = grM f g l := fun g l => by unfold grMK grM; rw [flat1]
 have e2 : (SlK 1 (fun a => [f a]) zs : VP) = SlM f zs := by unfold SlK SlM; rw [flat1]
 refine .appendGK0 (k := 1) (fk := fun a => [f a]) (u := u) (g := g) (ys := ys) (zs := zs) (i := i) (fun _ => rfl) (by decide) (fun u => by have := h1 u; exact inferInstance) hT ht hz hZ hby hx (by rw [hM, e1]) (e2 ▸ hy) hn' hd fun g' => ?_
 rw [e1, ← List.length_append]; exact k g'
end
end Go.En
namespace Go.En
open Go.RowKit Go.Dt Go.Pz Go.Nt Go.Mz
abbrev isLn (l : List Nat) : VP := SlM isI (pv l)
section
variable {P : Program} {α : Type} {f : α → VP}
theorem CtrX.freeze {g : FuncId} {args : List VP} {ys : List α} (h : CtrX P g args [] (fun S M => ∃ gr : Gr α, S = isGr gr ys.length ∧ M = [grM f gr ys])) : Ctr P g args (SlM f ys) :=
 ⟨h.1, fun w F vs hF hargs => (h.2 w F vs hF ⟨List.Pairwise.nil, by simp⟩ hargs).mono (by
  rintro e w' ⟨v, S', M', F', rfl, ⟨gr, rfl, rfl⟩, hk, hsub, hnew, hv, _, heach⟩
  refine ⟨v, rfl, hk, ?_⟩
  rcases hv with ⟨h1, h2, rfl⟩ | ⟨b, hob, rfl, h1, h2⟩
  ·obtain rfl : ys = [] := List.eq_nil_of_length_eq_zero h2
   exact nilM _ _
  ·obtain ⟨g1, g2, g3, o, g4, us, T, rfl, hu⟩ := heach b (zB ((ys ++ gr.sp).map f)) (by unfold grM; rw [hob]; simp)
   have hb : vx F w w' b := by
    rcases g1 with g1 | g1
    ·exact .inr ⟨g1, g2⟩
    ·exact absurd g1 (by simp [blks])
   rw [List.map_append] at hu
   have hu2 := hu.take ys.length
   rw [List.take_left' (by simp)] at hu2
   refine ⟨_, _, rfl, by omega, h2, by simp, .inr ⟨b, 0, rfl, hb, us.take ys.length, All2.mono (fun _ _ => rfl) hnew _ _ hu2, fun j u hj => ?_⟩⟩
   rw [Nat.zero_add]
   have hj2 : j < ys.length := by
    rcases Nat.lt_or_ge j ys.length with h | h
    ·exact h
    ·rw [List.getElem?_take_eq_none h] at hj; cases hj
   rw [List.getElem?_take_of_lt hj2] at hj
   simp [World.cell?, g4, hj])⟩
end
theorem rtXND {E : Env} {P : Program} {Γ : Ctx} {M M' : Mem} {fn : Func} {rs : List ResultVar} {Rs : List VP} {R : VP → Mem → Prop} {W : List Nat} {e : Exit} (hs : M'.Sublist M) (he : e = .ret ∨ e = .normal) (hr : fn.results = rs.toArray) (hn : Nat.beq rs.length 1 = false) (hw : E.W = W) (h : ResL E P Γ M rs Rs) (hR : R (zQ Rs) M') : At E Γ M (bodyPost P fn (RetX E.w0 E.F0 W R)) e := by
 intro a w F s
 obtain ⟨vs, h1, h2⟩ := qP hr h s
 have hl : Rs.length = rs.length := by
  clear h1 h2 s a w F vs hR
  clear hn hr
  induction h with
  | nil => rfl
  | tmp _ _ ih => simp [ih]
  | cell _ _ _ _ _ _ ih => simp [ih]
  | cell1 _ _ _ _ _ ih => simp [ih]
 have hne : vs.length ≠ 1 := by rw [← h2.len, hl]; exact Nat.ne_of_beq_eq_false hn
 rw [dif_neg hne] at h1
 exact aq (S := zQ Rs) hs he s hw h1 ⟨vs, rfl, h2⟩ hR
theorem xi : ∀ m n, (zL m n).length ≤ 2 ^ m
  | m, 0 => by rw [xq]; exact Nat.one_le_pow _ _ (by decide)
  | 0, _ + 1 => Nat.zero_le _
  | m + 1, n + 1 => by
    by_cases h : m + 1 < n + 1
    · rw [xh h]; exact Nat.zero_le _
    · rw [xr (by omega), List.length_append, List.length_map, Nat.pow_succ]
      have := xi m (n + 1)
      have := xi m n
      omega
def chU (m n i : Nat) : List (List Nat) := zL m (n + 1) ++ ((zL m n).take i).map fun l => l ++ [m]
theorem chU_zero (m n : Nat) : chU m n 0 = zL m (n + 1) := by unfold chU; rw [List.take_zero, List.map_nil, List.append_nil]
theorem chU_succ {m n i : Nat} {Y : List Nat} (h : (zL m n)[i]? = some Y) : chU m n i ++ [Y ++ [m]] = chU m n (i + 1) := by unfold chU; rw [List.take_add_one, h, List.map_append, List.append_assoc]; rfl
theorem chU_all {m n i : Nat} (h : n ≤ m) (hi : i = (zL m n).length) : chU m n i = zL (m + 1) (n + 1) := by subst hi; unfold chU; rw [List.take_length, xr h]
theorem chU_len (m n i : Nat) : (chU m n i).length ≤ 2 ^ m + 2 ^ m := by
 unfold chU
 rw [List.length_append, List.length_map, List.length_take]
 have := xi m (n + 1)
 have := xi m n
 omega
theorem pv_getD {l : List Nat} {i : Nat} (h : i < l.length) : (pv l)[i]? = some ((l.getD i 0 : Nat) : Int) := by unfold pv; rw [List.getElem?_map, List.getD, List.getElem?_eq_getElem h]; rfl
def ptG (C : Nat) (xs : List (Bool × List Nat)) (rs cs : List Nat) : Nat → Nat → Bool × List Nat := fun i k => xs.getD (rs.getD i 0 * C + cs.getD k 0) (false, [])
theorem aZ {C i k : Nat} (g : Nat → Nat → Bool × List Nat) (hk : k < C) : tabR (i * C + k) C g ++ [g i k] = tabR (i * C + (k + 1)) C g := by
 unfold tabR
 rw [show i * C + (k + 1) = i * C + k + 1 by omega, List.range_succ, List.map_append]
 show _ ++ [g i k] = _ ++ [g ((i * C + k) / C) ((i * C + k) % C)]
 rw [(jo hk).1, (jo hk).2]
theorem pt_bd {C N K : Nat} {xs : List (Bool × List Nat)} {rs cs : List Nat} (h : Bd (vals xs) K) (P : Nat) : Bd (vals (tabR N P (ptG C xs rs cs))) K := by
 rw [wS]
 refine ju fun i k => ?_
 have := h (rs.getD i 0 * C + cs.getD k 0)
 rw [zi] at this
 exact this
theorem pt_mn {C n : Nat} {xs : List (Bool × List Nat)} {rs cs : List Nat} (h1 : rs.length = n) : det n (mf n (vals (tabR (n * n) n (ptG C xs rs cs)))) = mn (mf C (vals xs)) rs cs := by
 unfold mn
 rw [h1]
 refine qB fun i j hi hj => ?_
 show cf _ (i * n + j) = cf (vals xs) (rs.getD i 0 * C + cs.getD j 0)
 rw [wS, wh _ hj (qG hi hj), zi]; rfl
theorem pivs_lt (A : MatF) (R : Nat) : ∀ c, (∀ x ∈ pivs A R c, x < c) ∧ (pivs A R c).length ≤ c
  | 0 => ⟨by simp [pivs], Nat.le_refl _⟩
  | c + 1 => by
    obtain ⟨h1, h2⟩ := pivs_lt A R c
    unfold pivs
    split
    · refine ⟨fun x hx => ?_, by rw [List.length_append]; show _ + 1 ≤ _; omega⟩
      rcases List.mem_append.1 hx with h | h
      · have := h1 x h; omega
      · rw [List.mem_singleton.1 h]; omega
    · exact ⟨fun x hx => by have := h1 x hx; omega, by omega⟩
theorem someM_yes {A : MatF} {R : Nat} {cols rs : List Nat} (h : rs ∈ zL R cols.length) (h2 : mn A rs cols ≠ 0) : true = jv A R cols := by
 unfold jv
 exact (List.any_eq_true.2 ⟨rs, h, decide_eq_true h2⟩).symm
theorem someM_no {A : MatF} {R : Nat} {cols : List Nat} (h : ∀ j, j < (zL R cols.length).length → mn A ((zL R cols.length).getD j []) cols = 0) : false = jv A R cols := by
 unfold jv
 refine (List.any_eq_false.2 fun x hx => ?_).symm
 obtain ⟨j, hj, rfl⟩ := List.mem_iff_getElem.1 hx
 have := h j hj
 rw [List.getD, List.getElem?_eq_getElem hj, Option.getD_some] at this
 rw [this]; decide
theorem mn_nw {C K : Nat} {L : List Int} (h : Bd L K) (rs cols : List Nat) : (List.length (zA (mn (mf C L) rs cols).natAbs)) ≤ rs.length * (K + rs.length) + 1 := det_nw (fun i j => h _) rs.length
end Go.En
namespace Go.Proofs.YthmhlblaleahpaaGreat
open Go.En Go.RowKit
set_option maxRecDepth 10000
set_option maxHeartbeats 4000000
open Go.Nt
open Go.Pz
open Go.Mz
open Go.Dt
theorem wE {m : Int} : Ctr Tryz.prog 90 [isI m, isI 0] (SlM isLn (zL 0 0)) := by
 refine Ctr.intro Tryz.func90 rfl (by kernel_rfl) Tryz.ntmps90 rfl fun w0 F0 => .cv (Cv.wk (.l [0, 1] rfl)) (.fact (Has.rngI (Has.t (t := 0) rfl)) fun lt0 => .fact (Has.rngI (Has.t (t := 1) rfl)) fun lt1 => .seq fun _ k1 => .region (st (.as (.cW (f := isI))) rfl (nl (.thn (k1 _ _ (.seq fun _ k2 => .seq fun _ k3 => .region (st (.mv (.t rfl)) rfl (st (.eqI (.t rfl) (.cI 0 rfl)) rfl (nl (.thn (k3 _ _ (.cond (.t rfl) (fun hc1 => ?_) (fun hc1 => ?_)))))))))))))
 ·have hc1 := BP.t hc1
  refine .seq fun _ k4 => .region (st (.buildS [nilS] cG ty64 zero64 (fun _ _ => ⟨rfl, trivial⟩) rfl rfl (.cons (.cW (f := isI)) rfl rfl rfl .nil) rfl (S := SlM isLn [[]]) rfl) rfl (st (.as (.t rfl)) rfl (nl (.thn (k4 _ _ (.ret (.thr (rt1 (.inl rfl) Tryz.results90 rfl (.tmp (Has.t' rfl ?_) .nil)))))))))
  all_goals (rfl)
 ·have hc1 := BP.f hc1
  exact absurd rfl hc1
theorem wD {m n : Nat} (hm : m < n + 1) (hb : n ≤ 64) : CtrX Tryz.prog 90 [isI (m : Int), isI ((n + 1 : Nat) : Int)] ([]) (fun S M => ∃ gr : Gr (List Nat), S = isGr gr (zL (m) (n + 1)).length ∧ M = [grM isLn gr (zL (m) (n + 1))]) := by
 refine CtrX.intro Tryz.func90 rfl (by kernel_rfl) Tryz.ntmps90 rfl fun w0 F0 => .cv (Cv.wk (.l [0, 1] rfl)) (.fact (Has.rngI (Has.t (t := 0) rfl)) fun lt0 => .fact (Has.rngI (Has.t (t := 1) rfl)) fun lt1 => .seq fun _ k1 => .region (st (.as (.cW (f := fun l => zD l))) rfl (nl (.thn (k1 _ _ (.seq fun _ k2 => .seq fun _ k3 => .region (st (.mv (.t rfl)) rfl (st (.eqI (.t rfl) (.cI 0 rfl)) rfl (nl (.thn (k3 _ _ (.cond (.t rfl) (fun hc1 => ?_) (fun hc1 => ?_)))))))))))))
 ·have hc1 := BP.t hc1
  exfalso; omega
 ·have hc1 := BP.f hc1
  refine .skip (.thn (k2 _ _ (.seq fun _ k4 => .seq fun _ k5 => .region (st (.mv (.t rfl)) rfl (st (.mv (.t rfl)) rfl (st (.ltI (.t rfl) (.t rfl)) rfl (nl (.thn (k5 _ _ (.cond (.t rfl) (fun hc2 => ?_) (fun hc2 => ?_)))))))))))
  ·have hc2 := BP.t hc2
   refine .seq fun _ k6 => .region (.cv (Cv.grow0 (α := List Nat) isLn) (st (.as (Has.cGr (α := List Nat))) rfl (nl (.thn (k6 _ _ (.cv (Cv.wk (.l [0, 1, 4] rfl)) (.ret (.thr (rtX1 (.inl rfl) Tryz.results90 rfl (.tmp (.t rfl) .nil) ?_)))))))))
   exact ⟨Gr.nil, by rw [xh hm]; rfl, by rw [xh hm]⟩
  ·have hc2 := BP.f hc2
   exfalso; omega
theorem cR {m n : Nat} (hm : n ≤ m) (hb : m ≤ 16) (ihO : CtrX Tryz.prog 90 [isI (m : Int), isI ((n + 1 : Nat) : Int)] [] (fun S M => ∃ gr : Gr (List Nat), S = isGr gr (zL (m) (n + 1)).length ∧ M = [grM isLn gr (zL (m) (n + 1))])) (ihL : Ctr Tryz.prog 90 [isI (m : Int), isI (n : Int)] (SlM isLn (zL m n))) : CtrX Tryz.prog 90 [isI ((m + 1 : Nat) : Int), isI ((n + 1 : Nat) : Int)] ([]) (fun S M => ∃ gr : Gr (List Nat), S = isGr gr (zL (m + 1) (n + 1)).length ∧ M = [grM isLn gr (zL (m + 1) (n + 1))]) := by
 refine CtrX.intro Tryz.func90 rfl (by kernel_rfl) Tryz.ntmps90 rfl fun w0 F0 => .cv (Cv.wk (.l [0, 1] rfl)) (.fact (Has.rngI (Has.t (t := 0) rfl)) fun lt0 => .fact (Has.rngI (Has.t (t := 1) rfl)) fun lt1 => ?_)
 have hlu := chU_len m n
 have hcl := xi m n
 have h2m := Nat.pow_le_pow_right (show 0 < 2 by decide) hb
 refine .seq fun _ k1 => .region (st (.as (.cW (f := fun l => zD l))) rfl (nl (.thn (k1 _ _ (.seq fun _ k2 => .seq fun _ k3 => .region (st (.mv (.t rfl)) rfl (st (.eqI (.t rfl) (.cI 0 rfl)) rfl (nl (.thn (k3 _ _ (.cond (.t rfl) (fun hc1 => ?_) (fun hc1 => ?_))))))))))))
 ·have hc1 := BP.t hc1
  exfalso; omega
 ·have hc1 := BP.f hc1
  refine .skip (.thn (k2 _ _ (.seq fun _ k4 => .seq fun _ k5 => .region (st (.mv (.t rfl)) rfl (st (.mv (.t rfl)) rfl (st (.ltI (.t rfl) (.t rfl)) rfl (nl (.thn (k5 _ _ (.cond (.t rfl) (fun hc2 => ?_) (fun hc2 => ?_)))))))))))
  ·have hc2 := BP.t hc2
   exfalso; omega
  ·have hc2 := BP.f hc2
   refine .skip (.thn (k4 _ _ (.cv (Cv.wk (.l [0, 1, 4] rfl)) (.seq fun _ k6 => .region (st (.mv (.t rfl)) rfl (st (.eq (.subI (.t rfl) (.cI 1 rfl) (by omega) (by omega)) ((show isI _ = isI (m : Int) from zE (by omega)))) rfl (st (.mv (.t rfl)) rfl (.callX ihO (List.Perm.refl _) (.cons (.t rfl) (.cons (.t rfl) .nil)) rfl ?_))))))))
   rintro _ _ ⟨g0, rfl, rfl⟩
   refine .memEq (M' := [grM isLn g0 (zL m (n + 1))]) (List.append_nil _) (st (.as (.t rfl)) rfl (nl (.thn (k6 _ _ (.seq fun _ k7 => .region (st (.mv (.t rfl)) rfl (st (.eq (.subI (.t rfl) (.cI 1 rfl) (by omega) (by omega)) ((show isI _ = isI (m : Int) from zE (by omega)))) rfl (st (.mv (.t rfl)) rfl (st (.eq (.subI (.t rfl) (.cI 1 rfl) (by omega) (by omega)) ((show isI _ = isI (n : Int) from zE (by omega)))) rfl (st (.call ihL (.cons (.t rfl) (.cons (.t rfl) .nil))) rfl (st (.as (.t rfl)) rfl (nl (.thn (k7 _ _ (.cv (Cv.wk (.l [0, 4, 5, 6] rfl)) (.seq fun _ k8 => .seq fun _ k9 => .region (st (.as (.cI 0 rfl)) rfl (nl (.thn (k9 _ _ (.block (.loopF [0, 4, 6] (fun (z : { z : Nat × Gr (List Nat) // z.1 ≤ (zL m n).length }) => match z with | ⟨(i, g), hI⟩ => [(7, isI (i : Int)), (5, isGr g (chU m n i).length)]) (fun M => fun (z : { z : Nat × Gr (List Nat) // z.1 ≤ (zL m n).length }) => match z with | ⟨(i, g), hI⟩ => [grM isLn g (chU m n i)]) (fun (z : { z : Nat × Gr (List Nat) // z.1 ≤ (zL m n).length }) => match z with | ⟨(i, g), hI⟩ => (zL m n).length - i) (⟨(0, g0), Nat.zero_le _⟩) (Cv.mem (.c 7 rfl ?_ (.c 5 rfl ?_ (.l [0, 4, 6] rfl))) ?_) ?_))))))))))))))))))))))
   ·rfl
   ·exact qq (by rw [chU_zero])
   ·exact grM_eq (chU_zero _ _).symm
   rintro ⟨⟨i, g⟩, hI⟩ K10 hK10
   refine .cv (Cv.wk (.l [7, 5, 0, 4, 6] rfl)) (.memEq (M' := [grM isLn g (chU m n i)]) rfl ?_)
   simp only [] at hI
   refine .seq fun _ k11 => .seq fun _ k12 => .region (st (.mv (.t rfl)) rfl (st (.mv (.t rfl)) rfl (st (.len cG (.t rfl)) rfl (st (.ltI (.t rfl) (.t rfl)) rfl (nl (.thn (k12 _ _ (.cond (.t rfl) (fun hc3 => ?_) (fun hc3 => ?_)))))))))
   ·have hc3 := BP.t hc3
    obtain ⟨Y, hY⟩ : ∃ Y, (zL m n)[i]? = some Y := ⟨_, List.getElem?_eq_getElem (by omega)⟩
    have hYl := (xt m n Y (List.mem_of_getElem? hY)).1
    have hpY := ww Y
    have hlui := hlu i
    refine .skip (.thn (k11 _ _ (.seq fun _ k13 => .block (.seq fun _ k14 => .region (.cv (Cv.grow0 (α := Int) isI) (st (.as (Has.cGr (α := Int))) rfl (nl (.thn (k14 _ _ (.seq fun _ k15 => .region (st (.mv (.t rfl)) rfl (st (.mv (.t rfl)) rfl (st (.mv (.t rfl)) rfl (st (.ixP cG ty64 (.t rfl) (.t rfl) ⟨by omega, by omega⟩ hY) rfl (st (.loadP1 (.t rfl) ty64) rfl (.appendG0 (f := isI) (u := 0) sl64 ty3 ax (fun _ _ => ⟨⟨rfl, by decide, by decide⟩, trivial⟩) (fun _ => inferInstance) by3 (.t rfl) (i := 0) rfl (.t rfl) (by simp only [List.length_nil]; omega) rfl fun gr1 => ?_))))))))))))))))
    refine .memEq (M' := [grM _ _ _, _]) rfl (st (.as (.t rfl)) rfl (nl (.thn (k15 _ _ (.seq fun _ k16 => .region (st (.mv (.t rfl)) rfl (st (.mv (.t rfl)) rfl (st (.eq (.subI (.t rfl) (.cI 1 rfl) (by omega) (by omega)) ((show isI _ = isI (m : Int) from zE (by omega)))) rfl (st (.buildS [isI 0] sl64 ty3 ax (fun _ _ => ⟨⟨rfl, by decide, by decide⟩, trivial⟩) rfl rfl (.cons (.t rfl) rfl rfl rfl .nil) rfl (S := SlM isI [(m : Int)]) rfl) rfl (.appendG (f := isI) (u := 0) sl64 ty3 ax (fun _ _ => ⟨⟨rfl, by decide, by decide⟩, trivial⟩) (fun _ => inferInstance) by3 (.t rfl) (i := 0) rfl (.t rfl) (by simp only [List.length_append, List.length_nil, List.length_cons]; omega) (by simp) rfl fun gr2 => ?_))))))))))
    refine .memEq (M' := [grM _ _ _, _]) rfl (.cv (Cv.freezeGn (t := 40) (i := 0) (ys := pv Y ++ [(m : Int)]) rfl rfl rfl (by simp)) ?_)
    refine .memEq (M' := [_]) rfl (.cv (Cv.wk (.l [0, 4, 6, 7, 5, 24, 25, 26, 27, 31, 32, 33, 34, 37, 38, 39, 40] rfl)) (st (.as (.t rfl)) rfl (nl (.thn (k16 _ _ (.region (st (.mv (.t rfl)) rfl (st (.eq (.mv (.t rfl)) ((show _ = isLn (Y ++ [m]) from zY (ey _ _)))) rfl (st (.buildS [nilS] cG ty64 zero64 (fun _ _ => ⟨rfl, trivial⟩) rfl rfl (.cons (.t rfl) rfl rfl rfl .nil) rfl (S := SlM isLn [Y ++ [m]]) rfl) rfl (.appendG (f := isLn) (u := ([] : List Nat)) cG ty64 zero64 (fun _ _ => ⟨nilM _ _, trivial⟩) (fun _ => inferInstance) by64 (.t rfl) (i := 0) rfl (.t rfl) (by show (chU m n i).length + 1 ≤ _; omega) (by simp) rfl fun gr3 => ?_))))))))))
    refine .memEq (M' := [grM _ _ _]) rfl (st (.as (.t rfl)) rfl (nl (.bln (.thn (k13 _ _ (.region (st (.mv (.t rfl)) rfl (st (.addI (.t rfl) (.cI 1 rfl) (by omega) (by omega)) rfl (st (.as (.t rfl)) rfl (nl (.thn ?_)))))))))))
    refine hK10 (⟨(i + 1, gr3), by show i + 1 ≤ _; omega⟩) _ _ ?_ (Cv.mem (.c 7 rfl ?_ (.c 5 rfl ?_ (.l [0, 4, 6] rfl))) ?_)
    ·show (zL m n).length - (i + 1) < (zL m n).length - i; omega
    ·exact zE (by omega)
    ·exact qq (by rw [← chU_succ hY, List.length_append])
    ·exact grM_eq (chU_succ hY)
   ·have hc3 := BP.f hc3
    refine .exit (.the (.the (.blh (.thn (k8 _ _ (.cv (Cv.wk (.l [4, 5] rfl)) (.seq fun _ k17 => .region (st (.mv (.t rfl)) rfl (st (.as (.t rfl)) rfl (nl (.thn (k17 _ _ (.ret (rtX1 (.inl rfl) Tryz.results90 rfl (.tmp (.t rfl) .nil) (⟨g, by rw [chU_all hm (by omega)], by rw [chU_all hm (by omega)]⟩)))))))))))))))
theorem vg : ∀ m : Nat, m ≤ 16 → ∀ n : Nat, n ≤ 64 → CtrX Tryz.prog 90 [isI (m : Int), isI ((n + 1 : Nat) : Int)] [] (fun S M => ∃ gr : Gr (List Nat), S = isGr gr (zL m (n + 1)).length ∧ M = [grM isLn gr (zL m (n + 1))])
  | 0, _, n, hn => wD (Nat.succ_pos _) hn
  | m + 1, hm, n, hn => by
    by_cases h : m + 1 < n + 1
    · exact wD h hn
    · refine cR (by omega) (by omega) (vg m (by omega) n hn) ?_
      cases n with
      | zero => rw [xq]; exact wE
      | succ n => exact (vg m (by omega) n (by omega)).freeze
theorem dY {m n : Nat} (hm : m ≤ 16) (hn : n ≤ 64) : Ctr Tryz.prog 90 [isI (m : Int), isI (n : Int)] (SlM isLn (zL m n)) := by
 cases n with
 | zero => rw [xq]; exact wE
 | succ n => exact (vg m hm n (by omega)).freeze
theorem ref12_Part {R C : Nat} {xs : List (Bool × List Nat)} {rs cs : List Nat} (hR : R ≤ 64) (hC : C ≤ 64) (hl : xs.length = R * C) (hr : ∀ x ∈ rs, x < R) (hc : ∀ x ∈ cs, x < C) (hrl : rs.length ≤ 64) (hcl : cs.length ≤ 64) : Ctr Tryz.prog 92 [isM (R : Int) (C : Int) xs, isLn rs, isLn cs] (isM (rs.length : Int) (cs.length : Int) (tabR (rs.length * cs.length) cs.length (ptG C xs rs cs))) := by
 refine Ctr.intro Tryz.func92 rfl (by kernel_rfl) Tryz.ntmps92 rfl fun w0 F0 => .cv (Cv.wk (.l [0, 1, 2] rfl)) ?_
 have hRC := qL hR hC
 have hrc := qL hrl hcl
 have hprs := ww rs
 have hpcs := ww cs
 refine .seq fun _ k1 => .region (.box (.t rfl) rfl fun b1 => .alloc [isI 0, isI 0, nilS] zg (fun _ _ => ⟨⟨rfl, by decide, by decide⟩, ⟨rfl, by decide, by decide⟩, rfl, trivial⟩) rfl fun b2 => nl (.thn (k1 _ _ (.seq fun _ k2 => .region (st (.mv (.t rfl)) rfl (st (.eq (.len sl64 (.t rfl)) ((show isI _ = isI (rs.length : Int) from zE (by rw [hprs])))) rfl (st (.mv (.t rfl)) rfl (st (.eq (.len sl64 (.t rfl)) ((show isI _ = isI (cs.length : Int) from zE (by rw [hpcs])))) rfl (st (.build [isI 0, isI 0, nilS] pl24 zg (fun _ _ => ⟨⟨rfl, by decide, by decide⟩, ⟨rfl, by decide, by decide⟩, rfl, trivial⟩) (.cons (.t rfl) rfl rfl rfl (.cons (.t rfl) rfl rfl rfl .nil)) (Z'' := [_, _, _]) rfl) rfl (.alloc [isI 0, isI 0, nilS] zg (fun _ _ => ⟨⟨rfl, by decide, by decide⟩, ⟨rfl, by decide, by decide⟩, rfl, trivial⟩) rfl fun b3 => .store (.t rfl) (.t rfl) (i := 0) rfl ty24 rfl rfl (Ss' := [_, _, _]) rfl (M' := [(some _, zB [_, _, _]), _, _]) rfl (nl (.thn (k2 _ _ (.cv (Cv.wk (.l [1, 2, 3, 6, 7] rfl)) (.seq fun _ k3 => .seq fun _ k4 => .cv (Cv.growF (Bool × List Nat) (i := 0) (o := 2) rfl rfl rfl) (.memEq (M' := [grMK zc Gr.nil [], _, _, _]) rfl (.region (st (.as (.cI 0 rfl)) rfl (nl (.thn (k4 _ _ (.block (.loopF [1, 2, 3, 6, 7] (fun (z : { z : Nat × Gr (Bool × List Nat) // z.1 ≤ rs.length }) => match z with | ⟨(i, g), hI⟩ => [(8, isI (i : Int))]) (fun M => fun (z : { z : Nat × Gr (Bool × List Nat) // z.1 ≤ rs.length }) => match z with | ⟨(i, g), hI⟩ => [grMK zc g (tabR (i * cs.length + 0) cs.length (ptG C xs rs cs)), (some b3, zB [isI (rs.length : Int), isI (cs.length : Int), isGr g (tabR (i * cs.length + 0) cs.length (ptG C xs rs cs)).length]), (some b2, zB [isI 0, isI 0, nilS]), (some b1, zB [isI (R : Int), isI (C : Int), SlK 2 zc xs])]) (fun (z : { z : Nat × Gr (Bool × List Nat) // z.1 ≤ rs.length }) => match z with | ⟨(i, g), hI⟩ => rs.length - i) (⟨(0, Gr.nil), Nat.zero_le _⟩) (Cv.mem (.c 8 rfl ?_ (.l [1, 2, 3, 6, 7] rfl)) ?_) ?_)))))))))))))))))))))))
 ·rfl
 ·exact jl (n := 0) (ys := []) (by rw [xL, Nat.zero_mul]) (show [] = tabR (0 * cs.length + 0) _ _ by rw [Nat.zero_mul]; rfl)
 rintro ⟨⟨i, g⟩, hI⟩ K5 hK5
 refine .cv (Cv.wk (.l [8, 1, 2, 3, 6, 7] rfl)) (.memEq (M' := [grMK zc g (tabR (i * cs.length + 0) cs.length (ptG C xs rs cs)), (some b3, zB [isI (rs.length : Int), isI (cs.length : Int), isGr g (tabR (i * cs.length + 0) cs.length (ptG C xs rs cs)).length]), (some b2, zB [isI 0, isI 0, nilS]), (some b1, zB [isI (R : Int), isI (C : Int), SlK 2 zc xs])]) rfl ?_)
 simp only [] at hI
 refine .seq fun _ k6 => .seq fun _ k7 => .region (st (.mv (.t rfl)) rfl (st (.mv (.t rfl)) rfl (st (.eq (.len sl64 (.t rfl)) ((show isI _ = isI (rs.length : Int) from zE (by rw [hprs])))) rfl (st (.ltI (.t rfl) (.t rfl)) rfl (nl (.thn (k7 _ _ (.cond (.t rfl) (fun hc1 => ?_) (fun hc1 => ?_)))))))))
 ·have hc1 := BP.t hc1
  refine .skip (.thn (k6 _ _ (.seq fun _ k8 => .block (.seq fun _ k9 => .region (st (.as (.cI 0 rfl)) rfl (nl (.thn (k9 _ _ (.block (.loopF [1, 2, 3, 6, 7, 8, 15, 16, 17, 18] (fun (z : { z : Nat × Gr (Bool × List Nat) // z.1 ≤ cs.length }) => match z with | ⟨(k, g2), hK⟩ => [(9, isI (k : Int))]) (fun M => fun (z : { z : Nat × Gr (Bool × List Nat) // z.1 ≤ cs.length }) => match z with | ⟨(k, g2), hK⟩ => [grMK zc g2 (tabR (i * cs.length + k) cs.length (ptG C xs rs cs)), (some b3, zB [isI (rs.length : Int), isI (cs.length : Int), isGr g2 (tabR (i * cs.length + k) cs.length (ptG C xs rs cs)).length]), (some b2, zB [isI 0, isI 0, nilS]), (some b1, zB [isI (R : Int), isI (C : Int), SlK 2 zc xs])]) (fun (z : { z : Nat × Gr (Bool × List Nat) // z.1 ≤ cs.length }) => match z with | ⟨(k, g2), hK⟩ => cs.length - k) (⟨(0, g), Nat.zero_le _⟩) (Cv.mem (.c 9 rfl ?_ (.l [1, 2, 3, 6, 7, 8, 15, 16, 17, 18] rfl)) ?_) ?_))))))))))
  ·rfl
  ·rfl
  rintro ⟨⟨k, g2⟩, hK⟩ K10 hK10
  refine .cv (Cv.wk (.l [9, 1, 2, 3, 6, 7, 8, 15, 16, 17, 18] rfl)) (.memEq (M' := [grMK zc g2 (tabR (i * cs.length + k) cs.length (ptG C xs rs cs)), (some b3, zB [isI (rs.length : Int), isI (cs.length : Int), isGr g2 (tabR (i * cs.length + k) cs.length (ptG C xs rs cs)).length]), (some b2, zB [isI 0, isI 0, nilS]), (some b1, zB [isI (R : Int), isI (C : Int), SlK 2 zc xs])]) rfl ?_)
  simp only [] at hK
  refine .seq fun _ k11 => .seq fun _ k12 => .region (st (.mv (.t rfl)) rfl (st (.mv (.t rfl)) rfl (st (.eq (.len sl64 (.t rfl)) ((show isI _ = isI (cs.length : Int) from zE (by rw [hpcs])))) rfl (st (.ltI (.t rfl) (.t rfl)) rfl (nl (.thn (k12 _ _ (.cond (.t rfl) (fun hc2 => ?_) (fun hc2 => ?_)))))))))
  ·have hc2 := BP.t hc2
   have h1 := hr _ (vL (show i < rs.length by omega))
   have h2 := hc _ (vL (show k < cs.length by omega))
   have hpl := qG h1 h2
   have hpl2 := qG (show i < rs.length by omega) (show k < cs.length by omega)
   refine .skip (.thn (k11 _ _ (.seq fun _ k13 => .block (.dry zR (.tk 0 rfl rfl rfl rfl (OKY.fieldAddr (.t rfl) qU ty22) (.tk 3 rfl rfl rfl rfl (OKY.mv (.t rfl)) (.tk 4 rfl rfl rfl rfl (OKY.mv (.t rfl)) (.tk 7 rfl rfl rfl rfl (OKY.mv (.t rfl)) (.tk 8 rfl rfl rfl rfl (OKY.mv (.t rfl)) (.go [] (.s 1 [] rfl rfl rfl (.o rfl (.load1 (.t rfl) (i := 1) rfl ty22 rfl)) (.s 2 [] rfl rfl rfl (.o rfl (.load (.t rfl) (i := 3) rfl ty24 rfl (Ss' := [_, _, _]) rfl)) (.s 5 [] rfl rfl rfl (.o rfl (.ixP sl64 ty3 (.t rfl) (.t rfl) ⟨by omega, by omega⟩ (pv_getD (show i < rs.length by omega)))) (.s 6 [32] rfl rfl rfl (.o rfl (.loadP1 (.t rfl) ty3)) (.s 9 [] rfl rfl rfl (.o rfl (.ixP sl64 ty3 (.t rfl) (.t rfl) ⟨by omega, by omega⟩ (pv_getD (show k < cs.length by omega)))) (.s 10 [36] rfl rfl rfl (.o rfl (.loadP1 (.t rfl) ty3)) (.s 11 [29, 33, 37] rfl rfl rfl (.o rfl (.eq (.call (wF (i := rs.getD i 0) (k := cs.getD k 0) (by omega) (by omega)) (.cons (.t rfl) (.cons (.t rfl) (.cons (.t rfl) .nil)))) ((show _ = Flat (zc (ptG C xs rs cs i k)) from rfl)))) (.s 12 [38] rfl rfl rfl (.o rfl (.buildS [isB false, SlM isU []] sl22 ty41 zG (fun _ _ => ⟨rfl, nilM _ _, trivial⟩) rfl rfl (.cons (.t rfl) rfl rfl rfl .nil) rfl (S := SlK 2 zc [ptG C xs rs cs i k]) rfl)) (.fin [13, 14, 15] (by kernel_rfl) (by kernel_rfl) (fun _ _ _ _ _ h => h) (by kernel_rfl) (by kernel_rfl) (by kernel_rfl) (by kernel_rfl) (by kernel_rfl) (by kernel_rfl) (by kernel_rfl) (by kernel_rfl) (by kernel_rfl) (.cv (Cv.wk (.l [1, 2, 3, 6, 7, 8, 15, 16, 17, 18, 9, 21, 22, 23, 24, 27, 30, 31, 34, 35, 28, 29, 32, 33, 36, 37, 38, 39] rfl)) (.appendGK (fk := zc) (u := (false, [])) zO (by decide) (fun _ => inferInstance) sl22 ty41 zG (fun _ _ => ⟨rfl, nilM _ _, trivial⟩) by41 (.t rfl) (i := 0) rfl (.t rfl) (by rw [xL, List.length_singleton]; omega) (by simp) rfl fun gr1 => ?_)))))))))))))))))))))
   refine .memEq (M' := [grMK _ _ _, _, _, _]) rfl (st (.fieldAddr (.t rfl) qU ty22) rfl (.store (.t rfl) (.t rfl) (i := 1) rfl ty22 rfl rfl (Ss' := [_, _, _]) rfl (M' := [_, (some _, zB [_, _, _]), _, _]) rfl (nl (.bln (.thn (k13 _ _ (.region (st (.mv (.t rfl)) rfl (st (.addI (.t rfl) (.cI 1 rfl) (by omega) (by omega)) rfl (st (.as (.t rfl)) rfl (nl (.thn ?_))))))))))))
   refine hK10 (⟨(k + 1, gr1), by show k + 1 ≤ cs.length; omega⟩) _ _ ?_ (Cv.mem (.c 9 rfl ?_ (.l [1, 2, 3, 6, 7, 8, 15, 16, 17, 18] rfl)) ?_)
   ·show cs.length - (k + 1) < cs.length - k; omega
   ·exact zE (by omega)
   ·exact jl (by rw [← aZ _ (show k < cs.length by omega), List.length_append]) (by rw [← aZ _ (show k < cs.length by omega)])
  ·have hc2 := BP.f hc2
   refine .exit (.the (.the (.blh (.bln (.thn (k8 _ _ (.region (st (.mv (.t rfl)) rfl (st (.addI (.t rfl) (.cI 1 rfl) (by omega) (by omega)) rfl (st (.as (.t rfl)) rfl (nl (.thn ?_))))))))))))
   have hkC : k = cs.length := by omega
   refine hK5 (⟨(i + 1, g2), by show i + 1 ≤ rs.length; omega⟩) _ _ ?_ (Cv.mem (.c 8 rfl ?_ (.l [1, 2, 3, 6, 7] rfl)) ?_)
   ·show rs.length - (i + 1) < rs.length - i; omega
   ·exact zE (by omega)
   ·exact jl (by rw [hkC, Nat.succ_mul, Nat.add_zero]) (by rw [hkC, Nat.succ_mul, Nat.add_zero])
 ·have hc1 := BP.f hc1
  refine .exit (.the (.the (.blh (.thn (k3 _ _ (.cv (Cv.wk (.l [6, 7] rfl)) (.seq fun _ k14 => .cv (Cv.freezeF (k := 2) (i := 0) (j := 0) (o := 2) rfl rfl rfl rfl (aO zO) (wJ zO) (Ss' := [_, _, SlK 2 zc (tabR (i * cs.length + 0) cs.length (ptG C xs rs cs))]) rfl) (.memEq (M' := [(some _, zB [_, _, SlK 2 zc (tabR (i * cs.length + 0) cs.length (ptG C xs rs cs))]), _, _]) rfl (.cv (Cv.wk (.l [6, 7] rfl)) (.region (st (.load (.t rfl) (i := 0) rfl ty24 rfl (Ss' := [_, _, _]) rfl) rfl (.store (.t rfl) (.t rfl) (i := 1) rfl ty24 rfl rfl (Ss' := [_, _, _]) rfl (M' := [_, (some _, zB [_, _, _]), _]) rfl (nl (.thn (k14 _ _ (.ret (rt1 (.inl rfl) Tryz.results92 rfl (.cell rfl (i := 1) rfl ty24 rfl ?_ .nil))))))))))))))))))
  all_goals (rw [Nat.add_zero, show i = rs.length by omega])
theorem ref12_Some {R C K : Nat} {xs : List (Bool × List Nat)} (hx : Bd (vals xs) K) (hK : K ≤ 10000) (hR : R ≤ 16) (hC : C ≤ 16) (hl : xs.length = R * C) {cols : List Nat} (hc : ∀ x ∈ cols, x < C) (hcl : cols.length ≤ 64) : Ctr Tryz.prog 64 [isM (R : Int) (C : Int) xs, isLn cols] (isB (jv (mf C (vals xs)) R cols)) := by
 refine Ctr.intro Tryz.func64 rfl (by kernel_rfl) Tryz.ntmps64 rfl fun w0 F0 => .cv (Cv.wk (.l [0, 1] rfl)) ?_
 have hpc := ww cols
 have hchl := xi R cols.length
 have h2m := Nat.pow_le_pow_right (show 0 < 2 by decide) hR
 refine .seq fun _ k1 => .region (.box (.t rfl) rfl fun b1 => st (.as (.cB false)) rfl (nl (.thn (k1 _ _ (.seq fun _ k2 => .region (st (.fieldAddr (.t rfl) zT ty3) rfl (st (.load1 (.t rfl) (i := 0) rfl ty3 rfl) rfl (st (.mv (.t rfl)) rfl (st (.eq (.len sl64 (.t rfl)) ((show isI _ = isI (cols.length : Int) from zE (by rw [hpc])))) rfl (st (.call (dY hR hcl) (.cons (.t rfl) (.cons (.t rfl) .nil))) rfl (st (.as (.t rfl)) rfl (nl (.thn (k2 _ _ (.cv (Cv.wk (.l [1, 2, 4, 5] rfl)) (.seq fun _ k3 => .seq fun _ k4 => .region (st (.as (.cI 0 rfl)) rfl (nl (.thn (k4 _ _ (.block (.loopF [1, 2, 5] (fun (z : { i : Nat // i ≤ (zL R cols.length).length ∧ ∀ j, j < i → mn (mf C (vals xs)) ((zL R cols.length).getD j []) cols = 0 }) => match z with | ⟨i, hI⟩ => [(6, isI (i : Int))]) (fun M => fun (z : { i : Nat // i ≤ (zL R cols.length).length ∧ ∀ j, j < i → mn (mf C (vals xs)) ((zL R cols.length).getD j []) cols = 0 }) => match z with | ⟨i, hI⟩ => M) (fun (z : { i : Nat // i ≤ (zL R cols.length).length ∧ ∀ j, j < i → mn (mf C (vals xs)) ((zL R cols.length).getD j []) cols = 0 }) => match z with | ⟨i, hI⟩ => (zL R cols.length).length - i) (⟨0, Nat.zero_le _, fun j hj => absurd hj (Nat.not_lt_zero _)⟩) (Cv.mem (.c 6 rfl ?_ (.l [1, 2, 5] rfl)) ?_) ?_))))))))))))))))))))))
 ·rfl
 ·rfl
 rintro ⟨i, hi, hq⟩ K5 hK5
 refine .cv (Cv.wk (.l [6, 1, 2, 5] rfl)) (.seq fun _ k6 => .seq fun _ k7 => .region (st (.mv (.t rfl)) rfl (st (.mv (.t rfl)) rfl (st (.len cG (.t rfl)) rfl (st (.ltI (.t rfl) (.t rfl)) rfl (nl (.thn (k7 _ _ (.cond (.t rfl) (fun hc1 => ?_) (fun hc1 => ?_))))))))))
 ·have hc1 := BP.t hc1
  have hil : i < (zL R cols.length).length := (by omega)
  have hYmem : ((zL R cols.length).getD i []) ∈ zL R cols.length := by rw [List.getD, List.getElem?_eq_getElem hil]; exact List.getElem_mem _
  have hYs := xt R cols.length ((zL R cols.length).getD i []) hYmem
  obtain ⟨hYl, hYm⟩ := hYs
  have hdw := mn_nw (C := C) hx ((zL R cols.length).getD i []) cols
  have hK2 : ((zL R cols.length).getD i []).length * (K + ((zL R cols.length).getD i []).length) ≤ 64 * (10000 + 64) := Nat.mul_le_mul (by omega) (by omega)
  refine .skip (.thn (k6 _ _ (.seq fun _ k8 => .block (.seq fun _ k9 => .dr (.s [] rfl rfl rfl (.o rfl (.load (.t rfl) (i := 0) rfl ty24 rfl (Ss' := [_, _, _]) rfl)) (.s [] rfl rfl rfl (.o rfl (.mv (.t rfl))) (.s [] rfl rfl rfl (.o rfl (.mv (.t rfl))) (.s [19, 20] rfl rfl rfl (.o rfl (.ixP cG ty64 (.t rfl) (.t rfl) ⟨by omega, by omega⟩ (getD_some (d := []) (by omega)))) (.s [21] rfl rfl rfl (.o rfl (.eq (.loadP1 (.t rfl) ty64) ((show _ = isLn ((zL R cols.length).getD i []) from rfl)))) (.s [] rfl rfl rfl (.o rfl (.mv (.t rfl))) (.fin (n := 6) zR (by kernel_rfl) (by kernel_rfl) (by kernel_rfl) (.cv (Cv.wk (.l [1, 2, 5, 6, 12, 13, 14, 15, 18, 19, 20, 21, 22, 23] rfl)) (st (.eq (.call (ref12_Part (by omega) (by omega) hl hYm hc (by omega) hcl) (.cons (.t rfl) (.cons (.t rfl) (.cons (.t rfl) .nil)))) ((show _ = isM (cols.length : Int) (cols.length : Int) (tabR (cols.length * cols.length) cols.length (ptG C xs ((zL R cols.length).getD i []) cols)) from by rw [hYl]))) rfl (st (.eq (.call (ref12_Det (K := K) (pt_bd hx _) (by omega) hcl (xL _ _ _)) (.cons (.t rfl) .nil)) ((show _ = isZ (mn (mf C (vals xs)) ((zL R cols.length).getD i []) cols) from zN (pt_mn hYl)))) rfl (st (.eq (.call (zd (by rw [zC]; omega)) (.cons (.t rfl) .nil)) ((show _ = isI (sgn (mn (mf C (vals xs)) ((zL R cols.length).getD i []) cols)) from zE (by rw [zH])))) rfl ?_)))))))))))))))
  refine st (.neI (.t rfl) (.cI 0 rfl)) rfl (nl (.thn (k9 _ _ (.cond (.t rfl) (fun hc2 => ?_) (fun hc2 => ?_)))))
  ·have hc2 := BP.t hc2
   have hne : mn (mf C (vals xs)) ((zL R cols.length).getD i []) cols ≠ 0 := fun e => hc2 ((qn _).2 e)
   refine .seq fun _ k10 => .region (st (.as (.cB true)) rfl (nl (.thn (k10 _ _ (.ret (.blr (.thr (.thr (.blr (.thr (rt1 (.inl rfl) Tryz.results64 rfl (.tmp (Has.t' rfl ?_) .nil))))))))))))
   all_goals (exact zU (someM_yes hYmem hne))
  ·have hc2 := BP.f hc2
   have heq : mn (mf C (vals xs)) ((zL R cols.length).getD i []) cols = 0 := (qn _).1 hc2
   refine .skip (.bln (.thn (k8 _ _ (.region (st (.mv (.t rfl)) rfl (st (.addI (.t rfl) (.cI 1 rfl) (by omega) (by omega)) rfl (st (.as (.t rfl)) rfl (nl (.thn ?_)))))))))
   refine hK5 (⟨i + 1, by omega, fun j hj => by rcases Nat.lt_or_ge j i with h | h; exact hq j h; obtain rfl : j = i := (by omega); exact heq⟩) _ _ ?_ (Cv.mem (.c 6 rfl ?_ (.l [1, 2, 5] rfl)) ?_)
   ·show (zL R cols.length).length - (i + 1) < (zL R cols.length).length - i; omega
   ·exact zE (by omega)
   ·rfl
 ·have hc1 := BP.f hc1
  refine .exit (.the (.the (.blh (.thn (k3 _ _ (.cv (Cv.wk .nil) (.seq fun _ k11 => .region (st (.as (.cB false)) rfl (nl (.thn (k11 _ _ (.ret (rt1 (.inl rfl) Tryz.results64 rfl (.tmp (Has.t' rfl ?_) .nil))))))))))))))
  all_goals (exact zU (someM_no fun j hj => hq j (by omega)))
theorem er {R C K : Nat} {xs : List (Bool × List Nat)} (hx : Bd (vals xs) K) (hK : K ≤ 10000) (hR : R ≤ 16) (hC : C ≤ 16) (hl : xs.length = R * C) : Ctr Tryz.prog 33 [isM (R : Int) (C : Int) xs] (isLn (pivs (mf C (vals xs)) R C)) := by
 refine Ctr.intro Tryz.func33 rfl (by kernel_rfl) Tryz.ntmps33 rfl fun w0 F0 => .cv (Cv.wk (.l [0] rfl)) (.seq fun _ k1 => .region (.box (.t rfl) rfl fun b1 => st (.as (.cW (f := isI))) rfl (nl (.thn (k1 _ _ (.seq fun _ k2 => .region (st (.as (.cW (f := isI))) rfl (nl (.thn (k2 _ _ (.seq fun _ k3 => .seq fun _ k4 => .region (st (.as (.cI 0 rfl)) rfl (nl (.thn (k4 _ _ (.block (.loopF [1, 2] (fun (z : { k : Nat // k ≤ C }) => match z with | ⟨k, hk⟩ => [(4, isI (k : Int)), (3, isLn (pivs (mf C (vals xs)) R k))]) (fun M => fun (z : { k : Nat // k ≤ C }) => match z with | ⟨k, hk⟩ => M) (fun (z : { k : Nat // k ≤ C }) => match z with | ⟨k, hk⟩ => C - k) (⟨0, Nat.zero_le _⟩) (Cv.mem (.c 4 rfl ?_ (.c 3 rfl ?_ (.l [1, 2] rfl))) ?_) ?_)))))))))))))))))
 ·rfl
 ·rfl
 ·rfl
 rintro ⟨k, hk⟩ K5 hK5
 refine .cv (Cv.wk (.l [4, 3, 1, 2] rfl)) ?_
 obtain ⟨hpk, hpl⟩ := pivs_lt (mf C (vals xs)) R k
 have hpv := ww (pivs (mf C (vals xs)) R k)
 refine .seq fun _ k6 => .seq fun _ k7 => .region (st (.mv (.t rfl)) rfl (st (.fieldAddr (.t rfl) zS ty3) rfl (st (.load1 (.t rfl) (i := 0) rfl ty3 rfl) rfl (st (.ltI (.t rfl) (.t rfl)) rfl (nl (.thn (k7 _ _ (.cond (.t rfl) (fun hc1 => ?_) (fun hc1 => ?_)))))))))
 ·have hc1 := BP.t hc1
  refine .skip (.thn (k6 _ _ (.seq fun _ k8 => .block (.seq fun _ k9 => .region (.cv (Cv.grow0 (α := Int) isI) (st (.as (Has.cGr (α := Int))) rfl (nl (.thn (k9 _ _ (.seq fun _ k10 => .region (st (.mv (.t rfl)) rfl (st (.mv (.t rfl)) rfl (.appendG0 (f := isI) (u := 0) sl64 ty3 ax (fun _ _ => ⟨⟨rfl, by decide, by decide⟩, trivial⟩) (fun _ => inferInstance) by3 (.t rfl) (i := 0) rfl (.t rfl) (by simp only [List.length_nil]; omega) rfl fun gr1 => ?_)))))))))))))
  refine .memEq (M' := [grM _ _ _, _]) rfl (st (.as (.t rfl)) rfl (nl (.thn (k10 _ _ (.seq fun _ k11 => .region (st (.mv (.t rfl)) rfl (st (.mv (.t rfl)) rfl (st (.buildS [isI 0] sl64 ty3 ax (fun _ _ => ⟨⟨rfl, by decide, by decide⟩, trivial⟩) rfl rfl (.cons (.t rfl) rfl rfl rfl .nil) rfl (S := SlM isI [(k : Int)]) rfl) rfl (.appendG (f := isI) (u := 0) sl64 ty3 ax (fun _ _ => ⟨⟨rfl, by decide, by decide⟩, trivial⟩) (fun _ => inferInstance) by3 (.t rfl) (i := 0) rfl (.t rfl) (by simp only [List.length_append, List.length_nil, List.length_cons]; omega) (by simp) rfl fun gr2 => ?_)))))))))
  refine .memEq (M' := [grM _ _ _, _]) rfl (.cv (Cv.freezeGn (t := 18) (i := 0) (ys := pv (pivs (mf C (vals xs)) R k) ++ [(k : Int)]) rfl rfl rfl (by simp)) ?_)
  refine .memEq (M' := [_]) rfl (.cv (Cv.wk (.l [1, 2, 4, 3, 6, 7, 8, 9, 13, 16, 17, 18] rfl)) (st (.as (.t rfl)) rfl (nl (.thn (k11 _ _ (.seq fun _ k12 => .region (st (.load (.t rfl) (i := 0) rfl ty24 rfl (Ss' := [_, _, _]) rfl) rfl (st (.eq (.mv (.t rfl)) ((show _ = isLn ((pivs (mf C (vals xs)) R k) ++ [k]) from zY (ey _ _)))) rfl ?_))))))))
  refine st (.call (ref12_Some hx hK hR hC hl (cols := (pivs (mf C (vals xs)) R k) ++ [k]) (fun x hx' => by rcases List.mem_append.1 hx' with h | h; exact Nat.lt_trans (hpk x h) (by omega); rw [List.mem_singleton.1 h]; omega) (by rw [List.length_append]; show _ + 1 ≤ _; omega)) (.cons (.t rfl) (.cons (.t rfl) .nil))) rfl ?_
  refine nl (.thn (k12 _ _ (.cond (.t rfl) (fun hc2 => ?_) (fun hc2 => ?_))))
  ·have hc2 := BP.t hc2
   have HS := hc2
   refine .region (st (.eq (.mv (.t rfl)) ((show _ = isLn ((pivs (mf C (vals xs)) R k) ++ [k]) from zY (ey _ _)))) rfl (st (.as (.t rfl)) rfl (nl (.bln (.thn (k8 _ _ (.region (st (.mv (.t rfl)) rfl (st (.addI (.t rfl) (.cI 1 rfl) (by omega) (by omega)) rfl (st (.as (.t rfl)) rfl (nl (.thn (hK5 (⟨k + 1, by omega⟩) _ _ ?_ (Cv.mem (.c 4 rfl ?_ (.c 3 rfl ?_ (.l [1, 2] rfl))) ?_))))))))))))))
   ·show C - (k + 1) < C - k; omega
   ·exact zE (by omega)
   ·exact zY (congrArg pv (if_pos HS).symm)
   ·rfl
  ·have hc2 := BP.f hc2
   have HS : ¬ jv (mf C (vals xs)) R ((pivs (mf C (vals xs)) R k) ++ [k]) = true := by simpa using hc2
   refine .skip (.bln (.thn (k8 _ _ (.region (st (.mv (.t rfl)) rfl (st (.addI (.t rfl) (.cI 1 rfl) (by omega) (by omega)) rfl (st (.as (.t rfl)) rfl (nl (.thn (hK5 (⟨k + 1, by omega⟩) _ _ ?_ (Cv.mem (.c 4 rfl ?_ (.c 3 rfl ?_ (.l [1, 2] rfl))) ?_)))))))))))
   ·show C - (k + 1) < C - k; omega
   ·exact zE (by omega)
   ·exact zY (congrArg pv (if_neg HS).symm)
   ·rfl
 ·have hc1 := BP.f hc1
  refine .exit (.the (.the (.blh (.thn (k3 _ _ (.cv (Cv.wk (.l [2, 3] rfl)) (.seq fun _ k13 => .region (st (.mv (.t rfl)) rfl (st (.as (.t rfl)) rfl (nl (.thn (k13 _ _ (.ret (rt1 (.inl rfl) Tryz.results33 rfl (.tmp (Has.t' rfl ?_) .nil)))))))))))))))
  all_goals (rw [show k = C by omega])
end Go.Proofs.YthmhlblaleahpaaGreat
namespace Go.Proofs.YthmhlblaleahpaaGreat
open Go.En Go.RowKit
set_option maxRecDepth 10000
set_option maxHeartbeats 4000000
open Go.Nt
open Go.Pz
open Go.Mz
open Go.Hn
open Go.Hp
open Go.Dt
open Go.Gs
theorem ref20_Sums {R C K : Nat} {xs vs : List (Bool × List Nat)} {cl : List Int} (hR : R ≤ 16) (hC : C ≤ 16) (hl : xs.length = R * C) (hb : Bd (vals xs) 1) (hv : Bd (vals vs) 2) (hvl : vs.length = C) (hc : Bd cl K) (hcl : cl.length = R) (hK : K ≤ 1000000) : Ctr Tryz.prog 11 [SlK 2 zc vs, isP cl, isM (R : Int) (C : Int) xs] (SlK 2 zc (suL C (vals xs) cl vs R C)) := by
 refine Ctr.intro Tryz.func11 rfl (by kernel_rfl) Tryz.ntmps11 rfl fun w0 F0 => .cv (Cv.wk (.l [0, 1, 2] rfl)) (.fact (Has.lenLt (Has.t (t := 0) rfl)) fun lt0 => ?_)
 have hRC := qL (show R ≤ 64 by omega) (show C ≤ 64 by omega)
 have hcm : (cl.map nz).length = R := by rw [List.length_map]; exact hcl
 refine .seq fun _ k1 => .region (.box (.t rfl) rfl fun b1 => st (.as (.cWK (k := 2) (fk := zc))) rfl (nl (.thn (k1 _ _ (.seq fun _ k2 => .region (.cv (Cv.grow0K (α := Bool × List Nat) zc) (st (.as (Has.cGr (α := Bool × List Nat))) rfl (nl (.thn (k2 _ _ (.seq fun _ k3 => .seq fun _ k4 => .region (st (.as (.cI 0 rfl)) rfl (nl (.thn (k4 _ _ (.block (.loopF [0, 1, 5, 6] (fun (z : { z : Nat × Gr (Bool × List Nat) // z.1 ≤ C }) => match z with | ⟨(k, g), hI⟩ => [(8, isI (k : Int)), (7, isGr g (suL C (vals xs) cl vs R k).length)]) (fun M => fun (z : { z : Nat × Gr (Bool × List Nat) // z.1 ≤ C }) => match z with | ⟨(k, g), hI⟩ => [grMK zc g (suL C (vals xs) cl vs R k), (some b1, zB [isI (R : Int), isI (C : Int), SlK 2 zc xs])]) (fun (z : { z : Nat × Gr (Bool × List Nat) // z.1 ≤ C }) => match z with | ⟨(k, g), hI⟩ => C - k) (⟨(0, Gr.nil), Nat.zero_le _⟩) (Cv.mem (.c 8 rfl ?_ (.c 7 rfl ?_ (.l [0, 1, 5, 6] rfl))) ?_) ?_)))))))))))))))))
 ·rfl
 ·rfl
 ·rfl
 rintro ⟨⟨k, g⟩, hI⟩ K5 hK5
 refine .cv (Cv.wk (.l [8, 7, 0, 1, 5, 6] rfl)) (.memEq (M' := [grMK zc g (suL C (vals xs) cl vs R k), (some b1, zB [isI (R : Int), isI (C : Int), SlK 2 zc xs])]) rfl ?_)
 simp only [] at hI
 refine .seq fun _ k6 => .seq fun _ k7 => .region (st (.mv (.t rfl)) rfl (st (.fieldAddr (.t rfl) zS ty3) rfl (st (.load1 (.t rfl) (i := 1) rfl ty3 rfl) rfl (st (.ltI (.t rfl) (.t rfl)) rfl (nl (.thn (k7 _ _ (.cond (.t rfl) (fun hc1 => ?_) (fun hc1 => ?_)))))))))
 ·have hc1 := BP.t hc1
  have hkC : k < C := (by omega)
  refine .skip (.thn (k6 _ _ (.seq fun _ k8 => .block (.seq fun _ k9 => .region (st (.mv (.t rfl)) rfl (st (.mv (.t rfl)) rfl (st (.ixK sl22 ty41 (.t rfl) (.t rfl) zO ⟨by omega, by omega⟩ (getD_some (d := (false, [])) (i := k) (by omega))) rfl (st (.loadP (.t rfl) ty41 rfl (Ss' := [_, _]) rfl) rfl (.alloc [isB false, SlM isU []] zG (fun _ _ => ⟨rfl, nilM _ _, trivial⟩) rfl fun b2 => .store (.t rfl) (.t rfl) (i := 0) rfl ty41 rfl rfl (Ss' := [_, _]) rfl (M' := [(some _, zB [_, _]), _, _]) rfl (nl (.thn (k9 _ _ (.seq fun _ k10 => .seq fun _ k11 => .region (st (.as (.cI 0 rfl)) rfl (nl (.thn (k11 _ _ (.block (.loopF [0, 1, 5, 6, 8, 7, 11, 12, 13, 14, 17, 18, 19, 20, 9] (fun (z : { i : Nat // i ≤ R }) => match z with | ⟨i, hi⟩ => [(10, isI (i : Int))]) (fun M => fun (z : { i : Nat // i ≤ R }) => match z with | ⟨i, hi⟩ => [(some b2, zB (zc (sP C (vals xs) cl vs k i))), grMK zc g (suL C (vals xs) cl vs R k), (some b1, zB [isI (R : Int), isI (C : Int), SlK 2 zc xs])]) (fun (z : { i : Nat // i ≤ R }) => match z with | ⟨i, hi⟩ => R - i) (⟨0, Nat.zero_le _⟩) (Cv.mem (.c 10 rfl ?_ (.l [0, 1, 5, 6, 8, 7, 11, 12, 13, 14, 17, 18, 19, 20, 9] rfl)) ?_) ?_)))))))))))))))))))
  ·rfl
  ·rfl
  rintro ⟨i, hi⟩ K12 hK12
  refine .cv (Cv.wk (.l [10, 0, 1, 5, 6, 8, 7, 11, 12, 13, 14, 17, 18, 19, 20, 9] rfl)) (.memEq (M' := [(some b2, zB (zc (sP C (vals xs) cl vs k i))), grMK zc g (suL C (vals xs) cl vs R k), (some b1, zB [isI (R : Int), isI (C : Int), SlK 2 zc xs])]) rfl ?_)
  have hsw := smV_nw (C := C) (k := k) hb hv hc i
  have hsp : (List.length (zA (val (sP C (vals xs) cl vs k i).2))) = _ := sP_nw
  have hik : i * (K + 2) ≤ 16 * (K + 2) := Nat.mul_le_mul_right _ (by omega)
  refine .seq fun _ k13 => .seq fun _ k14 => .region (st (.mv (.t rfl)) rfl (st (.fieldAddr (.t rfl) zT ty3) rfl (st (.load1 (.t rfl) (i := 2) rfl ty3 rfl) rfl (st (.ltI (.t rfl) (.t rfl)) rfl (nl (.thn (k14 _ _ (.cond (.t rfl) (fun hc2 => ?_) (fun hc2 => ?_)))))))))
  ·have hc2 := BP.t hc2
   have hiR : i < R := (by omega)
   have hpl := qG hiR hkC
   have hxr := hb.raw (i * C + k)
   have hci := hc i
   have hmk : (List.length (zA (mf C (vals xs) i k).natAbs)) ≤ 1 := hb _
   have hmm := qD (cf cl i) (mf C (vals xs) i k)
   refine .skip (.thn (k13 _ _ (.seq fun _ k15 => .block (.dr (.s [] rfl rfl rfl (.o rfl (.load (.t rfl) (i := 0) rfl ty41 rfl (Ss' := [_, _]) rfl)) (.s [] rfl rfl rfl (.o rfl (.mv (.t rfl))) (.s [] rfl rfl rfl (.o rfl (.mv (.t rfl))) (.s [28, 29] rfl rfl rfl (.o rfl (.ixK sl22 ty41 (.t rfl) (.t rfl) zO ⟨by omega, by omega⟩ (getZ (i := i) (by omega)))) (.s [30] rfl rfl rfl (.o rfl (.loadP (.t rfl) ty41 rfl (Ss' := [_, _]) rfl)) (.s [] rfl rfl rfl (.o rfl (.load (.t rfl) (i := 2) rfl ty24 rfl (Ss' := [_, _, _]) rfl)) (.s [] rfl rfl rfl (.o rfl (.mv (.t rfl))) (.s [] rfl rfl rfl (.o rfl (.mv (.t rfl))) (.s [32, 33, 34] rfl rfl rfl (.o rfl (.call (wF (i := i) (k := k) (by omega) (by omega)) (.cons (.t rfl) (.cons (.t rfl) (.cons (.t rfl) .nil))))) ?_)))))))))))))
   refine .s [31, 35] rfl rfl rfl (.o rfl (.eq (.call (qT (by rw [zC]; omega) (by show (List.length (zA (val (xs.getD (i * C + k) (false, [])).2))) ≤ _; omega)) (.cons (.t rfl) (.cons (.t rfl) .nil))) ((show isZ _ = isZ (cf cl i * mf C (vals xs) i k) from zN (by rw [zH, ← zi]; rfl))))) ?_
   refine .fin (n := 10) zR (by kernel_rfl) (by kernel_rfl) (by kernel_rfl) (.cv (Cv.wk (.l [0, 1, 5, 6, 8, 7, 11, 12, 13, 14, 17, 18, 19, 20, 9, 10, 21, 22, 23, 24, 27, 28, 29, 30, 31, 32, 33, 34, 35, 36] rfl)) (st (.eq (.call (vd (by rw [hsp]; omega) (by rw [zC]; omega)) (.cons (.t rfl) (.cons (.t rfl) .nil))) ((show isZ _ = isZ (smV C (vals xs) (vals vs) cl k (i + 1)) from zN (by rw [sP_zv, zH]; exact (smV_succ _ _ _ _ _ _).symm)))) rfl ?_))
   refine .store (.t rfl) (.t rfl) (i := 0) rfl ty41 rfl rfl (Ss' := [_, _]) rfl (M' := [(some _, zB [_, _]), _, _]) rfl (nl (.bln (.thn (k15 _ _ (.region (st (.mv (.t rfl)) rfl (st (.addI (.t rfl) (.cI 1 rfl) (by omega) (by omega)) rfl (st (.as (.t rfl)) rfl (nl (.thn (hK12 (⟨i + 1, by omega⟩) _ _ ?_ (Cv.mem (.c 10 rfl ?_ (.l [0, 1, 5, 6, 8, 7, 11, 12, 13, 14, 17, 18, 19, 20, 9] rfl)) ?_))))))))))))
   ·show R - (i + 1) < R - i; omega
   ·exact zE (by omega)
   ·rfl
  ·have hc2 := BP.f hc2
   have hiR : i = R := (by omega)
   refine .exit (.the (.the (.blh (.thn (k10 _ _ (.region (st (.mv (.t rfl)) rfl (st (.load (.t rfl) (i := 0) rfl ty41 rfl (Ss' := [_, _]) rfl) rfl (st (.buildS [isB false, SlM isU []] sl22 ty41 zG (fun _ _ => ⟨rfl, nilM _ _, trivial⟩) rfl rfl (.cons (.t rfl) rfl rfl rfl .nil) rfl (S := SlK 2 zc [sP C (vals xs) cl vs k i]) rfl) rfl (.appendGK (fk := zc) (u := (false, [])) zO (by decide) (fun _ => inferInstance) sl22 ty41 zG (fun _ _ => ⟨rfl, nilM _ _, trivial⟩) by41 (.t rfl) (i := 1) rfl (.t rfl) (by rw [el, List.length_singleton]; omega) (by simp) rfl fun gr1 => ?_))))))))))
   refine .memEq (M' := [_, grMK _ _ _, _]) rfl (st (.as (.t rfl)) rfl (nl (.bln (.thn (k8 _ _ (.region (st (.mv (.t rfl)) rfl (st (.addI (.t rfl) (.cI 1 rfl) (by omega) (by omega)) rfl (st (.as (.t rfl)) rfl (nl (.thn ?_)))))))))))
   refine hK5 (⟨(k + 1, gr1), by show k + 1 ≤ C; omega⟩) _ _ ?_ (Cv.trans (Cv.drop ((.cons _ (.cons_cons _ (.cons_cons _ .slnil))))) (Cv.mem (.c 8 rfl ?_ (.c 7 rfl ?_ (.l [0, 1, 5, 6] rfl))) ?_))
   ·show C - (k + 1) < C - k; omega
   ·exact zE (by omega)
   ·exact qq (by rw [← suL_succ, List.length_append]; rfl)
   ·exact qz (by rw [show i = R by omega, suL_succ])
 ·have hc1 := BP.f hc1
  have hkC : k = C := (by omega)
  refine .exit (.the (.the (.blh (.thn (k3 _ _ (.cv (Cv.wk (.l [6, 7] rfl)) (.seq fun _ k16 => .cv (Cv.freezeGK (t := 7) (i := 0) (ys := suL C (vals xs) cl vs R k) zO rfl rfl rfl) (.memEq (M' := [_]) rfl (.cv (Cv.wk (.l [6, 7] rfl)) (.region (st (.mv (.t rfl)) rfl (st (.as (.t rfl)) rfl (nl (.thn (k16 _ _ (.ret (rt1 (.inl rfl) Tryz.results11 rfl (.tmp (Has.t' rfl ?_) .nil))))))))))))))))))
  all_goals (rw [hkC])
theorem cQ {R C K : Nat} {xs : List (Bool × List Nat)} (hx : Bd (vals xs) K) (hK : K ≤ 10000) (hR : R ≤ 16) (hC : C ≤ 16) (hl : xs.length = R * C) : Ctr Tryz.prog 9 [isM (R : Int) (C : Int) xs] (isI ((pivs (mf C (vals xs)) R C).length : Int)) := by
 refine Ctr.intro Tryz.func9 rfl (by kernel_rfl) Tryz.ntmps9 rfl fun w0 F0 => .cv (Cv.wk (.l [0] rfl)) (.seq fun _ k1 => .region (.box (.t rfl) rfl fun b1 => st (.as (.cI 0 rfl)) rfl (nl (.thn (k1 _ _ (.seq fun _ k2 => .region (st (.load (.t rfl) (i := 0) rfl ty24 rfl (Ss' := [_, _, _]) rfl) rfl (st (.call (er hx hK hR hC hl) (.cons (.t rfl) .nil)) rfl (st (.len sl64 (.t rfl)) rfl (st (.as (.t rfl)) rfl (nl (.thn (k2 _ _ (.cv (Cv.wk (.l [2] rfl)) (.ret (rt1 (.inl rfl) Tryz.results9 rfl (.tmp (Has.t' rfl ?_) .nil)))))))))))))))))
 all_goals (exact zE (by rw [ww]))
end Go.Proofs.YthmhlblaleahpaaGreat
namespace Go.Ch
open Go.Dt Go.Dt.RowF
/-! ### polynomials as functions -/
def pe (c : Nat → Int) (d : Nat) (x : Int) : Int := sm d fun i => c i * x ^ i
theorem pe_left (c : Nat → Int) (d : Nat) (x : Int) : pe c (d + 1) x = c 0 + x * pe (fun i => c (i + 1)) d x := by
 unfold pe
 rw [jd, Int.pow_zero, Int.mul_one, ← bO]
 congr 1
 exact zk fun i _ => by rw [Int.pow_succ]; grind
theorem pe_lin (x y : Int) (c e : Nat → Int) (d : Nat) (z : Int) : pe (fun i => x * c i + y * e i) d z = x * pe c d z + y * pe e d z := by
 unfold pe
 rw [← wv]
 exact zk fun i _ => by grind
theorem pe_succ (c : Nat → Int) (d : Nat) (x : Int) : pe c (d + 1) x = pe c d x + c d * x ^ d := rfl
theorem pe_congr {c e : Nat → Int} {d : Nat} (h : ∀ i, i < d → c i = e i) (x : Int) : pe c d x = pe e d x := zk fun i hi => by rw [h i hi]
def PL (n : Nat) (f : Int → Int) (t : Int) : Prop := ∃ c : Nat → Int, (∀ x, f x = pe c (n + 1) x) ∧ c n = t
theorem PL.const (a : Int) : PL 0 (fun _ => a) a := ⟨fun _ => a, fun x => by show a = 0 + a * x ^ 0; rw [Int.pow_zero]; omega, rfl⟩
theorem PL.up {n : Nat} {f : Int → Int} {t : Int} (h : PL n f t) : PL (n + 1) f 0 := by
 obtain ⟨c, hc, _⟩ := h
 refine ⟨fun i => if i ≤ n then c i else 0, fun x => ?_, if_neg (by omega)⟩
 rw [pe_succ, if_neg (by omega), Int.zero_mul, Int.add_zero, hc]
 exact pe_congr (fun i hi => (if_pos (by omega)).symm) x
theorem PL.lin {n : Nat} {f g : Int → Int} {s t : Int} (a b : Int) (hf : PL n f s) (hg : PL n g t) : PL n (fun x => a * f x + b * g x) (a * s + b * t) := by
 obtain ⟨c, hc, rfl⟩ := hf
 obtain ⟨e, he, rfl⟩ := hg
 exact ⟨fun i => a * c i + b * e i, fun x => by dsimp only; rw [pe_lin, hc, he], rfl⟩
theorem PL.shift {n : Nat} {f : Int → Int} {t : Int} (h : PL n f t) : PL (n + 1) (fun x => x * f x) t := by
 obtain ⟨c, hc, rfl⟩ := h
 refine ⟨fun i => if i = 0 then 0 else c (i - 1), fun x => ?_, by dsimp only; rw [if_neg (by omega)]; rfl⟩
 dsimp only
 rw [pe_left, if_pos rfl, Int.zero_add, hc]
 congr 1
theorem PL.mul {n : Nat} {g : Int → Int} {t : Int} (a b : Int) (h : PL n g t) : PL (n + 1) (fun x => (a * x + b) * g x) (a * t) := by
 have := PL.lin a b h.shift h.up
 rw [Int.mul_zero, Int.add_zero] at this
 obtain ⟨c, hc, ht⟩ := this
 exact ⟨c, fun x => by rw [← hc]; dsimp only; grind, ht⟩
theorem PL.zero (n : Nat) : PL n (fun _ => 0) 0 := ⟨fun _ => 0, fun x => by unfold pe; rw [vQ fun i _ => Int.zero_mul _], rfl⟩
theorem PL.sum {n : Nat} {f : Nat → Int → Int} {t : Nat → Int} : ∀ {m : Nat}, (∀ k, k < m → PL n (f k) (t k)) → PL n (fun x => sm m fun k => f k x) (sm m t)
  | 0, _ => PL.zero n
  | m + 1, h => by
    have h1 := PL.sum (m := m) fun k hk => h k (by omega)
    have h2 := PL.lin 1 1 h1 (h m (by omega))
    obtain ⟨c, hc, ht⟩ := h2
    exact ⟨c, fun x => by rw [← hc]; dsimp only; show sm m (fun k => f k x) + f m x = _; omega, by rw [ht]; show _ = sm m t + t m; omega⟩
theorem PL.det : ∀ (n : Nat) (a b : MatF), PL n (fun x => Go.Dt.det n fun i j => a i j * x + b i j) (Go.Dt.det n a)
  | 0, a, b => PL.const 1
  | n + 1, a, b => by
    have h : PL (n + 1) (fun x => sm (n + 1) fun k => sg k * ((a 0 k * x + b 0 k) * Go.Dt.det n fun i j => a (i + 1) (skip k j) * x + b (i + 1) (skip k j))) (sm (n + 1) fun k => sg k * (a 0 k * Go.Dt.det n fun i j => a (i + 1) (skip k j))) :=
      PL.sum (f := fun k x => sg k * ((a 0 k * x + b 0 k) * Go.Dt.det n fun i j => a (i + 1) (skip k j) * x + b (i + 1) (skip k j))) (t := fun k => sg k * (a 0 k * Go.Dt.det n fun i j => a (i + 1) (skip k j))) fun k _ => by
        have h1 := PL.lin (sg k) 0 (PL.mul (a 0 k) (b 0 k) (PL.det n (fun i j => a (i + 1) (skip k j)) fun i j => b (i + 1) (skip k j))) (PL.zero (n + 1))
        obtain ⟨c, hc, ht⟩ := h1
        exact ⟨c, fun x => by rw [← hc]; dsimp only; omega, by rw [ht]; omega⟩
    exact h
/-! ### the characteristic polynomial -/
def xm (A : MatF) (x : Int) : MatF := fun i j => one i j * x + -(A i j)
theorem cp_ex (n : Nat) (A : MatF) : ∃ c : Nat → Int, (∀ x, det n (xm A x) = pe c (n + 1) x) ∧ c n = 1 := by
 have := PL.det n one fun i j => -(A i j)
 rw [bn] at this
 exact this
noncomputable def cp (n : Nat) (A : MatF) : Nat → Int := Classical.choose (cp_ex n A)
/-! ### the trace -/
end Go.Ch
namespace Go.Tr
open Go.Nt Go.Pz Go.Mz Go.En Go.Hn Go.Hp Go.Dt Go.Br Go.Ch
theorem run_last {s0 : BS} (h0 : s0.ps = []) : ∀ {c : Nat} {s : BS}, BRun s0 c s → s.ps.length ≤ c ∧ (c ≤ s.ps.length → 0 < c → ∃ r, s.rows[c - 1]? = some r ∧ cf r (c - 1) = s.last) := by
  intro c s h
  induction h with
  | zero => exact ⟨by rw [h0]; exact Nat.le_refl _, fun _ h => absurd h (Nat.lt_irrefl _)⟩
  | @step c s s' h hs ih =>
    rcases hs with ⟨rfl, _⟩ | ⟨i, r, t, sw, hti, hi, ht, hne, hsw, k1, k2, k3, k4, k5⟩
    · exact ⟨Nat.le_succ_of_le ih.1, fun h => by have := ih.1; omega⟩
    · refine ⟨by rw [k3, List.length_append]; have := ih.1; show _ + 1 ≤ _; omega, fun hc _ => ?_⟩
      rw [k3, List.length_append] at hc
      change c + 1 ≤ s.ps.length + 1 at hc
      have e : s.ps.length = c := by have := ih.1; omega
      refine ⟨r, ?_, by rw [k4]; rfl⟩
      rw [Nat.add_sub_cancel, k2 c, if_neg (by omega), hsw]
      have hil : i < s.rows.length := Go.Hn.lt_of_some hi
      have htl : s.ps.length < s.rows.length := Go.Hn.lt_of_some ht
      split
      · next h => rw [← e, ← h]; exact hi
      · rw [← e]; exact List.getElem?_set_self (by rw [List.length_set]; exact htl)
def MulB (R C K : Nat) (L : List Int) (b : Int) : Prop := 0 < b ∧ (List.length (zA b.natAbs)) ≤ (K + 1) * 2 ^ R ∧ C ≤ R ∧ ∃ q : List Nat, q.length = C ∧ (∀ x ∈ q, x < R) ∧ q.Nodup ∧ b = ((mn (mf C L) q (List.range C).reverse).natAbs : Int)
theorem bQ {R C K : Nat} {L : List Int} {rs : List Row} {ps : List Nat} {last : Int} {odd : Bool} (h : RunI ⟨rowsOf R C L, [], 1, false⟩ C K R C rs ps last odd) (hp : ps.length = C) : MulB R C K L ((last.natAbs : Nat) : Int) ∧ (0 < C → ∃ r, rs[C - 1]? = some r ∧ cf r.2 (C - 1) = last) := by
  obtain ⟨q, hq⟩ := BI.all (BI.start (mf C L) (R := R) (C := C) (L := L) fun _ _ _ _ => rfl) h.run (Nat.le_refl _)
  have hps : ps = List.range C := hq.psl.eq_of_length_le (by rw [List.length_range]; exact Nat.le_of_eq hp.symm)
  have hl := hq.hl
  have h0 := hq.h0
  change last = mn (mf C L) (q.take ps.length).reverse ps.reverse at hl
  change last ≠ 0 at h0
  have hR : ps.length ≤ R := hq.hps
  refine ⟨⟨by omega, ?_, by omega, (q.take ps.length).reverse, ?_, fun x hx => hq.lt x (List.mem_of_mem_take (List.mem_reverse.1 hx)), (List.reverse_perm _).nodup_iff.2 (hq.nd.sublist (List.take_sublist _ _)), ?_⟩, fun hC => ?_⟩
  · rw [Int.natAbs_natCast]
    have h1 := h.hl
    have h2 : (K + 1) * 2 ^ ps.length ≤ (K + 1) * 2 ^ R := Nat.mul_le_mul_left _ (Nat.pow_le_pow_right (by decide) hR)
    omega
  · rw [List.length_reverse, List.length_take, hq.hq]; omega
  · rw [← hps, ← hl]
  · obtain ⟨r, hr, e⟩ := (run_last (s0 := ⟨rowsOf R C L, [], 1, false⟩) rfl h.run).2 (Nat.le_of_eq hp.symm) hC
    change (rs.map Prod.snd)[C - 1]? = some r at hr
    rw [List.getElem?_map] at hr
    cases h1 : rs[C - 1]? with
    | none => rw [h1] at hr; cases hr
    | some r1 =>
      rw [h1] at hr
      obtain rfl := Option.some.inj hr
      exact ⟨r1, rfl, e⟩
end Go.Tr
namespace Go.Dt
open RowF
def ip (n : Nat) (u v : Nat → Int) : Int := sm n fun k => u k * v k
def gram (n : Nat) (A : MatF) : MatF := fun i j => ip n (A i) (A j)
def rl : Nat → List Nat
 | 0 => []
 | t + 1 => t :: rl t
def gd (n : Nat) (A : MatF) (t : Nat) : Int := mn (gram n A) (rl t) (rl t)
end Go.Dt
namespace Go.Tr
open Go.Nt Go.Pz Go.Mz Go.En Go.Hn Go.Hp Go.Dt
theorem mn_perm_abs (A : MatF) {cs l1 l2 : List Nat} (h : l1.Perm l2) : ∀ pre : List Nat, (mn A (pre ++ l1) cs).natAbs = (mn A (pre ++ l2) cs).natAbs := by
  induction h with
  | nil => exact fun pre => rfl
  | cons x h ih =>
    intro pre
    have := ih (pre ++ [x])
    rw [List.append_assoc, List.append_assoc] at this; exact this
  | swap x y l =>
    intro pre
    have hlen : (pre ++ y :: x :: l).length = (pre ++ x :: y :: l).length := by simp
    have hp : pre.length + 1 < (pre ++ x :: y :: l).length := by simp only [List.length_append, List.length_cons]; omega
    have hR := qx (pre ++ x :: y :: l).length
    have ea : ∀ (a b : Nat), (pre ++ a :: b :: l).getD pre.length 0 = a := fun a b => by
      rw [List.getD, List.getElem?_append_right (Nat.le_refl _), Nat.sub_self]; rfl
    have eb : ∀ (a b : Nat), (pre ++ a :: b :: l).getD (pre.length + 1) 0 = b := fun a b => by
      rw [List.getD, List.getElem?_append_right (by omega), show pre.length + 1 - pre.length = 1 by omega]; rfl
    have ec : ∀ (i : Nat), i ≠ pre.length → i ≠ pre.length + 1 → (pre ++ y :: x :: l).getD i 0 = (pre ++ x :: y :: l).getD i 0 := fun i h1 h2 => by
      rw [List.getD, List.getD]
      rcases Nat.lt_or_ge i pre.length with h3 | h3
      · rw [List.getElem?_append_left h3, List.getElem?_append_left h3]
      · obtain ⟨d, rfl⟩ : ∃ d, i = pre.length + (d + 2) := ⟨i - pre.length - 2, by omega⟩
        rw [List.getElem?_append_right (by omega), List.getElem?_append_right (by omega), Nat.add_sub_cancel_left]; rfl
    have e1 : sub A (pre ++ x :: y :: l) cs = setr (setr (sub A (pre ++ x :: y :: l) cs) pre.length (sub A (pre ++ x :: y :: l) cs pre.length)) (pre.length + 1) (sub A (pre ++ x :: y :: l) cs (pre.length + 1)) := by rw [RowF.set_self, RowF.set_self]
    have e2 : sub A (pre ++ y :: x :: l) cs = setr (setr (sub A (pre ++ x :: y :: l) cs) pre.length (sub A (pre ++ x :: y :: l) cs (pre.length + 1))) (pre.length + 1) (sub A (pre ++ x :: y :: l) cs pre.length) := by
      funext i j
      unfold setr
      by_cases h2 : i = pre.length + 1
      · rw [if_pos h2, h2]; unfold sub; rw [eb, ea]
      · rw [if_neg h2]
        by_cases h1 : i = pre.length
        · rw [if_pos h1, h1]; unfold sub; rw [ea, eb]
        · rw [if_neg h1]; unfold sub; rw [ec i h1 h2]
    unfold mn
    rw [hlen, e2, hR.swap _ (by omega) hp (by omega), ← e1, Int.natAbs_neg]
  | trans _ _ ih1 ih2 => exact fun pre => (ih1 pre).trans (ih2 pre)
theorem mn_abs {A : MatF} {cs l1 l2 : List Nat} (h : l1.Perm l2) : (mn A l1 cs).natAbs = (mn A l2 cs).natAbs := mn_perm_abs A h []
theorem getD_rng {n j : Nat} (h : j < n) : (List.range n).getD j 0 = j := by rw [List.getD, List.getElem?_range h]; rfl
/-! ### fewer pivots than columns -/
end Go.Tr
namespace Go.Gs
open Go.En Go.Pz Go.Nt Go.Mz Go.Hp Go.Dt Go.Br
theorem bstep_ex (s : BS) (c : Nat) : ∃ s', BStep c s s' := by
 by_cases h : ∀ (j : Nat) (r : List Int), s.ps.length ≤ j → s.rows[j]? = some r → cf r c = 0
 ·exact ⟨s, .inl ⟨rfl, h⟩⟩
 ·obtain ⟨i, r, h1, h2, h3⟩ : ∃ (i : Nat) (r : List Int), s.ps.length ≤ i ∧ s.rows[i]? = some r ∧ cf r c ≠ 0 :=
   Classical.byContradiction fun hn => h fun j r g1 g2 => Classical.byContradiction fun g3 => hn ⟨j, r, g1, g2, g3⟩
  have hi := jh h2
  obtain ⟨t, ht⟩ : ∃ t, s.rows[s.ps.length]? = some t := ⟨_, List.getElem?_eq_getElem (by omega)⟩
  obtain ⟨sw, hsw⟩ : ∃ sw, sw = if i = s.ps.length then s.rows else (s.rows.set i t).set s.ps.length r := ⟨_, rfl⟩
  have hl : sw.length = s.rows.length := by rw [hsw]; split <;> simp
  refine ⟨⟨sw.mapIdx fun j row => if s.ps.length < j then clrL r row c s.last else row, s.ps ++ [c], cf r c, if i = s.ps.length then s.odd else !s.odd⟩, .inr ⟨i, r, t, sw, h1, h2, ht, h3, hsw, ?_, fun j => ?_, rfl, rfl, rfl⟩⟩
  ·rw [List.length_mapIdx, hl]
  ·rw [List.getElem?_mapIdx]
   split
   ·rename_i e; simp [e]
   ·rename_i e; simp [e]
theorem brun_ex (s0 : BS) : ∀ c, ∃ s, BRun s0 c s
  | 0 => ⟨s0, .zero⟩
  | c + 1 => by
    obtain ⟨s, h⟩ := brun_ex s0 c
    obtain ⟨s', h'⟩ := bstep_ex s c
    exact ⟨s', h.step h'⟩
theorem bi_ex (R C : Nat) (L : List Int) : ∃ s q, BI (mf C L) R C C s q ∧ s.ps = pivs (mf C L) R C := by
 have h0 := BI.start (mf C L) (R := R) (C := C) (L := L) fun i k _ _ => rfl
 obtain ⟨s, h⟩ := brun_ex ⟨rowsOf R C L, [], 1, false⟩ C
 obtain ⟨q, hq⟩ := h0.all h (Nat.le_refl _)
 exact ⟨s, q, hq, h0.pivs rfl h (Nat.le_refl _)⟩
def DepR (R C : Nat) (A : MatF) : Prop := ∃ (i : Nat) (c : Nat → Int), i < R ∧ c i ≠ 0 ∧ ∀ k, k < C → (sm R fun a => c a * A a k) = 0
theorem rank_dep {R C : Nat} {L : List Int} (h : (pivs (mf C L) R C).length < R) : DepR R C (mf C L) := by
 obtain ⟨s, q, hb, hp⟩ := bi_ex R C L
 rw [← hp] at h
 obtain ⟨r, hr⟩ : ∃ r, s.rows[s.ps.length]? = some r := ⟨_, List.getElem?_eq_getElem (by rw [hb.hR]; exact h)⟩
 obtain ⟨rs, hrs⟩ : ∃ rs, rs = (q.take s.ps.length).reverse := ⟨_, rfl⟩
 obtain ⟨i, hi⟩ : ∃ i, i = q.getD s.ps.length 0 := ⟨_, rfl⟩
 have hqi : q[s.ps.length]? = some i := by rw [hi]; exact jK (by rw [hb.hq]; exact h)
 have hiR : i < R := hb.lt i (List.mem_of_getElem? hqi)
 have hno : ∀ p, p < rs.length → rs.getD p 0 ≠ i := fun p hp e => by
  have h1 := vL hp
  rw [e, hrs, List.mem_reverse] at h1
  have h2 := List.getElem_of_mem h1
  obtain ⟨p', hp', he⟩ := h2
  rw [List.length_take] at hp'
  rw [List.getElem_take] at he
  have h3 := hb.nd
  have h4 : q[s.ps.length]'(by rw [hb.hq]; exact h) = i := by
   rw [List.getElem?_eq_getElem (by rw [hb.hq]; exact h)] at hqi; exact Option.some.inj hqi
  exact List.pairwise_iff_getElem.1 h3 p' s.ps.length (by omega) (by rw [hb.hq]; exact h) (by omega) (he.trans h4.symm)
 have hD : mn (mf C L) rs s.ps.reverse ≠ 0 := by rw [hrs, ← hb.hl]; exact hb.h0
 obtain ⟨D, hDe⟩ : ∃ D, D = mn (mf C L) rs s.ps.reverse := ⟨_, rfl⟩
 obtain ⟨e, he⟩ : ∃ e, e = ec (mf C L) rs s.ps.reverse i := ⟨_, rfl⟩
 have hz : ∀ k, k < C → D * mf C L i k + (sm rs.length fun r => e r * mf C L (rs.getD r 0) k) = 0 := fun k hk => by
  have h1 := hb.row s.ps.length r (Nat.le_refl _) hr k hk
  rw [hb.zero s.ps.length r (Nat.le_refl _) hr k hk, ← hrs, ← hi, mn_exp, ← hDe, ← he] at h1
  exact h1.symm
 refine ⟨i, fun a => (if a = i then D else 0) + sm rs.length fun r => if rs.getD r 0 = a then e r else 0, hiR, ?_, fun k hk => ?_⟩
 ·show (if i = i then D else 0) + _ ≠ 0
  rw [if_pos rfl, vQ fun p hp => if_neg (hno p hp), hDe]
  simpa using hD
 ·have h1 : ∀ a, ((if a = i then D else 0) + sm rs.length fun r => if rs.getD r 0 = a then e r else 0) * mf C L a k = (if a = i then D * mf C L a k else 0) + sm rs.length fun r => if rs.getD r 0 = a then e r * mf C L a k else 0 := fun a => by
   rw [Int.add_mul, Int.mul_comm (sm _ _), ← bO]
   congr 1
   ·split <;> simp
   ·refine zk fun p _ => ?_
    split
    ·rw [Int.mul_comm]
    ·simp
  rw [show (sm R fun a => ((if a = i then D else 0) + sm rs.length fun r => if rs.getD r 0 = a then e r else 0) * mf C L a k) = sm R fun a => (if a = i then D * mf C L a k else 0) + sm rs.length fun r => if rs.getD r 0 = a then e r * mf C L a k else 0 from zk fun a _ => h1 a]
  rw [sm_add, jc hiR (fun a _ ha => if_neg ha), if_pos rfl, sm_swap]
  rw [show (sm rs.length fun j => sm R fun a => if rs.getD j 0 = a then e j * mf C L a k else 0) = sm rs.length fun r => e r * mf C L (rs.getD r 0) k from zk fun p hp => by
   have hpR : rs.getD p 0 < R := by
    have h2 := vL hp
    rw [hrs, List.mem_reverse] at h2
    rw [← hrs] at h2
    exact hb.lt _ (List.mem_of_mem_take h2)
   rw [jc hpR fun a _ ha => if_neg fun e => ha e.symm, if_pos rfl]]
  exact hz k hk
theorem dep_rank {R C : Nat} {L : List Int} (h : DepR R C (mf C L)) : (pivs (mf C L) R C).length < R := by
 obtain ⟨i0, c, hi0, hc, hz⟩ := h
 obtain ⟨s, q, hb, hp⟩ := bi_ex R C L
 rw [← hp]
 refine Classical.byContradiction fun hge => ?_
 have hps : s.ps.length = R := by have := hb.hps; omega
 have h1 : mn (mf C L) (q.take s.ps.length).reverse s.ps.reverse ≠ 0 := by rw [← hb.hl]; exact hb.h0
 have h2 : mn (mf C L) (List.range R) s.ps.reverse ≠ 0 := fun e => by
  have h3 := Go.Tr.mn_abs (A := mf C L) (cs := s.ps.reverse) (show (q.take s.ps.length).reverse.Perm (List.range R) from by
   rw [hps, List.take_of_length_le (by rw [hb.hq]; exact Nat.le_refl _)]
   exact (List.reverse_perm q).trans hb.pm)
  rw [e] at h3
  exact h1 (Int.natAbs_eq_zero.1 h3)
 obtain ⟨N, hN⟩ : ∃ N : MatF, N = fun i j => mf C L i (s.ps.reverse.getD j 0) := ⟨_, rfl⟩
 have h4 : det R N ≠ 0 := fun e => h2 (by
  show det (List.range R).length _ = 0
  rw [List.length_range, ← e, hN]
  exact qB fun i j hi _ => by unfold Go.Dt.sub; rw [Go.Tr.getD_rng hi])
 have hF := qx R
 have h5 := hF.sum N hi0 c (fun k => N k) R
 have h6 : (det R (setr N i0 fun j => sm R fun k => c k * N k j)) = 0 := hF.zero hi0 fun j hj => by
  rw [RowF.set_at, hN]
  have hjm := vL (l := s.ps.reverse) (j := j) (by rw [List.length_reverse, hps]; exact hj)
  rw [List.mem_reverse] at hjm
  have h7 := hb.psl.subset hjm
  exact hz _ (List.mem_range.1 h7)
 rw [h6, jc hi0 fun k hk hne => by
  rw [hF.eqr (A := setr N i0 (N k)) hi0 hk (fun e => hne e.symm) fun j _ => by rw [RowF.set_at, RowF.set_ne _ hne], Int.mul_zero], RowF.set_self] at h5
 rcases Int.mul_eq_zero.1 h5.symm with h | h
 ·exact hc h
 ·exact h4 h
theorem dotQ_add (f h g : Nat → Rat) (c : Rat) : ∀ n, dotQ (fun i => f i + c * h i) g n = dotQ f g n + c * dotQ h g n
  | 0 => by show (0 : Rat) = 0 + c * 0; grind
  | n + 1 => by
    show dotQ (fun i => f i + c * h i) g n + (f n + c * h n) * g n = dotQ f g n + f n * g n + c * (dotQ h g n + h n * g n)
    rw [dotQ_add f h g c n]; grind
theorem dotQ_sum (c : Nat → Rat) (F : Nat → Nat → Rat) (g : Nat → Rat) (C : Nat) : ∀ R, dotQ (fun k => dotQ c (fun a => F a k) R) g C = dotQ c (fun a => dotQ (F a) g C) R
  | 0 => by
    show dotQ (fun _ => (0 : Rat)) g C = 0
    have h := jW (fun _ => (0 : Rat)) (fun _ => (0 : Rat)) g 1 C
    have e : (fun i : Nat => (fun _ => (0 : Rat)) i - 1 * (fun _ => (0 : Rat)) i) = fun _ => (0 : Rat) := by funext i; grind
    rw [e] at h; grind
  | R + 1 => by
    show dotQ (fun k => dotQ c (fun a => F a k) R + c R * F R k) g C = dotQ c (fun a => dotQ (F a) g C) R + c R * dotQ (F R) g C
    rw [dotQ_add, dotQ_sum c F g C R]
theorem av (e : Nat → Int) (f : Nat → Int) : ∀ n, dotQ (fun a => ((e a : Int) : Rat)) (fun a => ((f a : Int) : Rat)) n = ((sm n fun a => e a * f a : Int) : Rat)
  | 0 => rfl
  | n + 1 => by
    show dotQ _ _ n + _ = ((sm n _ + e n * f n : Int) : Rat)
    rw [av e f n, Rat.intCast_add, Rat.intCast_mul]
theorem indep {C R : Nat} {L : List Int} (hs : ∀ a, a < R → gsS C L a ≠ 0) {c : Nat → Rat} (hz : ∀ k, k < C → dotQ c (fun a => qf (frow C L a) k) R = 0) : ∀ n, n ≤ R → ∀ a, R - n ≤ a → a < R → c a = 0
  | 0, _, a, h1, h2 => absurd h2 (by omega)
  | n + 1, hn, a, h1, h2 => by
    by_cases e : a = R - 1 - n
    · subst e
      have ih := indep hs hz n (by omega)
      have h3 := dotQ_sum c (fun a k => qf (frow C L a) k) (qf (gsY C L (R - 1 - n))) C R
      have h4 : dotQ (fun k => dotQ c (fun a => qf (frow C L a) k) R) (qf (gsY C L (R - 1 - n))) C = 0 := by
        rw [vm (f' := fun _ => 0) (g' := qf (gsY C L (R - 1 - n))) hz fun _ _ => rfl]
        have h := jW (fun _ => (0 : Rat)) (fun _ => (0 : Rat)) (qf (gsY C L (R - 1 - n))) 1 C
        have e : (fun i : Nat => (fun _ => (0 : Rat)) i - 1 * (fun _ => (0 : Rat)) i) = fun _ => (0 : Rat) := by funext i; grind
        rw [e] at h; grind
      rw [h4] at h3
      have h5 : ∀ m, m ≤ R → dotQ c (fun a => dotQ (qf (frow C L a)) (qf (gsY C L (R - 1 - n))) C) m = if R - 1 - n < m then c (R - 1 - n) * gsS C L (R - 1 - n) else 0 := fun m => by
        induction m with
        | zero => intro _; rfl
        | succ m ihm =>
          intro hm
          show dotQ c _ m + c m * dotQ (qf (frow C L m)) _ C = _
          rw [ihm (by omega)]
          rcases Nat.lt_or_ge (R - 1 - n) m with h | h
          · rw [if_pos h, if_pos (by omega), ih m (by omega) (by omega)]; grind
          · rw [if_neg (by omega), frow_dot hs h h2]
            by_cases e : R - 1 - n = m
            · subst e; rw [if_pos rfl, if_pos (by omega)]; grind
            · rw [if_neg e, if_neg (by omega)]; grind
      rw [h5 R (Nat.le_refl _), if_pos h2] at h3
      rcases Rat.mul_eq_zero.1 h3.symm with h | h
      · exact h
      · exact absurd h (hs _ h2)
    · exact indep hs hz n (by omega) a (by omega) h2
theorem gs_rep {C : Nat} {L : List Int} : ∀ i, (∀ b, b < i → ∃ m : Nat → Rat, m b = 1 ∧ (∀ a, b < a → m a = 0) ∧ ∀ N, b < N → ∀ k, k < C → qf (gsY C L b) k = dotQ m (fun a => qf (frow C L a) k) N)
  | 0 => fun b h => absurd h (Nat.not_lt_zero _)
  | i + 1 => fun b hb => by
    have ih := gs_rep (C := C) (L := L) i
    by_cases e : b < i
    · exact ih b e
    · obtain rfl : b = i := by omega
      have hX : ∀ j, j ≤ b → ∃ m : Nat → Rat, m b = 1 ∧ (∀ a, b < a → m a = 0) ∧ ∀ N, b < N → ∀ k, k < C → qf (gsX C (gsL C L b) (frow C L b) j) k = dotQ m (fun a => qf (frow C L a) k) N := by
        intro j
        induction j with
        | zero =>
          intro _
          refine ⟨fun a => if a = b then 1 else 0, if_pos rfl, fun a ha => if_neg (by omega), fun N hN k _ => ?_⟩
          have h5 : ∀ m, dotQ (fun a => if a = b then (1 : Rat) else 0) (fun a => qf (frow C L a) k) m = if b < m then qf (frow C L b) k else 0 := fun m => by
            induction m with
            | zero => rfl
            | succ m ihm =>
              show dotQ _ _ m + (if m = b then (1 : Rat) else 0) * qf (frow C L m) k = _
              rw [ihm]
              by_cases e : m = b
              · subst e; rw [if_neg (by omega), if_pos rfl, if_pos (by omega)]; grind
              · rw [if_neg e]
                by_cases h : b < m
                · rw [if_pos h, if_pos (by omega)]; grind
                · rw [if_neg h, if_neg (by omega)]; grind
          rw [h5 N, if_pos hN]; rfl
        | succ j ihj =>
          intro hj
          obtain ⟨m, g1, g2, g3⟩ := ihj (by omega)
          obtain ⟨m', g1', g2', g3'⟩ := ih j (by omega)
          obtain ⟨c, hc⟩ : ∃ c, c = dotQ (qf (gsX C (gsL C L b) (frow C L b) j)) (qf (gsY C L j)) C / gsS C L j := ⟨_, rfl⟩
          refine ⟨fun a => m a - c * m' a, by show m b - c * m' b = 1; rw [g1, g2' b (by omega)]; grind, fun a ha => by show m a - c * m' a = 0; rw [g2 a ha, g2' a (by omega)]; grind, fun N hN k hk => ?_⟩
          rw [jW, ← g3 N hN k hk, ← g3' N (by omega) k hk, hc]
          show qf (lsQ _ _ _) k = _
          rw [lsQ_at (by rw [vV, qc]; exact hk), ap (by omega)]; rfl
      exact hX b (Nat.le_refl _)
theorem q_den (q : Rat) (hd : (q.den : Rat) ≠ 0) : q * (q.den : Rat) = (q.num : Rat) := by
 have := Rat.div_mul_cancel (a := (q.num : Rat)) (b := (q.den : Rat)) hd
 rw [← this]
 have e := Rat.num_divInt_den q
 rw [Rat.divInt_eq_div] at e
 rw [show ((q.den : Int) : Rat) = (q.den : Rat) from rfl] at e
 rw [e]
theorem xv (m : Nat → Rat) : ∀ n, ∃ N : Int, N ≠ 0 ∧ ∃ e : Nat → Int, ∀ a, a < n → (N : Rat) * m a = ((e a : Int) : Rat)
  | 0 => ⟨1, by decide, fun _ => 0, fun a h => absurd h (Nat.not_lt_zero _)⟩
  | n + 1 => by
    obtain ⟨N, hN, e, he⟩ := xv m n
    refine ⟨N * (m n).den, Int.mul_ne_zero hN (xp _), fun a => if a = n then N * (m n).num else e a * (m n).den, fun a ha => ?_⟩
    have hd : ((m n).den : Rat) ≠ 0 := by
      have := (m n).den_nz
      intro h; exact this (Rat.natCast_eq_zero_iff.1 h)
    by_cases h : a = n
    · subst h
      show _ = ((if a = a then N * (m a).num else _ : Int) : Rat)
      rw [if_pos rfl, Rat.intCast_mul, Rat.intCast_mul]
      have hq : m a * ((m a).den : Rat) = ((m a).num : Rat) := q_den (m a) hd
      rw [show (((m a).den : Int) : Rat) = ((m a).den : Rat) from rfl, ← hq]; grind
    · show _ = ((if a = n then _ else e a * (m n).den : Int) : Rat)
      rw [if_neg h, Rat.intCast_mul, Rat.intCast_mul, ← he a (by omega)]; grind
theorem rank_gs {R C : Nat} {L : List Int} : (pivs (mf C L) R C).length < R ↔ ∃ i, i < R ∧ gsS C L i = 0 := by
  constructor
  · intro h
    obtain ⟨i0, c, hi0, hc, hz⟩ := rank_dep h
    refine Classical.byContradiction fun hno => ?_
    have hs : ∀ a, a < R → gsS C L a ≠ 0 := fun a ha e => hno ⟨a, ha, e⟩
    have h1 := indep hs (c := fun a => ((c a : Int) : Rat)) (fun k hk => by
      rw [vm (f' := fun a => ((c a : Int) : Rat)) (g' := fun a => ((mf C L a k : Int) : Rat)) (fun _ _ => rfl) fun a _ => bg hk, av, hz k hk]; rfl) R (Nat.le_refl _) i0 (by omega) hi0
    exact hc (Rat.intCast_eq_zero_iff.1 h1)
  · rintro ⟨i, hi, hz⟩
    obtain ⟨m, g1, g2, g3⟩ := gs_rep (C := C) (L := L) (i + 1) i (by omega)
    obtain ⟨N, hN, e, he⟩ := xv m R
    refine dep_rank ⟨i, e, hi, fun h0 => ?_, fun k hk => ?_⟩
    · have h1 := he i hi
      rw [g1, h0] at h1
      have : (N : Rat) = 0 := by have h2 : ((0 : Int) : Rat) = 0 := rfl; rw [h2] at h1; grind
      exact hN (Rat.intCast_eq_zero_iff.1 this)
    · have h1 := eP (f := qf (gsY C L i)) hz k hk
      rw [g3 R hi k hk] at h1
      have h2 : dotQ (fun a => ((e a : Int) : Rat)) (fun a => ((mf C L a k : Int) : Rat)) R = (N : Rat) * dotQ m (fun a => qf (frow C L a) k) R := by
        have h3 : ∀ n, n ≤ R → dotQ (fun a => ((e a : Int) : Rat)) (fun a => ((mf C L a k : Int) : Rat)) n = (N : Rat) * dotQ m (fun a => qf (frow C L a) k) n := fun n => by
          induction n with
          | zero => intro _; show (0 : Rat) = (N : Rat) * 0; grind
          | succ n ih =>
            intro hn
            show dotQ _ _ n + ((e n : Int) : Rat) * ((mf C L n k : Int) : Rat) = (N : Rat) * (dotQ m _ n + m n * qf (frow C L n) k)
            rw [ih (by omega), ← he n (by omega), bg hk]; grind
        exact h3 R (Nat.le_refl _)
      rw [h1, av] at h2
      exact Rat.intCast_eq_zero_iff.1 (by rw [h2]; grind)
end Go.Gs
namespace Go.En
open Go.RowKit Go.Nt Go.Pz
section
variable {E : Env} {P : Program} {Γ : Ctx} {M : Mem}
theorem All2.conv {α : Type} {f g : α → VP} {w : World} {F : Blk} : ∀ {xs : List α} {Us : List VP} {vs : List Value}, (∀ x ∈ xs, ∀ v, (f x).h w F v → (g x).h w F v) → All2 (xs.map f ++ Us) w F vs → All2 (xs.map g ++ Us) w F vs
 | [], Us, vs, _, h => h
 | x :: xs, Us, v :: vs, hc, h => ⟨hc x (by simp) v h.1, All2.conv (fun y hy => hc y (by simp [hy])) h.2⟩
 | _ :: _, _, [], _, h => h.elim
end
end Go.En
namespace Go.En
open Go.RowKit Go.Nt Go.Pz
section
variable {E : Env} {P : Program} {Γ : Ctx} {M : Mem} {ops : Array Oper} {Q : Exit → Act → World → Prop} {rest : List Oper}
theorem Has.wk {x : Operand} {S S' : VP} (h : Has E Γ M x S) (k : ∀ w F v, S.h w F v → S'.h w F v) : Has E Γ M x S' := fun a w F s => k _ _ _ (h a w F s)
theorem OK1.wk {o : Oper} {S S' : VP} (h : OK1 E P Γ M o S) (k : ∀ w F v, S.h w F v → S'.h w F v) : OK1 E P Γ M o S' := fun a w F s K Q hK => h a w F s K Q fun v w' F' ad hv => hK v w' F' ad (k _ _ _ hv)
theorem OKY.wk {o : Oper} {S S' : VP} (h : OKY E P Γ M o S) (k : ∀ w F v, S.h w F v → S'.h w F v) : OKY E P Γ M o S' := fun a w F s => by
 obtain ⟨v, h1, h2⟩ := h a w F s
 exact ⟨v, h1, k _ _ _ h2⟩
theorem Cv.memEq {M' : Mem} (h : M = M') : Cv E Γ M Γ M' := h ▸ Cv.refl
theorem Cv.winRow {t b n i : Nat} {xs ys : List (Bool × List Nat)} (ht : look Γ t = some (zu b 0 n n)) (hM : M[i]? = some (some b, zB (xs.flatMap zc))) (hy : xs = ys) (hl : ys.length = n) :
  Cv E Γ M ((t, isGr (⟨some b, n, []⟩ : Gr (Bool × List Nat)) ys.length) :: Γ) (M.set i (grMK zc ⟨some b, n, []⟩ ys)) := by
 subst hy
 have h := Cv.winGrK (E := E) (fk := zc) (ys := xs) ht hM (by omega) hl (by rw [List.take_of_length_le (by omega)])
 rwa [List.drop_eq_nil_of_le (by omega)] at h
end
end Go.En
