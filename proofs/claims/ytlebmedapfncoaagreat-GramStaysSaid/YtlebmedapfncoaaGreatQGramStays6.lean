/- The law GramStays, as it is stated, of the given program, for every input; no condition. -/
import Derived.Test.YtlebmedapfncoaaGreatQGramStays5
import Derived.Deep.SlicePairs
import Derived.Test.YtlebmedapfncoaaGreatRows
namespace Go.Proofs.YtlebmedapfncoaaGreat
open Go.En Go.RowKit
set_option maxRecDepth 10000
set_option maxHeartbeats 4000000
open Go.Nt
open Go.Pz
open Go.Mz
open Go.Hn
open Go.Hp
open Go.Dt
theorem sl_IndexFuncZ {xs : List (Bool × List Nat)} {K : Nat} (hx : Bd (vals xs) K) : Ctr Tryz.prog 63 [SlK 2 zc xs, isFun (ι := { p : Bool × List Nat // (List.length (words (val p.2))) ≤ K }) Tryz.prog (fun p => [Flat (zc p.1)]) (fun p => isB (decide (zv p.1.1 p.1.2 ≠ 0)))] (isI (fir xs.length (cf (vals xs)))) := by
 refine Ctr.i Tryz.func63 rfl Tryz.ntmps63 fun w0 F0 => .w [0,1] rfl (.fact (Has.lenLt (Has.t (t := 0) rfl)) fun lt0 => .sr fun k1 => st (.as (.cI 0 rfl)) rfl (nkQ k1 (.sq fun k2 => .sr fun k3 => stM rfl (st (.len sl22 (.t rfl)) rfl (st (.mv (.cI 0 rfl)) rfl (nkQ k3 (.block (.loopF [0,1,7] (fun (z : { i : Nat // i ≤ xs.length ∧ ∀ j, j < i → cf (vals xs) j = 0 }) => match z with | ⟨i, hI⟩ => [(8, isI (i : Int))]) (fun M => fun (z : { i : Nat // i ≤ xs.length ∧ ∀ j, j < i → cf (vals xs) j = 0 }) => match z with | ⟨i, hI⟩ => M) (fun (z : { i : Nat // i ≤ xs.length ∧ ∀ j, j < i → cf (vals xs) j = 0 }) => match z with | ⟨i, hI⟩ => xs.length - i) (⟨0, Nat.zero_le _, fun j hj => absurd hj (Nat.not_lt_zero _)⟩) (Cv.mem (.c 8 rfl ?_ (.l [0,1,7] rfl)) ?_) ?_))))))))
 ·rfl
 ·rfl
 rintro ⟨i, hi, hq⟩ K4 hK4
 refine .w [8,0,1,7] rfl (.sr fun k5 => st (.ltI (.t rfl) (.t rfl)) rfl (nkQ k5 (.sq fun k6 => .cd rfl (fun hc1 => ?_) (fun hc1 => ?_))))
 ·refine .skip (.nk k6 (.sq fun k7 => .block (.sr fun k8 => stM rfl (stM rfl (nkQ k8 (.sr fun k9 => stM rfl (stM rfl (stM rfl (st (.ixK sl22 ty33 (.t rfl) (.t rfl) zc_len (by omega) (getD_some (d := (false, [])) (by omega))) rfl (st (.loadP (.t rfl) ty33 rfl (Ss' := [_, _]) rfl) rfl (st (.eq (.callV ⟨xs.getD i (false, []), hx.raw i⟩ (.t rfl) (.cons (.t rfl) .nil)) ((show _ = isB (decide (cf (vals xs) i ≠ 0)) from isB_eq (by rw [cf_vals])))) rfl (nkQ k9 (.cd rfl (fun hc2 => ?_) (fun hc2 => ?_))))))))))))))
  ·have HQ : cf (vals xs) i ≠ 0 := hc2
   refine .sr fun k10 => stM rfl (stM rfl (nkQ k10 (.ret (.blr (.thr (.thr (.blr (.thr (rt1 (.inl rfl) Tryz.results63 rfl (.tmp (Has.t' rfl ?_) .nil))))))))))
   all_goals (exact isI_eq (fir_at (by omega) hq HQ).symm)
  ·have HQ : ¬ cf (vals xs) i ≠ 0 := hc2
   refine .skip (.bln (.nk k7 (.region (st (.addI (.t rfl) (.cI 1 rfl) (by omega) (by omega)) rfl (stM rfl (nl (.thn ?_)))))))
   refine hK4 (⟨i + 1, by omega, fun j hj => by rcases Nat.lt_or_ge j i with h | h; exact hq j h; obtain rfl : j = i := (by omega); exact Classical.not_not.1 HQ⟩) _ _ ?_ (Cv.mem (.c 8 rfl ?_ (.l [0,1,7] rfl)) ?_)
   ·show xs.length - (i + 1) < xs.length - i; omega
   ·exact isI_eq (by omega)
   ·rfl
 ·refine .exit (.the (.the (.blh (.nk k2 (.cv (Cv.wk .nil) (.sr fun k11 => st (.as (.cI (-1) rfl)) rfl (nkQ k11 (.ret (rt1 (.inl rfl) Tryz.results63 rfl (.tmp (Has.t' rfl ?_) .nil))))))))))
  all_goals (exact isI_eq (fir_all fun j hj => hq j (by omega)).symm)
theorem hnf_first_1 {m : Bool} {xs : List Nat} (hx : (List.length (words (val xs))) < 4294700000) : Ctr Tryz.prog 75 [Flat [isB m, isWords xs]] (isB (decide (zv m xs ≠ 0))) := by
 refine Ctr.i Tryz.func75 rfl Tryz.ntmps75 fun w0 F0 => .w [0] rfl (.fact (Has.okZ (Has.t (t := 0) rfl)) fun okz0 => .sr fun k1 => .box (.t rfl) rfl fun b1 => st (.as (.cB false)) rfl (nkQ k1 (.sr fun k2 => st (.load (.t rfl) (i := 0) rfl ty33 rfl (Ss' := [_, _]) rfl) rfl (st (.call (zint_Sign (by omega)) (.cons (.t rfl) .nil)) rfl (st (.neI (.t rfl) (.cI 0 rfl)) rfl (stM rfl (nkQ k2 (.w [2] rfl (.ret (rt1 (.inl rfl) Tryz.results75 rfl (.tmp (Has.t' rfl ?_) .nil)))))))))))
 all_goals (exact isB_eq (by simp [sgn_eq0]))
theorem hnf_first {R C i K : Nat} {xs : List (Bool × List Nat)} (hx : Bd (vals xs) K) (hK : K ≤ 400000000) (hR : R ≤ 64) (hC : C ≤ 64) (hl : xs.length = R * C) (hi : i < R) : Ctr Tryz.prog 53 [isM (R : Int) (C : Int) xs, isI (i : Int)] (isI (fir C ((mf C (vals xs)) i))) := by
 refine Ctr.i Tryz.func53 rfl Tryz.ntmps53 fun w0 F0 => .w [0,1] rfl (.fact (Has.rngI (Has.t (t := 1) rfl)) fun lt1 => ?_)
 have hRC := side_le hR hC
 have hpl1 : (i + 1) * C ≤ R * C := Nat.mul_le_mul_right _ hi
 have hpl2 : (i + 1) * C = i * C + C := Nat.succ_mul _ _
 have hc1 : ((i : Int) * (C : Int)) = ((i * C : Nat) : Int) := (Int.natCast_mul i C).symm
 have hc2 : (((i : Int) + 1) * (C : Int)) = (((i + 1) * C : Nat) : Int) := by rw [Int.natCast_mul]; rfl
 obtain ⟨ys, hys⟩ : ∃ ys, ys = (xs.take ((i + 1) * C)).drop (i * C) := ⟨_, rfl⟩
 have hyl : ys.length = C := by rw [hys, List.length_drop, List.length_take]; omega
 have hyv : ∀ k, k < C → cf (vals ys) k = (mf C (vals xs)) i k := fun k hk => by rw [hys]; exact cf_part_row (by omega)
 have hyb : Bd (vals ys) K := fun k => by
  rcases Nat.lt_or_ge k C with h | h
  ·rw [hyv k h]; exact hx _
  ·rw [cf_high (by rw [vals_len]; omega), Int.natAbs_zero, words_zero]; exact Nat.zero_le _
 refine .sr fun k1 => .box (.t rfl) rfl fun b1 => st (.as (.cI 0 rfl)) rfl (nkQ k1 (.sr fun k2 => st (.fieldAddr (.t rfl) fld24_2 ty22) rfl (st (.load1 (.t rfl) (i := 0) rfl ty22 rfl) rfl (stM rfl (st (.fieldAddr (.t rfl) fld24_1 ty3) rfl (st (.load1 (.t rfl) (i := 0) rfl ty3 rfl) rfl (st (.eq (.mulI (.t rfl) (.t rfl) (by omega) (by omega)) ((show isI _ = isI ((i * C : Nat) : Int) from isI_eq hc1))) rfl (stM rfl (st (.addI (.t rfl) (.cI 1 rfl) (by omega) (by omega)) rfl (st (.fieldAddr (.t rfl) fld24_1 ty3) rfl (st (.load1 (.t rfl) (i := 0) rfl ty3 rfl) rfl (st (.eq (.mulI (.t rfl) (.t rfl) (by omega) (by omega)) ((show isI _ = isI (((i + 1) * C : Nat) : Int) from isI_eq hc2))) rfl (st (.eq (.slLHK sl22 ty33 zc_len (.t rfl) (.t rfl) (.t rfl) ⟨by omega, by omega, by omega⟩) ((show _ = SlK 2 zc ys from SlK_eq (by rw [hys]; rfl)))) rfl ?_)))))))))))))
 refine st (.eq (.call (sl_IndexFuncZ (K := K) hyb) (.cons (.t rfl) (.cons (Has.fn (fun p => hnf_first_1 (Nat.lt_of_le_of_lt p.2 (by omega)))) .nil))) ((show _ = isI (fir C ((mf C (vals xs)) i)) from isI_eq (by rw [hyl]; exact fir_congr hyv)))) rfl ?_
 refine stM rfl (nkQ k2 (.w [4] rfl (.ret (rt1 (.inl rfl) Tryz.results53 rfl (.tmp (Has.t' rfl ?_) .nil)))))
 all_goals (rfl)
theorem hnf_Pivots {R C K : Nat} {xs : List (Bool × List Nat)} (hx : Bd (vals xs) K) (hK : K ≤ 400000000) (hR : R ≤ 64) (hC : C ≤ 64) (hl : xs.length = R * C) : Ctr Tryz.prog 31 [isM (R : Int) (C : Int) xs] (SlM isI (pv (pivL C (mf C (vals xs)) R))) := by
 refine Ctr.i Tryz.func31 rfl Tryz.ntmps31 fun w0 F0 => .w [0] rfl ?_
 have hRC := side_le hR hC
 have hfo := formB_true hR hC hl
 refine .sr fun k1 => .box (.t rfl) rfl fun b1 => st (.as (.cW (f := isI))) rfl (nkQ k1 (.sq fun k2 => .sr fun k3 => st (.load (.t rfl) (i := 0) rfl ty24 rfl (Ss' := [_, _, _]) rfl) rfl (st (.eq (.call (zmat_Formed) (.cons (.t rfl) .nil)) ((show isB _ = isB true from isB_eq (hfo)))) rfl (st (.not (.t rfl)) rfl (nkQ k3 (.cd rfl (fun hc1 => ?_) (fun hc1 => ?_)))))))
 ·exfalso; simp at hc1
 ·refine .skip (.nk k2 (.sr fun k4 => .cv (Cv.grow0 (α := Int) isI) (st (.as (Has.cGr (α := Int))) rfl (nkQ k4 (.sq fun k5 => .sr fun k6 => st (.fieldAddr (.t rfl) fld24_0 ty3) rfl (st (.load1 (.t rfl) (i := 1) rfl ty3 rfl) rfl (st (.mv (.cI 0 rfl)) rfl (nkQ k6 (.w [1,2,3,10,11] rfl (.block (.loopF [1,2,10] (fun (z : { z : Nat × Gr Int // z.1 ≤ R }) => match z with | ⟨(i, g), hI⟩ => [(11, isI (i : Int)), (3, isGr g (pv (pivL C (mf C (vals xs)) i)).length)]) (fun M => fun (z : { z : Nat × Gr Int // z.1 ≤ R }) => match z with | ⟨(i, g), hI⟩ => [grM isI g (pv (pivL C (mf C (vals xs)) i)), (some b1, cellM [isI (R : Int), isI (C : Int), SlK 2 zc xs])]) (fun (z : { z : Nat × Gr Int // z.1 ≤ R }) => match z with | ⟨(i, g), hI⟩ => R - i) (⟨(0, Gr.nil), Nat.zero_le _⟩) (Cv.mem (.c 11 rfl ?_ (.c 3 rfl ?_ (.l [1,2,10] rfl))) ?_) ?_)))))))))))
  ·rfl
  ·rfl
  ·rfl
  rintro ⟨⟨i, g⟩, hI⟩ K7 hK7
  refine .w [11,3,1,2,10] rfl (.memEq (M' := [grM isI g (pv (pivL C (mf C (vals xs)) i)), (some b1, cellM [isI (R : Int), isI (C : Int), SlK 2 zc xs])]) rfl ?_)
  simp only [] at hI
  have hpl := pivL_len C (mf C (vals xs)) i
  refine .sr fun k8 => st (.ltI (.t rfl) (.t rfl)) rfl (nkQ k8 (.sq fun k9 => .cd rfl (fun hc2 => ?_) (fun hc2 => ?_)))
  ·refine .skip (.nk k9 (.sq fun k10 => .block (.sr fun k11 => stM rfl (stM rfl (nkQ k11 (.sr fun k12 => st (.load (.t rfl) (i := 1) rfl ty24 rfl (Ss' := [_, _, _]) rfl) rfl (stM rfl (st (.call (hnf_first (i := i) hx hK hR hC hl (by omega)) (.cons (.t rfl) (.cons (.t rfl) .nil))) rfl (stM rfl (nkQ k12 (.sr fun k13 => stM rfl (st (.geI (.t rfl) (.cI 0 rfl)) rfl (nkQ k13 (.cd rfl (fun hc3 => ?_) (fun hc3 => ?_)))))))))))))))
   ·have hfk := fir_lt hc3
    refine .region (stM rfl (st (.eq (.mv (.t rfl)) ((show _ = isI ((fc C ((mf C (vals xs)) i) : Nat) : Int) from isI_eq (if_pos hfk)))) rfl (st (.buildS [isI 0] sl55 ty3 zero3 (fun _ _ => ⟨⟨rfl, by decide, by decide⟩, trivial⟩) rfl rfl (.cons (.t rfl) rfl rfl rfl .nil) rfl (S := SlM isI [((fc C ((mf C (vals xs)) i) : Nat) : Int)]) rfl) rfl (.appendG (f := isI) (u := 0) sl55 ty3 zero3 (fun _ _ => ⟨⟨rfl, by decide, by decide⟩, trivial⟩) (fun _ => inferInstance) by3 (.t rfl) (i := 0) rfl (.t rfl) (by rw [pv_len]; show _ + 1 ≤ _; omega) (by simp) rfl fun gr1 => ?_))))
    refine .memEq (M' := [grM _ _ _, _]) rfl (stM rfl (nl (.bln (.nk k10 (.region (st (.addI (.t rfl) (.cI 1 rfl) (by omega) (by omega)) rfl (stM rfl (nl (.thn ?_)))))))))
    refine hK7 (⟨(i + 1, gr1), by show i + 1 ≤ R; omega⟩) _ _ ?_ (Cv.mem (.c 11 rfl ?_ (.c 3 rfl ?_ (.l [1,2,10] rfl))) ?_)
    ·show R - (i + 1) < R - i; omega
    ·exact isI_eq (by omega)
    ·exact isGr_eq (by rw [pivL_yes hfk, pv_app, List.length_append])
    ·exact grM_eq (by rw [pivL_yes hfk, pv_app])
   ·have hfk := fir_no hc3
    refine .skip (.bln (.nk k10 (.region (st (.addI (.t rfl) (.cI 1 rfl) (by omega) (by omega)) rfl (stM rfl (nl (.thn ?_)))))))
    refine hK7 (⟨(i + 1, g), by show i + 1 ≤ R; omega⟩) _ _ ?_ (Cv.mem (.c 11 rfl ?_ (.c 3 rfl ?_ (.l [1,2,10] rfl))) ?_)
    ·show R - (i + 1) < R - i; omega
    ·exact isI_eq (by omega)
    ·exact isGr_eq (by rw [pivL_no hfk])
    ·exact grM_eq (by rw [pivL_no hfk])
  ·refine .exit (.the (.the (.blh (.nk k5 (.sq fun k14 => .cv (Cv.freezeG (t := 3) (i := 0) (ys := pv (pivL C (mf C (vals xs)) i)) rfl rfl rfl) (.memEq (M' := [_]) rfl (.w [1,2,10,11,3,12] rfl (.region (stM rfl (stM rfl (nkQ k14 (.w [2] rfl (.ret (rt1 (.inl rfl) Tryz.results31 rfl (.tmp (Has.t' rfl ?_) .nil)))))))))))))))
   all_goals (exact SlM_eq (by rw [show i = R by omega]))
theorem zmat_Rows_1 {r : Int} {C i k lo : Nat} {xs : List (Bool × List Nat)} (hxm : xs.length ≤ 4096) (hlo : lo + i ≤ 100) (hp : (lo + i) * C + k < xs.length) : Ctr Tryz.prog 41 [isI (i : Int), isI (k : Int), ptM r (C : Int) xs, PtrL [isI (lo : Int)]] (Flat (zc (xs.getD ((lo + i) * C + k) (false, [])))) := by
 refine Ctr.i Tryz.func41 rfl Tryz.ntmps41 fun w0 F0 => .w [0,1,2,3] rfl (.fact (Has.rngI (Has.t (t := 0) rfl)) fun lt0 => .fact (Has.rngI (Has.t (t := 1) rfl)) fun lt1 => .sr fun k1 => .alloc [isB false, SlM isU []] zero33 (fun _ _ => ⟨rfl, nilM _ _, trivial⟩) rfl fun b1 => nkQ k1 (.sr fun k2 => st (.loadP (.t rfl) ty24 rfl (Ss' := [_, _, _]) rfl) rfl (st (.loadP1 (.t rfl) ty3) rfl (stM rfl (st (.eq (.addI (.t rfl) (.t rfl) (by omega) (by omega)) ((show isI _ = isI ((lo + i : Nat) : Int) from isI_eq (by omega)))) rfl (stM rfl (st (.call (zmat_get (i := lo + i) (k := k) hxm hp) (.cons (.t rfl) (.cons (.t rfl) (.cons (.t rfl) .nil)))) rfl (.store (.t rfl) (.t rfl) (i := 0) rfl ty33 rfl rfl (Ss' := [_, _]) rfl (M' := [(some _, cellM [_, _])]) rfl (nkQ k2 (.w [6] rfl (.ret (rt1 (.inl rfl) Tryz.results41 rfl (.cell rfl (i := 0) rfl ty33 rfl ?_ .nil)))))))))))))
 all_goals (rfl)
theorem zmat_Rows {R C K lo hi : Nat} {xs : List (Bool × List Nat)} (hx : Bd (vals xs) K) (hK : K ≤ 400000000) (hR : R ≤ 64) (hC : C ≤ 64) (hl : xs.length = R * C) (h1 : lo ≤ hi) (h2 : hi ≤ R) : Ctr Tryz.prog 21 [isM (R : Int) (C : Int) xs, isI (lo : Int), isI (hi : Int)] (isTup [isMz ((hi - lo : Nat)) C (tab ((hi - lo) * C) C fun i k => cf (vals xs) ((lo + i) * C + k)), isI 0]) := by
 refine Ctr.i Tryz.func21 rfl Tryz.ntmps21 fun w0 F0 => .w [0,1,2] rfl (.fact (Has.rngI (Has.t (t := 1) rfl)) fun lt1 => .fact (Has.rngI (Has.t (t := 2) rfl)) fun lt2 => ?_)
 have hRC := side_le hR hC
 have hfo := formB_true hR hC hl
 refine .sr fun k1 => .box (.t rfl) rfl fun b1 => .box (.t rfl) rfl fun b2 => .alloc [isI 0, isI 0, nilS] zero24 (fun _ _ => ⟨⟨rfl, by decide, by decide⟩, ⟨rfl, by decide, by decide⟩, rfl, trivial⟩) rfl fun b3 => st (.as (.cI 0 rfl)) rfl (nkQ k1 (.sq fun k2 => .block (.sr fun k3 => st (.load (.t rfl) (i := 2) rfl ty24 rfl (Ss' := [_, _, _]) rfl) rfl (st (.eq (.call (zmat_Formed) (.cons (.t rfl) .nil)) ((show isB _ = isB true from isB_eq (hfo)))) rfl (st (.not (.t rfl)) rfl (stM rfl (nkQ k3 (.w [2,3,4,6,7,8] rfl (.cd rfl (fun hc1 => ?_) (fun hc1 => ?_))))))))))
 ·exfalso; simp at hc1
 ·refine .sr fun k4 => st (.load1 (.t rfl) (i := 1) rfl ty3 rfl) rfl (st (.ltI (.t rfl) (.cI 0 rfl)) rfl (stM rfl (stF rfl rfl (fun hg => .load1 (.t rfl) (i := 1) rfl ty3 rfl) rfl (stF rfl rfl (fun hg => .mv (.t rfl)) rfl (stF rfl rfl (fun hg => .gtI (Has.g rfl hg) (Has.g rfl hg)) rfl (st (.pickOr (.t rfl) (fun h => Has.g rfl (ng h))) rfl (stM rfl (stF rfl rfl (fun hg => .mv (.t rfl)) rfl (stF rfl rfl (fun hg => .fieldAddr (.t rfl) fld24_0 ty3) rfl (stF rfl rfl (fun hg => .load1 (Has.g rfl hg) (i := 2) rfl ty3 rfl) rfl (stF rfl rfl (fun hg => .gtI (Has.g rfl hg) (Has.g rfl hg)) rfl (st (.pickOr (.t rfl) (fun h => Has.g rfl (ng h))) rfl (stM rfl (nkQ k4 (.w [2,3,4,6,7,13] rfl (.cd rfl (fun hc2 => ?_) (fun hc2 => ?_)))))))))))))))))
  ·exfalso; omega
  ·refine .skip (.bln (.nk k2 (.sr fun k5 => stM rfl (st (.load1 (.t rfl) (i := 1) rfl ty3 rfl) rfl (st (.eq (.subI (.t rfl) (.t rfl) (by omega) (by omega)) ((show isI _ = isI ((hi - lo : Nat) : Int) from isI_eq (by omega)))) rfl (st (.fieldAddr (.t rfl) fld24_1 ty3) rfl (st (.load1 (.t rfl) (i := 2) rfl ty3 rfl) rfl (.cv (Cv.freezeBox (t := 3) (i := 2) rfl rfl rfl) (.memEq (M' := [_, _]) rfl (.w [2,3,4,6,7,13,28,29,30,32] rfl (.cv (Cv.freezeBox (t := 4) (i := 1) rfl rfl rfl) (.memEq (M' := [_]) rfl (.w [2,3,4,6,7,13,28,29,30,32] rfl (st (.makeFn (ι := PI (hi - lo) C) (As := fun p => [isI (p.1.1 : Int), isI (p.1.2 : Int)]) (R := fun p => Flat (zc (xs.getD ((lo + p.1.1) * C + p.1.2) (false, [])))) (fun p => zmat_Rows_1 (by omega) (by have := p.2.1; omega) (by have := place_lt (show lo + p.1.1 < R by have := p.2.1; omega) p.2.2; omega)) .nil (.cons (.t rfl) (.cons (.t rfl) .nil))) rfl ?_))))))))))))))
   refine st (.call (zmat_made (f := fun i k => xs.getD ((lo + i) * C + k) (false, [])) (by omega) hC (fun i k _ _ => Nat.le_trans (hx.raw _) (by omega))) (.cons (.t rfl) (.cons (.t rfl) (.cons (.t rfl) .nil)))) rfl (.store (.t rfl) (.t rfl) (i := 0) rfl ty24 rfl rfl (Ss' := [_, _, _]) rfl (M' := [(some _, cellM [_, _, _])]) rfl (st (.as (.cI 0 rfl)) rfl (nkQ k5 (.w [6,7] rfl (.ret (rtN (.inl rfl) Tryz.results21 rfl rfl (.cell rfl (i := 0) rfl ty24 rfl ?_ (.tmp (Has.t' rfl ?_) .nil))))))))
   ·exact isMz_eq (by congr 1; funext i k; rw [cf_vals])
   ·rfl
theorem zmat_Stack_1 {R R' C i k : Nat} {xs ys : List (Bool × List Nat)} (hxm : xs.length ≤ 4096) (hym : ys.length ≤ 4096) (hxl : xs.length = R * C) (hyl : ys.length = R' * C) (hi : i < R + R') (hk : k < C) : Ctr Tryz.prog 60 [isI (i : Int), isI (k : Int), ptM (R : Int) (C : Int) xs, ptM (R' : Int) (C : Int) ys] (Flat (zc (if i < R then xs.getD (i * C + k) (false, []) else ys.getD ((i - R) * C + k) (false, [])))) := by
 refine Ctr.i Tryz.func60 rfl Tryz.ntmps60 fun w0 F0 => .w [0,1,2,3] rfl (.fact (Has.rngI (Has.t (t := 0) rfl)) fun lt0 => .fact (Has.rngI (Has.t (t := 1) rfl)) fun lt1 => .sr fun k1 => .alloc [isB false, SlM isU []] zero33 (fun _ _ => ⟨rfl, nilM _ _, trivial⟩) rfl fun b1 => nkQ k1 (.sq fun k2 => .sr fun k3 => stM rfl (st (.fieldAddrP (.t rfl) fld24_0 ty3 (Ss' := [_, _, _]) rfl) rfl (st (.loadP1 (.t rfl) ty3) rfl (st (.ltI (.t rfl) (.t rfl)) rfl (nkQ k3 (.cd rfl (fun hc1 => ?_) (fun hc1 => ?_))))))))
 ·refine .sr fun k4 => st (.loadP (.t rfl) ty24 rfl (Ss' := [_, _, _]) rfl) rfl (stM rfl (stM rfl (st (.call (zmat_get (i := i) (k := k) hxm (by have := place_lt (show i < R by omega) hk; omega)) (.cons (.t rfl) (.cons (.t rfl) (.cons (.t rfl) .nil)))) rfl ?_)))
  refine .store (.t rfl) (.t rfl) (i := 0) rfl ty33 rfl rfl (Ss' := [_, _]) rfl (M' := [(some _, cellM [_, _])]) rfl (nkQ k4 (.w [0,1,2,3,6] rfl (.ret (.thr (rt1 (.inl rfl) Tryz.results60 rfl (.cell rfl (i := 0) rfl ty33 rfl ?_ .nil))))))
  all_goals (rw [if_pos (by omega)])
 ·refine .skip (.nk k2 (.sr fun k5 => st (.loadP (.t rfl) ty24 rfl (Ss' := [_, _, _]) rfl) rfl (stM rfl (st (.fieldAddrP (.t rfl) fld24_0 ty3 (Ss' := [_, _, _]) rfl) rfl (st (.loadP1 (.t rfl) ty3) rfl (st (.eq (.subI (.t rfl) (.t rfl) (by omega) (by omega)) ((show isI _ = isI ((i - R : Nat) : Int) from isI_eq (by omega)))) rfl (stM rfl (st (.call (zmat_get (i := i - R) (k := k) hym (by have := place_lt (show i - R < R' by omega) hk; omega)) (.cons (.t rfl) (.cons (.t rfl) (.cons (.t rfl) .nil)))) rfl ?_))))))))
  refine .store (.t rfl) (.t rfl) (i := 0) rfl ty33 rfl rfl (Ss' := [_, _]) rfl (M' := [(some _, cellM [_, _])]) rfl (nkQ k5 (.w [6] rfl (.ret (rt1 (.inl rfl) Tryz.results60 rfl (.cell rfl (i := 0) rfl ty33 rfl ?_ .nil)))))
  all_goals (rw [if_neg (by omega)])
theorem zmat_Stack {R R' C K : Nat} {xs ys : List (Bool × List Nat)} (hx : Bd (vals xs) K) (hy : Bd (vals ys) K) (hK : K ≤ 400000000) (hR : R + R' ≤ 64) (hC : C ≤ 64) (hl : xs.length = R * C) (hyl : ys.length = R' * C) : Ctr Tryz.prog 35 [isM (R : Int) (C : Int) xs, isM (R' : Int) (C : Int) ys] (isTup [isMz ((R + R' : Nat)) C (stkL R R' C (vals xs) (vals ys)), isI 0]) := by
 refine Ctr.i Tryz.func35 rfl Tryz.ntmps35 fun w0 F0 => .w [0,1] rfl ?_
 have h1 := side_le (show R ≤ 64 by omega) hC
 have h2 := side_le (show R' ≤ 64 by omega) hC
 have hfo := formB_true (show R ≤ 64 by omega) hC hl
 have hfo' := formB_true (show R' ≤ 64 by omega) hC hyl
 refine .sr fun k1 => .box (.t rfl) rfl fun b1 => .box (.t rfl) rfl fun b2 => .alloc [isI 0, isI 0, nilS] zero24 (fun _ _ => ⟨⟨rfl, by decide, by decide⟩, ⟨rfl, by decide, by decide⟩, rfl, trivial⟩) rfl fun b3 => st (.as (.cI 0 rfl)) rfl (nkQ k1 (.sq fun k2 => .block (.sr fun k3 => st (.load (.t rfl) (i := 2) rfl ty24 rfl (Ss' := [_, _, _]) rfl) rfl (st (.eq (.call (zmat_Formed) (.cons (.t rfl) .nil)) ((show isB _ = isB true from isB_eq (hfo)))) rfl (st (.not (.t rfl)) rfl (stM rfl (stF rfl rfl (fun hg => .load (.t rfl) (i := 1) rfl ty24 rfl (Ss' := [_, _, _]) rfl) rfl (stF rfl rfl (fun hg => .eq (.call (zmat_Formed) (.cons (Has.g rfl hg) .nil)) ((show isB _ = isB true from isB_eq (hfo')))) rfl (stF rfl rfl (fun hg => .not (Has.g rfl hg)) rfl (st (.pickOr (.t rfl) (fun h => Has.g rfl (ng h))) rfl (stM rfl (stF rfl rfl (fun hg => .fieldAddr (.t rfl) fld24_1 ty3) rfl (stF rfl rfl (fun hg => .load1 (Has.g rfl hg) (i := 2) rfl ty3 rfl) rfl (stF rfl rfl (fun hg => .fieldAddr (.t rfl) fld24_1 ty3) rfl (stF rfl rfl (fun hg => .load1 (Has.g rfl hg) (i := 1) rfl ty3 rfl) rfl (stF rfl rfl (fun hg => .neI (Has.g rfl hg) (Has.g rfl hg)) rfl (st (.pickOr (.t rfl) (fun h => Has.g rfl (ng h))) rfl (stM rfl (nkQ k3 (.w [2,3,4,5,6] rfl ?_))))))))))))))))))))
 refine .cd rfl (fun hc1 => ?_) (fun hc1 => ?_)
 ·exfalso; simp at hc1
 ·refine .sr fun k4 => st (.fieldAddr (.t rfl) fld24_0 ty3) rfl (st (.load1 (.t rfl) (i := 2) rfl ty3 rfl) rfl (st (.fieldAddr (.t rfl) fld24_0 ty3) rfl (st (.load1 (.t rfl) (i := 1) rfl ty3 rfl) rfl (st (.eq (.addI (.t rfl) (.t rfl) (by omega) (by omega)) ((show isI _ = isI ((R + R' : Nat) : Int) from isI_eq (by omega)))) rfl (st (.call (zmat_side) (.cons (.t rfl) .nil)) rfl (st (.not (.t rfl)) rfl (stM rfl (nkQ k4 (.w [2,3,4,5,23] rfl (.cd rfl (fun hc2 => ?_) (fun hc2 => ?_)))))))))))
  ·exfalso; simp at hc2; omega
  ·refine .skip (.bln (.nk k2 (.sr fun k5 => st (.fieldAddr (.t rfl) fld24_0 ty3) rfl (st (.load1 (.t rfl) (i := 2) rfl ty3 rfl) rfl (st (.fieldAddr (.t rfl) fld24_0 ty3) rfl (st (.load1 (.t rfl) (i := 1) rfl ty3 rfl) rfl (st (.eq (.addI (.t rfl) (.t rfl) (by omega) (by omega)) ((show isI _ = isI ((R + R' : Nat) : Int) from isI_eq (by omega)))) rfl (st (.fieldAddr (.t rfl) fld24_1 ty3) rfl (st (.load1 (.t rfl) (i := 2) rfl ty3 rfl) rfl (.cv (Cv.freezeBox (t := 2) (i := 2) rfl rfl rfl) (.memEq (M' := [_, _]) rfl (.w [2,3,4,5,23,33,34,35,36,38] rfl (.cv (Cv.freezeBox (t := 3) (i := 1) rfl rfl rfl) (.memEq (M' := [_]) rfl (.w [2,3,4,5,23,33,35,36,38] rfl (st (.makeFn (ι := PI (R + R') C) (As := fun p => [isI (p.1.1 : Int), isI (p.1.2 : Int)]) (R := fun p => Flat (zc (if p.1.1 < R then xs.getD (p.1.1 * C + p.1.2) (false, []) else ys.getD ((p.1.1 - R) * C + p.1.2) (false, [])))) (fun p => zmat_Stack_1 (by omega) (by omega) hl hyl p.2.1 p.2.2) .nil (.cons (.t rfl) (.cons (.t rfl) .nil))) rfl ?_))))))))))))))))
   refine st (.call (zmat_made (f := fun i k => if i < R then xs.getD (i * C + k) (false, []) else ys.getD ((i - R) * C + k) (false, [])) (by omega) hC (fun i k _ _ => by split; exact Nat.le_trans (hx.raw _) (by omega); exact Nat.le_trans (hy.raw _) (by omega))) (.cons (.t rfl) (.cons (.t rfl) (.cons (.t rfl) .nil)))) rfl ?_
   refine .store (.t rfl) (.t rfl) (i := 0) rfl ty24 rfl rfl (Ss' := [_, _, _]) rfl (M' := [(some _, cellM [_, _, _])]) rfl (st (.as (.cI 0 rfl)) rfl (nkQ k5 (.w [4,5] rfl (.ret (rtN (.inl rfl) Tryz.results35 rfl rfl (.cell rfl (i := 0) rfl ty24 rfl ?_ (.tmp (Has.t' rfl ?_) .nil)))))))
   ·exact isMz_eq (by unfold stkL; congr 1; funext i k; rw [cf_vals, cf_vals]; split <;> rfl)
   ·rfl
end Go.Proofs.YtlebmedapfncoaaGreat
namespace Go.Pz
open Go.Nt Go.En
def fewB (xs : List (Bool × List Nat)) (n w : Int) : Bool := (xs.take 100).all (fun p => decide ((p.2.length : Int) ≤ w)) && decide ((xs.length : Int) ≤ n)
theorem fewB_no {xs : List (Bool × List Nat)} {n w : Int} {i : Nat} (hi : i < xs.length) (h1 : i < 100) (h : ¬ ((xs.getD i (false, [])).2.length : Int) ≤ w) : fewB xs n w = false := by
 unfold fewB
 have hm : xs.getD i (false, []) ∈ xs.take 100 := by
  rw [List.getD, List.getElem?_eq_getElem hi]
  exact List.mem_take_iff_getElem.2 ⟨i, by omega, rfl⟩
 have : (xs.take 100).all (fun p => decide ((p.2.length : Int) ≤ w)) = false := by
  rw [List.all_eq_false]
  exact ⟨_, hm, by rw [decide_eq_true_eq]; exact h⟩
 rw [this]; rfl
theorem fewB_yes {xs : List (Bool × List Nat)} {n w : Int} {i : Nat} (hi : xs.length ≤ i ∨ 100 ≤ i) (h : ∀ j, j < i → ((xs.getD j (false, [])).2.length : Int) ≤ w) : fewB xs n w = decide ((xs.length : Int) ≤ n) := by
 unfold fewB
 have : (xs.take 100).all (fun p => decide ((p.2.length : Int) ≤ w)) = true := by
  rw [List.all_eq_true]
  intro p hp
  obtain ⟨j, hj, rfl⟩ := List.mem_take_iff_getElem.1 hp
  have := h j (by omega)
  rw [List.getD, List.getElem?_eq_getElem (by omega)] at this
  exact decide_eq_true this
 rw [this]; rfl
theorem fewB_bd {xs : List (Bool × List Nat)} {n w : Int} {N K : Nat} (ok : ∀ p ∈ xs, (∀ y ∈ p.2, y < 18446744073709551616) ∧ p.2.length ≤ 9223372036854775807) (h : fewB xs n w = true) (hn : n = (N : Int)) (hw : w = (K : Int)) (h1 : N ≤ 100) : xs.length ≤ N ∧ Bd (vals xs) K := by
 unfold fewB at h
 rw [Bool.and_eq_true, decide_eq_true_eq, List.all_eq_true] at h
 subst hn; subst hw
 refine ⟨by omega, fun i => ?_⟩
 rw [cf_vals, zv_nw]
 rcases Nat.lt_or_ge i xs.length with hi | hi
 ·rw [List.getD, List.getElem?_eq_getElem hi]
  have h2 := h.1 xs[i] (List.mem_take_iff_getElem.2 ⟨i, by omega, rfl⟩)
  rw [decide_eq_true_eq] at h2
  exact Nat.le_trans (nw_val (ok _ (List.getElem_mem hi)).1) (by show xs[i].2.length ≤ K; omega)
 ·rw [List.getD, List.getElem?_eq_none (by omega)]
  show (List.length (words (val []))) ≤ K
  rw [show val [] = 0 from rfl, words_zero]; exact Nat.zero_le _
end Go.Pz
namespace Go.Proofs.YtlebmedapfncoaaGreat
open Go.En Go.RowKit
set_option maxRecDepth 10000
set_option maxHeartbeats 4000000
open Go.Nt
open Go.Pz
theorem ref10_Few {xs : List (Bool × List Nat)} {n w : Int} : Ctr Tryz.prog 18 [SlK 2 zc xs, isI n, isI w] (isB (fewB xs n w)) := by
 refine Ctr.i Tryz.func18 rfl Tryz.ntmps18 fun w0 F0 => .w [0,1,2] rfl (.fact (Has.lenLt (Has.t (t := 0) rfl)) fun lt0 => .fact (Has.rngI (Has.t (t := 1) rfl)) fun lt1 => .fact (Has.rngI (Has.t (t := 2) rfl)) fun lt2 => .sr fun k1 => st (.as (.cB false)) rfl (nkQ k1 (.sq fun k2 => .sr fun k3 => st (.as (.cI 0 rfl)) rfl (nkQ k3 (.block (.loopF [0,1,2] (fun (z : { i : Nat // i ≤ xs.length ∧ i ≤ 100 ∧ ∀ j, j < i → ((xs.getD j (false, [])).2.length : Int) ≤ w }) => match z with | ⟨i, hi⟩ => [(7, isI (i : Int))]) (fun M => fun (z : { i : Nat // i ≤ xs.length ∧ i ≤ 100 ∧ ∀ j, j < i → ((xs.getD j (false, [])).2.length : Int) ≤ w }) => match z with | ⟨i, hi⟩ => []) (fun (z : { i : Nat // i ≤ xs.length ∧ i ≤ 100 ∧ ∀ j, j < i → ((xs.getD j (false, [])).2.length : Int) ≤ w }) => match z with | ⟨i, hi⟩ => xs.length - i) (⟨0, Nat.zero_le _, by omega, fun j h => absurd h (Nat.not_lt_zero _)⟩) (Cv.mem (.c 7 rfl ?_ (.l [0,1,2] rfl)) ?_) ?_))))))
 ·rfl
 ·rfl
 rintro ⟨i, hi, h1, hj⟩ K4 hK4
 refine .w [7,0,1,2] rfl (.memEq (M' := []) rfl (.sq fun k5 => .sr fun k6 => stM rfl (stM rfl (st (.len sl22 (.t rfl)) rfl (st (.ltI (.t rfl) (.t rfl)) rfl (stM rfl (stT rfl rfl (fun hg => .mv (.t rfl)) rfl (stT rfl rfl (fun hg => .ltI (Has.g rfl hg) (.cI 100 rfl)) rfl (st (.pickAnd (.t rfl) (fun h => Has.g rfl h)) rfl (nkQ k6 (.cd rfl (fun hc1 => ?_) (fun hc1 => ?_))))))))))))
 ·refine .skip (.nk k5 (.sq fun k7 => .block (.sr fun k8 => stM rfl (stM rfl (st (.ixK sl22 ty33 (.t rfl) (.t rfl) zc_len (by omega) (getD_some (d := (false, [])) (by omega))) rfl (st (.fieldAddrP (.t rfl) fld33_1 ty31 (Ss' := [_]) rfl) rfl (st (.loadP1 (.t rfl) ty31) rfl (st (.len sl31 (.t rfl)) rfl (stM rfl (st (.gtI (.t rfl) (.t rfl)) rfl (nkQ k8 (.cd rfl (fun hc2 => ?_) (fun hc2 => ?_)))))))))))))
  ·have hNo : ¬ ((xs.getD i (false, [])).2.length : Int) ≤ w := (by simp only [Int.toNat_natCast] at hc2; omega)
   refine .sr fun k9 => st (.as (.cB false)) rfl (nkQ k9 (.ret (.blr (.thr (.thr (.blr (.thr (rt1 (.inl rfl) Tryz.results18 rfl (.tmp (Has.t' rfl ?_) .nil)))))))))
   all_goals (exact isB_eq (fewB_no (by omega) (by omega) hNo).symm)
  ·have hLe : ((xs.getD i (false, [])).2.length : Int) ≤ w := (by simp only [Int.toNat_natCast] at hc2; omega)
   refine .skip (.bln (.nk k7 (.region (stM rfl (st (.addI (.t rfl) (.cI 1 rfl) (by omega) (by omega)) rfl (stM rfl (nl (.thn ?_))))))))
   refine hK4 (⟨i + 1, by omega, by omega, fun j h => by rcases Nat.lt_or_ge j i with h2 | h2; exact hj j h2; rw [show j = i by omega]; exact hLe⟩) _ _ ?_ (Cv.mem (.c 7 rfl ?_ (.l [0,1,2] rfl)) ?_)
   ·show xs.length - (i + 1) < xs.length - i; omega
   ·exact isI_eq (by omega)
   ·rfl
 ·refine .exit (.the (.the (.blh (.nk k2 (.w [0,1] rfl (.sr fun k10 => stM rfl (st (.len sl22 (.t rfl)) rfl (stM rfl (st (.leI (.t rfl) (.t rfl)) rfl (stM rfl (nkQ k10 (.w [6] rfl (.ret (rt1 (.inl rfl) Tryz.results18 rfl (.tmp (Has.t' rfl ?_) .nil)))))))))))))))
  all_goals (exact isB_eq (fewB_yes (by omega) hj).symm)
end Go.Proofs.YtlebmedapfncoaaGreat
namespace Go.Proofs.YtlebmedapfncoaaGreat
open Go.En Go.RowKit
set_option maxRecDepth 10000
set_option maxHeartbeats 4000000
open Go.Nt
open Go.Pz
open Go.Mz
open Go.Dt
theorem ref11_Formed {r c : Int} {xs : List (Bool × List Nat)} : Ctr Tryz.prog 9 [isM r c xs] (isB (formB r c xs.length)) := by
 refine Ctr.i Tryz.func9 rfl Tryz.ntmps9 fun w0 F0 => .w [0] rfl (.sr fun k1 => .box (.t rfl) rfl fun b1 => st (.as (.cB false)) rfl (nkQ k1 (.sr fun k2 => st (.fieldAddr (.t rfl) fld24_0 ty3) rfl (st (.load1 (.t rfl) (i := 0) rfl ty3 rfl) rfl (st (.geI (.t rfl) (.cI 0 rfl)) rfl (stM rfl (stT rfl rfl (fun hg => .fieldAddr (.t rfl) fld24_0 ty3) rfl (stT rfl rfl (fun hg => .load1 (Has.g rfl hg) (i := 0) rfl ty3 rfl) rfl (stT rfl rfl (fun hg => .leI (Has.g rfl hg) (.cI 64 rfl)) rfl (st (.pickAnd (.t rfl) (fun h => Has.g rfl h)) rfl (stM rfl (stT rfl rfl (fun hg => .fieldAddr (.t rfl) fld24_1 ty3) rfl (stT rfl rfl (fun hg => .load1 (Has.g rfl hg) (i := 0) rfl ty3 rfl) rfl (stT rfl rfl (fun hg => .geI (Has.g rfl hg) (.cI 0 rfl)) rfl (st (.pickAnd (.t rfl) (fun h => Has.g rfl h)) rfl (stM rfl (stT rfl rfl (fun hg => .fieldAddr (.t rfl) fld24_1 ty3) rfl (stT rfl rfl (fun hg => .load1 (Has.g rfl hg) (i := 0) rfl ty3 rfl) rfl (stT rfl rfl (fun hg => .leI (Has.g rfl hg) (.cI 64 rfl)) rfl (st (.pickAnd (.t rfl) (fun h => Has.g rfl h)) rfl (stM rfl (stT rfl rfl (fun hg => .fieldAddr (.t rfl) fld24_2 ty22) rfl (stT rfl rfl (fun hg => .load1 (Has.g rfl hg) (i := 0) rfl ty22 rfl) rfl ?_)))))))))))))))))))))))
 refine stT rfl rfl (fun hg => .len sl22 (Has.g rfl hg)) rfl (stT rfl rfl (fun hg => .fieldAddr (.t rfl) fld24_0 ty3) rfl (stT rfl rfl (fun hg => .load1 (Has.g rfl hg) (i := 0) rfl ty3 rfl) rfl (stT rfl rfl (fun hg => .fieldAddr (.t rfl) fld24_1 ty3) rfl (stT rfl rfl (fun hg => .load1 (Has.g rfl hg) (i := 0) rfl ty3 rfl) rfl ?_))))
 refine stT rfl rfl (fun hg => have hg' := BP.t hg; OK1.mulI (Has.g rfl hg) (Has.g rfl hg) (by have := mul_bnd ⟨⟨hg'.1.1.1, hg'.1.1.2⟩, hg'.1.2, hg'.2⟩; omega) (by have := mul_bnd ⟨⟨hg'.1.1.1, hg'.1.1.2⟩, hg'.1.2, hg'.2⟩; omega)) rfl ?_
 refine stT rfl rfl (fun hg => .eqI (Has.g rfl hg) (Has.g rfl hg)) rfl (st (.pickAnd (.t rfl) (fun h => Has.g rfl h)) rfl (stM rfl (nkQ k2 (.w [2] rfl (.ret (rt1 (.inl rfl) Tryz.results9 rfl (.tmp (Has.t' rfl ?_) .nil)))))))
 all_goals (exact isB_eq (by unfold formB; simp only [Bool.and_assoc]))
theorem ref11_Few {r c n w : Int} {xs : List (Bool × List Nat)} : Ctr Tryz.prog 6 [isM r c xs, isI n, isI w] (isB (decide (r ≤ n) && decide (c ≤ n) && fewB xs 100 w)) := by
 refine Ctr.i Tryz.func6 rfl Tryz.ntmps6 fun w0 F0 => .w [0,1,2] rfl (.fact (Has.rngI (Has.t (t := 1) rfl)) fun lt1 => .fact (Has.rngI (Has.t (t := 2) rfl)) fun lt2 => .sr fun k1 => .box (.t rfl) rfl fun b1 => st (.as (.cB false)) rfl (nkQ k1 (.sr fun k2 => st (.fieldAddr (.t rfl) fld24_0 ty3) rfl (st (.load1 (.t rfl) (i := 0) rfl ty3 rfl) rfl (stM rfl (st (.leI (.t rfl) (.t rfl)) rfl (stM rfl (stT rfl rfl (fun hg => .fieldAddr (.t rfl) fld24_1 ty3) rfl (stT rfl rfl (fun hg => .load1 (Has.g rfl hg) (i := 0) rfl ty3 rfl) rfl (stT rfl rfl (fun hg => .mv (.t rfl)) rfl (stT rfl rfl (fun hg => .leI (Has.g rfl hg) (Has.g rfl hg)) rfl (st (.pickAnd (.t rfl) (fun h => Has.g rfl h)) rfl (stM rfl (stT rfl rfl (fun hg => .fieldAddr (.t rfl) fld24_2 ty22) rfl (stT rfl rfl (fun hg => .load1 (Has.g rfl hg) (i := 0) rfl ty22 rfl) rfl (stT rfl rfl (fun hg => .mv (.t rfl)) rfl (stT rfl rfl (fun hg => .call (ref10_Few) (.cons (Has.g rfl hg) (.cons (.cI 100 rfl) (.cons (Has.g rfl hg) .nil)))) rfl (st (.pickAnd (.t rfl) (fun h => Has.g rfl h)) rfl (stM rfl (nkQ k2 (.w [6] rfl ?_)))))))))))))))))))))
 refine .ret (rt1 (.inl rfl) Tryz.results6 rfl (.tmp (Has.t' rfl ?_) .nil))
 all_goals (rfl)
end Go.Proofs.YtlebmedapfncoaaGreat
namespace Go.Proofs.YtlebmedapfncoaaGreat
open Go.En Go.RowKit
set_option maxRecDepth 10000
set_option maxHeartbeats 4000000
open Go.Nt
open Go.Pz
open Go.Mz
open Go.Hn
open Go.Hp
open Go.Dt
theorem gram_must {r c : Int} {l : List Int} : Ctr Tryz.prog 20 [isM r c (l.map nz), isI 0] (isM r c (l.map nz)) := by
 refine Ctr.i Tryz.func20 rfl Tryz.ntmps20 fun w0 F0 => .w [0,1] rfl (.fact (Has.rngI (Has.t (t := 1) rfl)) fun lt1 => .sr fun k1 => .box (.t rfl) rfl fun b1 => .alloc [isI 0, isI 0, nilS] zero24 (fun _ _ => ⟨⟨rfl, by decide, by decide⟩, ⟨rfl, by decide, by decide⟩, rfl, trivial⟩) rfl fun b2 => nkQ k1 (.sr fun k2 => st (.load (.t rfl) (i := 1) rfl ty24 rfl (Ss' := [_, _, _]) rfl) rfl (.store (.t rfl) (.t rfl) (i := 0) rfl ty24 rfl rfl (Ss' := [_, _, _]) rfl (M' := [(some _, cellM [_, _, _]), _]) rfl (nkQ k2 (.ret (rt1 (.inl rfl) Tryz.results20 rfl (.cell rfl (i := 0) rfl ty24 rfl ?_ .nil)))))))
 all_goals (rfl)
theorem gram_Of {R C K : Nat} {xs : List (Bool × List Nat)} (hx : Bd (vals xs) K) (hK : K ≤ 100000000) (hR : R ≤ 64) (hC : C ≤ 64) (hl : xs.length = R * C) : Ctr Tryz.prog 32 [isM (R : Int) (C : Int) xs] (isTup [isMz R R (gmL R C (vals xs)), isI 0]) := by
 refine Ctr.i Tryz.func32 rfl Tryz.ntmps32 fun w0 F0 => .w [0] rfl ?_
 have hTb : Bd (tab (C * R) R fun i k => cf (vals xs) (k * C + i)) K := Bd_tab fun i k => hx _
 refine .sr fun k1 => .box (.t rfl) rfl fun b1 => .alloc [isI 0, isI 0, nilS] zero24 (fun _ _ => ⟨⟨rfl, by decide, by decide⟩, ⟨rfl, by decide, by decide⟩, rfl, trivial⟩) rfl fun b2 => st (.as (.cI 0 rfl)) rfl (nkQ k1 (.sr fun k2 => st (.load (.t rfl) (i := 1) rfl ty24 rfl (Ss' := [_, _, _]) rfl) rfl (st (.call (zmat_Transpose hx (by omega) hR hC hl) (.cons (.t rfl) .nil)) rfl (stM rfl (st (.ext (.t rfl) rfl) rfl (st (.ext (.t rfl) rfl) rfl (.alloc [isI 0, isI 0, nilS] zero24 (fun _ _ => ⟨⟨rfl, by decide, by decide⟩, ⟨rfl, by decide, by decide⟩, rfl, trivial⟩) rfl fun b3 => .store (.t rfl) (.t rfl) (i := 0) rfl ty24 rfl rfl (Ss' := [_, _, _]) rfl (M' := [(some _, cellM [_, _, _]), _, _]) rfl (stM rfl (nkQ k2 (.w [1,2,3,4,5] rfl (.sq fun k3 => .sr fun k4 => stM rfl (st (.neI (.t rfl) (.cI 0 rfl)) rfl (nkQ k4 (.cd rfl (fun hc1 => ?_) (fun hc1 => ?_)))))))))))))))
 ·exfalso; omega
 ·refine .skip (.nk k3 (.sr fun k5 => st (.load (.t rfl) (i := 2) rfl ty24 rfl (Ss' := [_, _, _]) rfl) rfl (st (.load (.t rfl) (i := 0) rfl ty24 rfl (Ss' := [_, _, _]) rfl) rfl (st (.eq (.call (zmat_Mul (R := R) (C := C) (D := R) (K := K) (L := K) hx (by rw [vals_nz]; exact hTb) (by omega) hR hC hR hl (by rw [List.length_map, tab_len])) (.cons (.t rfl) (.cons (.t rfl) .nil))) ((show _ = isTup [isMz R R (gmL R C (vals xs)), isI 0] from by rw [vals_nz, gm_mul (gm_tab (vals xs))]))) rfl ?_))))
  refine st (.ext (.t rfl) rfl) rfl (st (.ext (.t rfl) rfl) rfl (.store (.t rfl) (.t rfl) (i := 1) rfl ty24 rfl rfl (Ss' := [_, _, _]) rfl (M' := [_, (some _, cellM [_, _, _]), _]) rfl (stM rfl (nkQ k5 (.w [2,3] rfl (.ret (rtN (.inl rfl) Tryz.results32 rfl rfl (.cell rfl (i := 1) rfl ty24 rfl ?_ (.tmp (Has.t' rfl ?_) .nil)))))))))
  ·rfl
  ·rfl
end Go.Proofs.YtlebmedapfncoaaGreat
namespace Go.Proofs.YtlebmedapfncoaaGreat
open Go.En Go.RowKit
set_option maxRecDepth 10000
set_option maxHeartbeats 4000000
open Go.Nt
open Go.Pz
open Go.Mz
open Go.Hn
open Go.Hp
open Go.Dt
open Go.Ll
theorem gram_Reduce {R C K : Nat} {xs : List (Bool × List Nat)} (hx : Bd (vals xs) K) (hK : K ≤ 280) (hR : R ≤ 4) (hC : C ≤ 4) (hl : xs.length = R * C) {m n : Bool} {ps qs : List Nat} (hpw : (List.length (words (val ps))) ≤ 1000) (hqw : (List.length (words (val qs))) ≤ 1000) (hmy : (decide (0 < sgn (zv n qs)) && decide (0 < cmpZ (zv m ps * 4) (zv n qs)) && decide (cmpZ (zv m ps) (zv n qs) < 0)) = true) (hq : 0 < zv n qs) (hpq : zv m ps < zv n qs) : CtrX Tryz.prog 15 [isM (R : Int) (C : Int) xs, Flat [isB m, isWords ps], Flat [isB n, isWords qs]] ([]) (fun S M => ∃ (c : Nat) (ds' : List Int) (ls' us' : List Row) (k : Nat) (Ml Wl : List Int), S = isTup [isMz R C Ml, isMz R R Wl, isI (IntKind.i64.wrap (c : Int)), isI 0] ∧ M = [] ∧ GR R C (vals xs) (zv m ps) (zv n qs) c ds' ls' us' k Ml Wl) := by
 refine CtrX.i Tryz.func15 rfl Tryz.ntmps15 fun w0 F0 => .w [0,1,2] rfl (.fact (Has.okZ (Has.t (t := 1) rfl)) fun okz1 => .fact (Has.okZ (Has.t (t := 2) rfl)) fun okz2 => ?_)
 have hPR := rk_le (R := R) (C := C) (L := vals xs)
 obtain ⟨P, hP⟩ : ∃ P, P = rkL R C (vals xs) := ⟨_, rfl⟩
 rw [← hP] at hPR
 have hh1 : (K + 4) * (R + 2) ^ C ≤ 368064 := Nat.le_trans (Nat.mul_le_mul (show K + 4 ≤ 284 by omega) (Nat.le_trans (Nat.pow_le_pow_left (show R + 2 ≤ 6 by omega) C) (Nat.pow_le_pow_right (by decide) hC))) (by decide)
 have hR64 : R ≤ 64 := by omega
 have hC64 : C ≤ 64 := by omega
 have hP64 : P ≤ 64 := by omega
 obtain ⟨Hl, hHl⟩ : ∃ l, l = hL R C (vals xs) := ⟨_, rfl⟩
 have hHn : (Hl.map nz).length = R * C := by rw [List.length_map, hHl]; exact hL_len hx
 have hHb : Bd (vals (Hl.map nz)) 368064 := by rw [vals_nz, hHl]; exact (hL_bd hx).mono hh1
 obtain ⟨Ul, hUl⟩ : ∃ l, l = uL R C (vals xs) := ⟨_, rfl⟩
 have hUn : (Ul.map nz).length = R * R := by rw [List.length_map, hUl]; exact uL_len hx
 have hUb : Bd (vals (Ul.map nz)) 368064 := by rw [vals_nz, hUl]; exact (uL_bd hx).mono hh1
 obtain ⟨Ll, hLl⟩ : ∃ l, l = latL R C (vals xs) := ⟨_, rfl⟩
 have hLt : Ll = tab (P * C) C fun i k => cf Hl ((0 + i) * C + k) := by rw [hLl, hP, hHl]; rfl
 have hLn : (Ll.map nz).length = P * C := by rw [List.length_map, hLt, tab_len]
 have hLb : Bd (vals (Ll.map nz)) (4 * K + 25) := by rw [vals_nz, hLl]; exact lat_small hx hR
 obtain ⟨Gl, hGl⟩ : ∃ l, l = gmL P C Ll := ⟨_, rfl⟩
 have hGn : (Gl.map nz).length = P * P := by rw [List.length_map, hGl, gmL_len]
 have hGb : Bd (vals (Gl.map nz)) (8 * K + 54) := by rw [vals_nz, hGl]; exact (gmL_bd (by rw [vals_nz] at hLb; exact hLb)).mono (by omega)
 have hGi : ∀ i k, i < P → k < P → cf (vals (Gl.map nz)) (i * P + k) = ip C (latF R C (vals xs) i) (latF R C (vals xs) k) := fun i k hi hk => by rw [vals_nz, hGl, gm_ip hi hk, hLl]
 obtain ⟨U0, hU0⟩ : ∃ l, l = tab (P * R) R fun i k => cf Ul ((0 + i) * R + k) := ⟨_, rfl⟩
 have hU0n : (U0.map nz).length = P * R := by rw [List.length_map, hU0, tab_len]
 have hU0b : Bd (vals (U0.map nz)) 368064 := by rw [vals_nz] at hUb; rw [vals_nz, hU0]; exact Bd_tab fun i k => hUb _
 obtain ⟨Zl, hZl⟩ : ∃ l, l = tab ((R - P) * C) C fun i k => cf Hl ((P + i) * C + k) := ⟨_, rfl⟩
 have hZn : (Zl.map nz).length = (R - P) * C := by rw [List.length_map, hZl, tab_len]
 have hZb : Bd (vals (Zl.map nz)) 2000000 := by rw [vals_nz] at hHb; rw [vals_nz, hZl]; exact Bd_tab fun i k => Nat.le_trans (hHb _) (by decide)
 obtain ⟨Nl, hNl⟩ : ∃ l, l = tab ((R - P) * R) R fun i k => cf Ul ((P + i) * R + k) := ⟨_, rfl⟩
 have hNn : (Nl.map nz).length = (R - P) * R := by rw [List.length_map, hNl, tab_len]
 have hNb : Bd (vals (Nl.map nz)) 2000000 := by rw [vals_nz] at hUb; rw [vals_nz, hNl]; exact Bd_tab fun i k => Nat.le_trans (hUb _) (by decide)
 refine .sr fun k1 => .box (.t rfl) rfl fun b1 => .box (.t rfl) rfl fun b2 => .box (.t rfl) rfl fun b3 => .alloc [isI 0, isI 0, nilS] zero24 (fun _ _ => ⟨⟨rfl, by decide, by decide⟩, ⟨rfl, by decide, by decide⟩, rfl, trivial⟩) rfl fun b4 => .alloc [isI 0, isI 0, nilS] zero24 (fun _ _ => ⟨⟨rfl, by decide, by decide⟩, ⟨rfl, by decide, by decide⟩, rfl, trivial⟩) rfl fun b5 => st (.as (.cI 0 rfl)) rfl (st (.as (.cI 0 rfl)) rfl (nkQ k1 (.sr fun k2 => st (.load (.t rfl) (i := 4) rfl ty24 rfl (Ss' := [_, _, _]) rfl) rfl ?_)))
 refine st (.eq (.call (hnf_Hermite hx (by omega) hR64 hC64 hl) (.cons (.t rfl) .nil)) ((show _ = isTup [isMz R C Hl, isMz R R Ul, isI 0] from by rw [hHl, hUl]; rfl))) rfl ?_
 refine stM rfl (st (.ext (.t rfl) rfl) rfl (st (.ext (.t rfl) rfl) rfl (st (.ext (.t rfl) rfl) rfl (.alloc [isI 0, isI 0, nilS] zero24 (fun _ _ => ⟨⟨rfl, by decide, by decide⟩, ⟨rfl, by decide, by decide⟩, rfl, trivial⟩) rfl fun b6 => .alloc [isI 0, isI 0, nilS] zero24 (fun _ _ => ⟨⟨rfl, by decide, by decide⟩, ⟨rfl, by decide, by decide⟩, rfl, trivial⟩) rfl fun b7 => .store (.t rfl) (.t rfl) (i := 1) rfl ty24 rfl rfl (Ss' := [_, _, _]) rfl (M' := [_, (some _, cellM [_, _, _]), _, _, _, _, _]) rfl (.store (.t rfl) (.t rfl) (i := 0) rfl ty24 rfl rfl (Ss' := [_, _, _]) rfl (M' := [(some _, cellM [_, _, _]), _, _, _, _, _, _]) rfl (stM rfl (nkQ k2 (.w [4,5,6,7,8,9,10,11,12] rfl (.sq fun k3 => .sr fun k4 => stM rfl (st (.neI (.t rfl) (.cI 0 rfl)) rfl (nkQ k4 (.cd rfl (fun hc1 => ?_) (fun hc1 => ?_)))))))))))))
 ·exfalso; omega
 ·refine .skip (.nk k3 (.sr fun k5 => st (.load (.t rfl) (i := 1) rfl ty24 rfl (Ss' := [_, _, _]) rfl) rfl (st (.call (hnf_Pivots (K := 368064) hHb (by decide) hR64 hC64 hHn) (.cons (.t rfl) .nil)) rfl (st (.eq (.len sl55 (.t rfl)) ((show isI _ = isI (P : Int) from isI_eq (by rw [pv_len, vals_nz, hHl, hP])))) rfl (stM rfl (nkQ k5 (.w [4,5,6,7,8,9,10,11,12,13] rfl (.sr fun k6 => st (.load (.t rfl) (i := 1) rfl ty24 rfl (Ss' := [_, _, _]) rfl) rfl (stM rfl (st (.eq (.call (zmat_Rows (lo := 0) (hi := P) (K := 368064) hHb (by decide) hR64 hC64 hHn (Nat.zero_le _) hPR) (.cons (.t rfl) (.cons (.cI 0 rfl) (.cons (.t rfl) .nil)))) ((show _ = isTup [isMz P C Ll, isI 0] from by rw [vals_nz, hLt, Nat.sub_zero]))) rfl (st (.ext (.t rfl) rfl) rfl (st (.ext (.t rfl) rfl) rfl (st (.call gram_must (.cons (.t rfl) (.cons (.t rfl) .nil))) rfl (.alloc [isI 0, isI 0, nilS] zero24 (fun _ _ => ⟨⟨rfl, by decide, by decide⟩, ⟨rfl, by decide, by decide⟩, rfl, trivial⟩) rfl fun b8 => .store (.t rfl) (.t rfl) (i := 0) rfl ty24 rfl rfl (Ss' := [_, _, _]) rfl (M' := [(some _, cellM [_, _, _]), _, _, _, _, _, _, _]) rfl (nkQ k6 (.w [4,5,6,7,8,9,10,11,12,13,14] rfl (.sr fun k7 => st (.load (.t rfl) (i := 0) rfl ty24 rfl (Ss' := [_, _, _]) rfl) rfl (st (.eq (.call (gram_Of (R := P) (C := C) (K := 4 * K + 25) hLb (by omega) hP64 hC64 hLn) (.cons (.t rfl) .nil)) ((show _ = isTup [isMz P P Gl, isI 0] from by rw [vals_nz, hGl]))) rfl (st (.ext (.t rfl) rfl) rfl (st (.ext (.t rfl) rfl) rfl (st (.call gram_must (.cons (.t rfl) (.cons (.t rfl) .nil))) rfl (.alloc [isI 0, isI 0, nilS] zero24 (fun _ _ => ⟨⟨rfl, by decide, by decide⟩, ⟨rfl, by decide, by decide⟩, rfl, trivial⟩) rfl fun b9 => .store (.t rfl) (.t rfl) (i := 0) rfl ty24 rfl rfl (Ss' := [_, _, _]) rfl (M' := [(some _, cellM [_, _, _]), _, _, _, _, _, _, _, _]) rfl (nkQ k7 (.w [4,5,6,7,8,9,10,11,12,13,14,15] rfl (.sr fun k8 => st (.load (.t rfl) (i := 0) rfl ty24 rfl (Ss' := [_, _, _]) rfl) rfl ?_)))))))))))))))))))))))))
  refine st (.load (.t rfl) (i := 7) rfl ty33 rfl (Ss' := [_, _]) rfl) rfl (st (.load (.t rfl) (i := 6) rfl ty33 rfl (Ss' := [_, _]) rfl) rfl (.callX (lll_ReduceA (n0 := C) (R := P) (K := 8 * K + 54) (A := latF R C (vals xs)) hGb (by omega) hGn hGi (lat_gram hx hR hC) (fun t ht => lat_pos hx t (by rw [← hP]; exact ht)) (by omega) hpw hqw hmy hq hpq) (List.Perm.refl _) (.cons (.t rfl) (.cons (.t rfl) (.cons (.t rfl) .nil))) rfl ?_))
  rintro _ _ ⟨c, ds', ls', us', k, rfl, rfl, hPk, hS⟩
  rw [hP] at hS
  have hSz := SZ.made (K := 300 * (8 * K + 54) + 2000) (lat_pos (R := R) (C := C) hx) (sz_nw (Nat.le_trans rk_le hR) (lat_gram hx hR hC)).2.2
  have hub := hS.ub hSz
  have hur := hS.hur
  have hul := hS.ul
  rw [← hP] at hur hul
  obtain ⟨Vl, hVl⟩ : ∃ l, l = us'.flatMap Prod.snd := ⟨_, rfl⟩
  rw [← hVl]
  have hVn : (Vl.map nz).length = P * P := by rw [List.length_map, hVl, flat_len hur, hul]
  have hVb : Bd (vals (Vl.map nz)) 700000 := by rw [vals_nz, hVl]; exact (flat_bd hur hub).mono (by omega)
  obtain ⟨Rw, hRw⟩ : ∃ l, l = tab (P * C) C fun i k => dotS (fun j => cf Vl (i * P + j)) (fun j => cf Ll (j * C + k)) P := ⟨_, rfl⟩
  have hRn : (Rw.map nz).length = P * C := by rw [List.length_map, hRw, tab_len]
  have hVb' := hVb
  rw [vals_nz] at hVb'
  have hRb : Bd (vals (Rw.map nz)) 2000000 := by rw [vals_nz, hRw]; exact Bd_tab fun i k => Nat.le_trans (dotS_nw (K := 700000) (L := 4 * K + 25) (fun _ => hVb' _) (fun _ => by have := hLb; rw [vals_nz] at this; exact this _) P) (by omega)
  obtain ⟨By, hBy⟩ : ∃ l, l = tab (P * R) R fun i k => dotS (fun j => cf Vl (i * P + j)) (fun j => cf U0 (j * R + k)) P := ⟨_, rfl⟩
  have hBn : (By.map nz).length = P * R := by rw [List.length_map, hBy, tab_len]
  have hBb : Bd (vals (By.map nz)) 2000000 := by rw [vals_nz, hBy]; exact Bd_tab fun i k => Nat.le_trans (dotS_nw (K := 700000) (L := 368064) (fun _ => hVb' _) (fun _ => by have := hU0b; rw [vals_nz] at this; exact this _) P) (by omega)
  refine stM rfl (st (.ext (.t rfl) rfl) rfl (st (.ext (.t rfl) rfl) rfl (st (.ext (.t rfl) rfl) rfl (.alloc [isI 0, isI 0, nilS] zero24 (fun _ _ => ⟨⟨rfl, by decide, by decide⟩, ⟨rfl, by decide, by decide⟩, rfl, trivial⟩) rfl fun b10 => .store (.t rfl) (.t rfl) (i := 0) rfl ty24 rfl rfl (Ss' := [_, _, _]) rfl (M' := [(some _, cellM [_, _, _]), _, _, _, _, _, _, _, _, _]) rfl (stM rfl (stM rfl (nkQ k8 (.w [6,7,8,9,10,11,12,13,14,16,17] rfl (.sq fun k9 => .sr fun k10 => stM rfl (st (.neI (.t rfl) (.cI 0 rfl)) rfl (nkQ k10 (.cd rfl (fun hc2 => ?_) (fun hc2 => ?_)))))))))))))
  ·exfalso; omega
  ·refine .skip (.nk k9 (.sr fun k11 => st (.load (.t rfl) (i := 0) rfl ty24 rfl (Ss' := [_, _, _]) rfl) rfl (st (.load (.t rfl) (i := 2) rfl ty24 rfl (Ss' := [_, _, _]) rfl) rfl (st (.eq (.call (zmat_Mul (R := P) (C := P) (D := C) (K := 700000) (L := 4 * K + 25) hVb hLb (by omega) hP64 hP64 hC64 hVn hLn) (.cons (.t rfl) (.cons (.t rfl) .nil))) ((show _ = isTup [isMz P C Rw, isI 0] from by rw [vals_nz, vals_nz, hRw]))) rfl (st (.ext (.t rfl) rfl) rfl (st (.ext (.t rfl) rfl) rfl (st (.call gram_must (.cons (.t rfl) (.cons (.t rfl) .nil))) rfl (.alloc [isI 0, isI 0, nilS] zero24 (fun _ _ => ⟨⟨rfl, by decide, by decide⟩, ⟨rfl, by decide, by decide⟩, rfl, trivial⟩) rfl fun b11 => .store (.t rfl) (.t rfl) (i := 0) rfl ty24 rfl rfl (Ss' := [_, _, _]) rfl (M' := [(some _, cellM [_, _, _]), _, _, _, _, _, _, _, _, _, _]) rfl (nkQ k11 (.w [6,7,8,9,10,11,13,16,17,18] rfl (.sq fun k12 => .drh [true, true, true, true, true, true, true, true, true, true, true] (Ms := [_, _, _, _, _, _, _, _, _, _, _]) rfl (.so [] rfl (.load (.t rfl) (i := 1) rfl ty24 rfl (Ss' := [_, _, _]) rfl) (.so [] rfl (.load (.t rfl) (i := 4) rfl ty24 rfl (Ss' := [_, _, _]) rfl) (.m [] rfl (.so [67,68] rfl (.eq (.call (zmat_Rows (lo := 0) (hi := P) (K := 368064) hUb (by decide) hR64 hR64 hUn (Nat.zero_le _) hPR) (.cons (.t rfl) (.cons (.cI 0 rfl) (.cons (.t rfl) .nil)))) ((show _ = isTup [isMz P R U0, isI 0] from by rw [vals_nz, hU0, Nat.sub_zero]))) (.so [69] rfl (.ext (.t rfl) rfl) (.so [69] rfl (.ext (.t rfl) rfl) (.so [70,71] rfl (.call gram_must (.cons (.t rfl) (.cons (.t rfl) .nil))) (.so [66,72] rfl (.eq (.call (zmat_Mul (R := P) (C := P) (D := R) (K := 700000) (L := 368064) hVb hU0b (by omega) hP64 hP64 hR64 hVn hU0n) (.cons (.t rfl) (.cons (.t rfl) .nil))) ((show _ = isTup [isMz P R By, isI 0] from by rw [vals_nz, vals_nz, hBy]))) (.so [73] rfl (.ext (.t rfl) rfl) (.so [73] rfl (.ext (.t rfl) rfl) (.so [74,75] rfl (.call gram_must (.cons (.t rfl) (.cons (.t rfl) .nil))) (.als2 (n1 := 12) (ds := [19]) (zs := [[isI 0, isI 0, nilS]]) rfl (.cons rfl rfl zero24 (fun _ _ => ⟨⟨rfl, by decide, by decide⟩, ⟨rfl, by decide, by decide⟩, rfl, trivial⟩) .nil) (.cons_cons _ (.cons_cons _ (.cons_cons _ (.cons_cons _ (.cons_cons _ (.cons_cons _ (.cons_cons _ (.cons_cons _ (.cons_cons _ (.cons_cons _ (.cons_cons _ .slnil))))))))))) (Cs := [_]) rfl (.fn (n := 12) mixed rfl (fun bs hbs => ?_)))))))))))))))))))))))))
   obtain ⟨b12, rfl⟩ := len1 hbs
   refine .memEq (M' := [_, _, _, _, _, _, _, _, _, _, _, _]) rfl (.cv (Cv.wk (.k 6 rfl (.k 7 rfl (.k 8 rfl (.k 9 rfl (.k 10 rfl (.k 11 rfl (.k 13 rfl (.k 17 rfl (.k 18 rfl (.k 76 rfl (.cons (t := 19) (Has.op rfl) .nil)))))))))))) (.store (.t rfl) (.t rfl) (i := 0) rfl ty24 rfl rfl (Ss' := [_, _, _]) rfl (M' := [(some _, cellM [_, _, _]), _, _, _, _, _, _, _, _, _, _, _]) rfl (nkQ k12 (.sr fun k13 => st (.load (.t rfl) (i := 6) rfl ty24 rfl (Ss' := [_, _, _]) rfl) rfl (stM rfl (st (.fieldAddr (.t rfl) fld24_0 ty3) rfl (st (.load1 (.t rfl) (i := 6) rfl ty3 rfl) rfl (st (.eq (.call (zmat_Rows (lo := P) (hi := R) (K := 368064) hHb (by decide) hR64 hC64 hHn hPR (Nat.le_refl _)) (.cons (.t rfl) (.cons (.t rfl) (.cons (.t rfl) .nil)))) ((show _ = isTup [isMz (R - P) C Zl, isI 0] from by rw [vals_nz, hZl]))) rfl (st (.ext (.t rfl) rfl) rfl (st (.ext (.t rfl) rfl) rfl (st (.call gram_must (.cons (.t rfl) (.cons (.t rfl) .nil))) rfl (.alloc [isI 0, isI 0, nilS] zero24 (fun _ _ => ⟨⟨rfl, by decide, by decide⟩, ⟨rfl, by decide, by decide⟩, rfl, trivial⟩) rfl fun b13 => .store (.t rfl) (.t rfl) (i := 0) rfl ty24 rfl rfl (Ss' := [_, _, _]) rfl (M' := [(some _, cellM [_, _, _]), _, _, _, _, _, _, _, _, _, _, _, _]) rfl (nkQ k13 (.w [6,7,8,9,11,13,17,18,19,20] rfl (.sr fun k14 => st (.load (.t rfl) (i := 6) rfl ty24 rfl (Ss' := [_, _, _]) rfl) rfl (stM rfl (st (.fieldAddr (.t rfl) fld24_0 ty3) rfl (st (.load1 (.t rfl) (i := 6) rfl ty3 rfl) rfl (st (.eq (.call (zmat_Rows (lo := P) (hi := R) (K := 368064) hUb (by decide) hR64 hR64 hUn hPR (Nat.le_refl _)) (.cons (.t rfl) (.cons (.t rfl) (.cons (.t rfl) .nil)))) ((show _ = isTup [isMz (R - P) R Nl, isI 0] from by rw [vals_nz, hNl]))) rfl (st (.ext (.t rfl) rfl) rfl (st (.ext (.t rfl) rfl) rfl (st (.call gram_must (.cons (.t rfl) (.cons (.t rfl) .nil))) rfl (.alloc [isI 0, isI 0, nilS] zero24 (fun _ _ => ⟨⟨rfl, by decide, by decide⟩, ⟨rfl, by decide, by decide⟩, rfl, trivial⟩) rfl fun b14 => .store (.t rfl) (.t rfl) (i := 0) rfl ty24 rfl rfl (Ss' := [_, _, _]) rfl (M' := [(some _, cellM [_, _, _]), _, _, _, _, _, _, _, _, _, _, _, _, _]) rfl (nkQ k14 (.w [6,7,8,9,17,18,19,20,21] rfl (.sq fun k15 => .drh [true, true, true, true, true, true, true, true, true, false, false, true, true, true] (Ms := [_, _, _, _, _, _, _, _, _, _, _, _]) rfl (.so [] rfl (.load (.t rfl) (i := 1) rfl ty24 rfl (Ss' := [_, _, _]) rfl) ?_)))))))))))))))))))))))))))
   refine .so [] rfl (.load (.t rfl) (i := 3) rfl ty24 rfl (Ss' := [_, _, _]) rfl) (.so [93,94] rfl (.eq (.call (zmat_Stack (R := R - P) (R' := P) (C := C) (K := 2000000) hZb hRb (by decide) (by omega) hC64 hZn hRn) (.cons (.t rfl) (.cons (.t rfl) .nil))) ((show _ = isTup [isMz R C (stkL (R - P) P C Zl Rw), isI 0] from by rw [vals_nz, vals_nz, Nat.sub_add_cancel hPR]))) (.so [95] rfl (.ext (.t rfl) rfl) (.so [95] rfl (.ext (.t rfl) rfl) (.so [96,97] rfl (.call gram_must (.cons (.t rfl) (.cons (.t rfl) .nil))) (.so [] rfl (.load (.t rfl) (i := 0) rfl ty24 rfl (Ss' := [_, _, _]) rfl) (.so [] rfl (.load (.t rfl) (i := 2) rfl ty24 rfl (Ss' := [_, _, _]) rfl) (.so [99,100] rfl (.eq (.call (zmat_Stack (R := R - P) (R' := P) (C := R) (K := 2000000) hNb hBb (by decide) (by omega) hR64 hNn hBn) (.cons (.t rfl) (.cons (.t rfl) .nil))) ((show _ = isTup [isMz R R (stkL (R - P) P R Nl By), isI 0] from by rw [vals_nz, vals_nz, Nat.sub_add_cancel hPR]))) (.so [101] rfl (.ext (.t rfl) rfl) (.so [101] rfl (.ext (.t rfl) rfl) (.so [102,103] rfl (.call gram_must (.cons (.t rfl) (.cons (.t rfl) .nil))) (.m [] rfl (.mid2 (.cons_cons _ (.cons_cons _ (.cons_cons _ (.cons_cons _ (.cons_cons _ (.cons_cons _ (.cons_cons _ (.cons_cons _ (.cons_cons _ (.cons _ (.cons _ (.cons_cons _ (.cons_cons _ (.cons_cons _ .slnil)))))))))))))) (.st0 [98] rfl rfl (by kernel_rfl) (by kernel_rfl) (StS.store (.t rfl) (.t rfl) (i := 10) rfl ty24 rfl rfl (Ss' := [_, _, _]) rfl (M' := [_, _, _, _, _, _, _, _, _, _, (some _, cellM [_, _, _]), _, _, _]) rfl) (.cons_cons _ (.cons_cons _ (.cons_cons _ (.cons_cons _ (.cons_cons _ (.cons_cons _ (.cons_cons _ (.cons_cons _ (.cons_cons _ (.cons _ (.cons _ (.cons_cons _ (.cons_cons _ (.cons_cons _ .slnil)))))))))))))) (.st0 [104] rfl rfl (by kernel_rfl) (by kernel_rfl) (StS.store (.t rfl) (.t rfl) (i := 9) rfl ty24 rfl rfl (Ss' := [_, _, _]) rfl (M' := [_, _, _, _, _, _, _, _, _, (some _, cellM [_, _, _]), _, _, _, _]) rfl) (.cons_cons _ (.cons_cons _ (.cons_cons _ (.cons_cons _ (.cons_cons _ (.cons_cons _ (.cons_cons _ (.cons_cons _ (.cons_cons _ (.cons _ (.cons _ (.cons_cons _ (.cons_cons _ (.cons_cons _ .slnil)))))))))))))) (.fin0 (n := 15) mixed rfl (by kernel_rfl) (by kernel_rfl) (by kernel_rfl) (.w [6,7,8,9,105] rfl (stM rfl (st (.as (.cI 0 rfl)) rfl (nkQ k15 (.ret (rtXND (.cons _ (.cons _ (.cons _ (.cons _ (.cons _ (.cons _ (.cons _ (.cons _ (.cons _ (.cons _ (.cons _ (.cons _ (.cons _ (.cons _ .slnil)))))))))))))) (.inl rfl) Tryz.results15 rfl rfl (.cell rfl (i := 10) rfl ty24 rfl rfl (.cell rfl (i := 9) rfl ty24 rfl rfl (.tmp (.t rfl) (.tmp (.t rfl) .nil)))) ?_)))))))))))))))))))))
   exact ⟨c, ds', ls', us', k, _, _, rfl, rfl, ⟨by rw [← hP]; exact hPk, hS, by rw [← hP, hZl, hRw, hVl, hLl, hHl], by rw [← hP, hNl, hBy, hVl, hU0, hUl]⟩⟩
end Go.Proofs.YtlebmedapfncoaaGreat
namespace Go.Ll
open Go.Dt Go.Hp Go.Pz Go.En Go.Nt Go.Mz Go.Hn Go.Tr
structure BS (R C K : Nat) (L Bl : List Int) : Prop where
 len : Bl.length = rkL R C L * C
 bd : Bd Bl (32 * K + 241)
 eqv : Eqv (rkL R C L) R C (mf C Bl) (mf C L)
theorem GR.basis {R C K : Nat} {L : List Int} {p q : Int} {c : Nat} {ds : List Int} {ls us : List Row} {k : Nat} {Ml Wl : List Int} (h : GR R C L p q c ds ls us k Ml Wl) (hb : Bd L K) (hR : R ≤ 4) (hC : C ≤ 4) :
  BS R C K L (tab (rkL R C L * C) C fun i k => cf Ml ((R - rkL R C L + i) * C + k)) where
 len := tab_len _ _ _
 bd := Bd_tab fun i k => h.bd hb hR hC _
 eqv := (Eqv.of_eq fun i k hi hk => by show cf _ (i * C + k) = mf C Ml (R - rkL R C L + i) k; rw [cf_tab' _ hk (place_lt hi hk)]; rfl).trans (h.lat hb)
theorem BS.rank {R C K : Nat} {L Bl : List Int} (h : BS R C K L Bl) (hb : Bd L K) : rkL (rkL R C L) C Bl = rkL R C L := ((lat_same h.bd hb).2 h.eqv).1
theorem rowL_tab {C i : Nat} {L : List Int} : tab ((i + 1 - i) * C) C (fun a k => cf L ((i + a) * C + k)) = Hp.rowL C L i := by
 rw [Nat.add_sub_cancel_left, Nat.one_mul]
 refine ext_cf (by rw [tab_len, Hp.rowL_len]) fun j hj => ?_
 rw [tab_len] at hj
 have h1 := cf_tab' (N := C) (C := C) (i := 0) (k := j) (fun a k => cf L ((i + a) * C + k)) hj (by omega)
 rw [Nat.zero_mul, Nat.zero_add] at h1
 rw [h1, cf_rowL hj]; rfl
theorem zero_row {C i : Nat} {L : List Int} : (!decide (0 ≤ fir C (cf (Hp.rowL C L i)))) = true ↔ ∀ k, k < C → mf C L i k = 0 := by
 constructor
 ·intro h k hk
  rw [← cf_rowL hk]
  have h1 : ¬ 0 ≤ fir C (cf (Hp.rowL C L i)) := by simpa using h
  have h2 := fir_no (show fir C (cf (Hp.rowL C L i)) < 0 by omega)
  exact fc_zero (C := C) (by omega)
 ·intro h
  rw [fir_all fun j hj => by rw [cf_rowL hj]; exact h j hj]; decide
end Go.Ll
namespace Go.Hp
open Go.Dt Go.Hn Go.Pz Go.Nt Go.Mz Go.En
/-! ### multiples, columns -/
/-! ### meets -/
/-! ### sizes of small ones -/
/-! ### what becomes noughts -/
def zeroB (L : List Int) : Bool := decide (∀ j, j < L.length → cf L j = 0)
end Go.Hp
namespace Go.Proofs.YtlebmedapfncoaaGreat
open Go.En Go.RowKit
set_option maxRecDepth 10000
set_option maxHeartbeats 4000000
open Go.Nt
open Go.Pz
open Go.Mz
open Go.Hn
open Go.Hp
open Go.Dt
theorem hnf_Is {R C K : Nat} {xs : List (Bool × List Nat)} (hx : Bd (vals xs) K) (hK : K ≤ 400000000) (hR : R ≤ 64) (hC : C ≤ 64) (hl : xs.length = R * C) : Ctr Tryz.prog 46 [isM (R : Int) (C : Int) xs] (isB (hermB R C (mf C (vals xs)))) := by
 refine Ctr.i Tryz.func46 rfl Tryz.ntmps46 fun w0 F0 => .w [0] rfl ?_
 have hRC := side_le hR hC
 have hfo := formB_true hR hC hl
 refine .sr fun k1 => .box (.t rfl) rfl fun b1 => st (.as (.cB false)) rfl (nkQ k1 (.sq fun k2 => .sr fun k3 => st (.load (.t rfl) (i := 0) rfl ty24 rfl (Ss' := [_, _, _]) rfl) rfl (st (.eq (.call (zmat_Formed) (.cons (.t rfl) .nil)) ((show isB _ = isB true from isB_eq (hfo)))) rfl (st (.not (.t rfl)) rfl (nkQ k3 (.cd rfl (fun hc1 => ?_) (fun hc1 => ?_)))))))
 ·exfalso; simp at hc1
 ·refine .skip (.nk k2 (.sr fun k4 => st (.as (.cI (-1) rfl)) rfl (st (.as (.cB false)) rfl (nkQ k4 (.sq fun k5 => .sr fun k6 => st (.fieldAddr (.t rfl) fld24_0 ty3) rfl (st (.load1 (.t rfl) (i := 0) rfl ty3 rfl) rfl (st (.mv (.cI 0 rfl)) rfl (nkQ k6 (.w [1,2,3,4,14,15] rfl (.block (.loopF [1,14] (fun (z : { z : Nat × Int × Bool // z.1 ≤ R ∧ HermF z.1 C (mf C (vals xs)) ∧ (z.2.2 = true → 0 < z.1 ∧ fc C ((mf C (vals xs)) (z.1 - 1)) = C) ∧ (z.2.2 = false → z.2.1 = if z.1 = 0 then -1 else ((fc C ((mf C (vals xs)) (z.1 - 1)) : Nat) : Int)) }) => match z with | ⟨(i, last, ended), hI⟩ => [(15, isI (i : Int)), (3, isI last), (4, isB ended)]) (fun M => fun (z : { z : Nat × Int × Bool // z.1 ≤ R ∧ HermF z.1 C (mf C (vals xs)) ∧ (z.2.2 = true → 0 < z.1 ∧ fc C ((mf C (vals xs)) (z.1 - 1)) = C) ∧ (z.2.2 = false → z.2.1 = if z.1 = 0 then -1 else ((fc C ((mf C (vals xs)) (z.1 - 1)) : Nat) : Int)) }) => match z with | ⟨(i, last, ended), hI⟩ => M) (fun (z : { z : Nat × Int × Bool // z.1 ≤ R ∧ HermF z.1 C (mf C (vals xs)) ∧ (z.2.2 = true → 0 < z.1 ∧ fc C ((mf C (vals xs)) (z.1 - 1)) = C) ∧ (z.2.2 = false → z.2.1 = if z.1 = 0 then -1 else ((fc C ((mf C (vals xs)) (z.1 - 1)) : Nat) : Int)) }) => match z with | ⟨(i, last, ended), hI⟩ => R - i) (⟨(0, -1, false), Nat.zero_le _, fun i hi => absurd hi (Nat.not_lt_zero _), fun h => (by cases h), fun _ => rfl⟩) (Cv.mem (.c 15 rfl ?_ (.c 3 rfl ?_ (.c 4 rfl ?_ (.l [1,14] rfl)))) ?_) ?_)))))))))))
  ·rfl
  ·rfl
  ·rfl
  ·rfl
  rintro ⟨⟨i, last, ended⟩, hI⟩ K7 hK7
  refine .w [15,3,4,1,14] rfl ?_
  simp only [] at hI
  obtain ⟨hi, hF, hE1, hE2⟩ := hI
  refine .sr fun k8 => st (.ltI (.t rfl) (.t rfl)) rfl (nkQ k8 (.sq fun k9 => .cd rfl (fun hc2 => ?_) (fun hc2 => ?_)))
  ·refine .skip (.nk k9 (.sq fun k10 => .block (.sr fun k11 => stM rfl (stM rfl (nkQ k11 (.sr fun k12 => st (.load (.t rfl) (i := 0) rfl ty24 rfl (Ss' := [_, _, _]) rfl) rfl (stM rfl (st (.call (hnf_first (i := i) hx hK hR hC hl (by omega)) (.cons (.t rfl) (.cons (.t rfl) .nil))) rfl (stM rfl (nkQ k12 (.sq fun k13 => .sr fun k14 => stM rfl (st (.ltI (.t rfl) (.cI 0 rfl)) rfl (nkQ k14 (.cd rfl (fun hc3 => ?_) (fun hc3 => ?_)))))))))))))))
   ·have hfk := fir_no (by omega)
    refine .sr fun k15 => st (.as (.cB true)) rfl (nkQ k15 (.exit (.the (.blh (.nk k10 (.region (st (.addI (.t rfl) (.cI 1 rfl) (by first | omega | assumption) (by first | omega | assumption)) rfl (stM rfl (nl (.thn ?_))))))))))
    refine hK7 (⟨(i + 1, last, true), by show i + 1 ≤ R; omega, hF.snoc (fun hc => absurd hc hfk), fun _ => ⟨Nat.succ_pos _, by have := fc_le ((mf C (vals xs)) i) C; show (fc C ((mf C (vals xs)) i)) = C; omega⟩, fun h => (by cases h)⟩) _ _ ?_ (Cv.mem (.c 15 rfl ?_ (.c 3 rfl ?_ (.c 4 rfl ?_ (.l [1,14] rfl)))) ?_)
    ·show R - (i + 1) < R - i; omega
    ·exact isI_eq (by omega)
    ·rfl
    ·rfl
    ·rfl
   ·have hfk := fir_lt (by omega)
    have hbx : (List.length (words ((mf C (vals xs)) i (fc C ((mf C (vals xs)) i))).natAbs)) ≤ K := hx _
    have hne := fc_ne hfk
    refine .skip (.nk k13 (.sr fun k16 => st (.load (.t rfl) (i := 0) rfl ty24 rfl (Ss' := [_, _, _]) rfl) rfl (stM rfl (st (.eq (.mv (.t rfl)) ((show _ = isI ((fc C ((mf C (vals xs)) i)) : Int) from isI_eq (if_pos hfk)))) rfl (st (.eq (.call (zmat_At (i := i) (k := (fc C ((mf C (vals xs)) i))) hx (by omega) hR hC hl (by omega) hfk) (.cons (.t rfl) (.cons (.t rfl) (.cons (.t rfl) .nil)))) ((show _ = isZ ((mf C (vals xs)) i (fc C ((mf C (vals xs)) i))) from rfl))) rfl (.alloc [isB false, SlM isU []] zero33 (fun _ _ => ⟨rfl, nilM _ _, trivial⟩) rfl fun b2 => .store (.t rfl) (.t rfl) (i := 0) rfl ty33 rfl rfl (Ss' := [_, _]) rfl (M' := [(some _, cellM [_, _]), _]) rfl (nkQ k16 (.sq fun k17 => .sr fun k18 => stM rfl (stM rfl (stF rfl rfl (fun hg => .eq (.mv (.t rfl)) ((show _ = isI ((fc C ((mf C (vals xs)) i)) : Int) from isI_eq (if_pos hfk)))) rfl (stF rfl rfl (fun hg => .mv (.t rfl)) rfl (stF rfl rfl (fun hg => .leI (Has.g rfl hg) (Has.g rfl hg)) rfl (st (.pickOr (.t rfl) (fun h => Has.g rfl (ng h))) rfl (stM rfl (stF rfl rfl (fun hg => .load (.t rfl) (i := 0) rfl ty33 rfl (Ss' := [_, _]) rfl) rfl ?_)))))))))))))))
    refine stF rfl rfl (fun hg => have hg' := BP.t hg; OK1.eq (.call (zint_Sign (by rw [val_words]; omega)) (.cons (Has.g rfl hg) .nil)) ((show _ = isI (sgn ((mf C (vals xs)) i (fc C ((mf C (vals xs)) i)))) from isI_eq (by rw [zv_nf])))) rfl ?_
    refine stF rfl rfl (fun hg => .ltI (Has.g rfl hg) (.cI 0 rfl)) rfl (st (.pickOr (.t rfl) (fun h => Has.g rfl (ng h))) rfl (nkQ k18 (.cd rfl (fun hc4 => ?_) (fun hc4 => ?_))))
    ·have HX131 := hc4
     refine .sr fun k19 => st (.as (.cB false)) rfl (nkQ k19 (.ret (.thr (.blr (.thr (.thr (.blr (.thr (rt1 (.inl rfl) Tryz.results46 rfl (.tmp (Has.t' rfl ?_) .nil))))))))))
     all_goals (exact isB_eq (hermB_no fun hh => is_dead131 (by omega) hfk hh hE1 hE2 (by simpa [or_assoc] using HX131)))
    ·have hen : ended = false := by simpa using hc4.1.1
     have hpos : 0 < (mf C (vals xs)) i (fc C ((mf C (vals xs)) i)) := by
      have h2 := mt (sgn_lt ((mf C (vals xs)) i (fc C ((mf C (vals xs)) i)))).2
      omega
     refine .skip (.nk k17 (.sq fun k20 => .sr fun k21 => stM rfl (st (.mv (.cI 0 rfl)) rfl (nkQ k21 (.block (.loopF [1,14,15,3,4,16,17,5,18,19,20,6,21,22,23,24,25,26,7,27,28,29,30,31,32,33,34,35,36,37,38] (fun (z : { r : Nat // r ≤ i ∧ ∀ j, j < r → 0 ≤ (mf C (vals xs)) j (fc C ((mf C (vals xs)) i)) ∧ (mf C (vals xs)) j (fc C ((mf C (vals xs)) i)) < (mf C (vals xs)) i (fc C ((mf C (vals xs)) i)) }) => match z with | ⟨r, hI2⟩ => [(39, isI (r : Int))]) (fun M => fun (z : { r : Nat // r ≤ i ∧ ∀ j, j < r → 0 ≤ (mf C (vals xs)) j (fc C ((mf C (vals xs)) i)) ∧ (mf C (vals xs)) j (fc C ((mf C (vals xs)) i)) < (mf C (vals xs)) i (fc C ((mf C (vals xs)) i)) }) => match z with | ⟨r, hI2⟩ => M) (fun (z : { r : Nat // r ≤ i ∧ ∀ j, j < r → 0 ≤ (mf C (vals xs)) j (fc C ((mf C (vals xs)) i)) ∧ (mf C (vals xs)) j (fc C ((mf C (vals xs)) i)) < (mf C (vals xs)) i (fc C ((mf C (vals xs)) i)) }) => match z with | ⟨r, hI2⟩ => i - r) (⟨0, Nat.zero_le _, fun j hj => absurd hj (Nat.not_lt_zero _)⟩) (Cv.mem (.c 39 rfl ?_ (.l [1,14,15,3,4,16,17,5,18,19,20,6,21,22,23,24,25,26,7,27,28,29,30,31,32,33,34,35,36,37,38] rfl)) ?_) ?_))))))
     ·rfl
     ·rfl
     rintro ⟨r, hr, hI2⟩ K22 hK22
     refine .w [39,1,14,15,3,4,16,17,5,18,19,20,6,21,22,23,24,25,26,7,27,28,29,30,31,32,33,34,35,36,37,38] rfl (.sr fun k23 => st (.ltI (.t rfl) (.t rfl)) rfl (nkQ k23 (.sq fun k24 => .cd rfl (fun hc5 => ?_) (fun hc5 => ?_))))
     ·have hbr : (List.length (words ((mf C (vals xs)) r (fc C ((mf C (vals xs)) i))).natAbs)) ≤ K := hx _
      refine .skip (.nk k24 (.sq fun k25 => .block (.sr fun k26 => stM rfl (stM rfl (nkQ k26 (.sr fun k27 => st (.load (.t rfl) (i := 1) rfl ty24 rfl (Ss' := [_, _, _]) rfl) rfl (stM rfl (st (.eq (.mv (.t rfl)) ((show _ = isI ((fc C ((mf C (vals xs)) i)) : Int) from isI_eq (if_pos hfk)))) rfl (st (.eq (.call (zmat_At (i := r) (k := (fc C ((mf C (vals xs)) i))) hx (by omega) hR hC hl (by omega) hfk) (.cons (.t rfl) (.cons (.t rfl) (.cons (.t rfl) .nil)))) ((show _ = isZ ((mf C (vals xs)) r (fc C ((mf C (vals xs)) i))) from rfl))) rfl (.alloc [isB false, SlM isU []] zero33 (fun _ _ => ⟨rfl, nilM _ _, trivial⟩) rfl fun b3 => .store (.t rfl) (.t rfl) (i := 0) rfl ty33 rfl rfl (Ss' := [_, _]) rfl (M' := [(some _, cellM [_, _]), _, _]) rfl (nkQ k27 (.sr fun k28 => st (.load (.t rfl) (i := 0) rfl ty33 rfl (Ss' := [_, _]) rfl) rfl (st (.eq (.call (zint_Sign (by rw [val_words]; omega)) (.cons (.t rfl) .nil)) ((show _ = isI (sgn ((mf C (vals xs)) r (fc C ((mf C (vals xs)) i)))) from isI_eq (by rw [zv_nf])))) rfl ?_)))))))))))))
      refine st (.ltI (.t rfl) (.cI 0 rfl)) rfl (stM rfl (stF rfl rfl (fun hg => .load (.t rfl) (i := 0) rfl ty33 rfl (Ss' := [_, _]) rfl) rfl (stF rfl rfl (fun hg => .load (.t rfl) (i := 1) rfl ty33 rfl (Ss' := [_, _]) rfl) rfl ?_)))
      refine stF rfl rfl (fun hg => have hg' := BP.t hg; OK1.eq (.call (zint_Cmp (by rw [val_words]; omega) (by rw [val_words]; omega)) (.cons (Has.g rfl hg) (.cons (Has.g rfl hg) .nil))) ((show _ = isI (cmpZ ((mf C (vals xs)) r (fc C ((mf C (vals xs)) i))) ((mf C (vals xs)) i (fc C ((mf C (vals xs)) i)))) from isI_eq (by rw [zv_nf, zv_nf])))) rfl ?_
      refine stF rfl rfl (fun hg => .geI (Has.g rfl hg) (.cI 0 rfl)) rfl (st (.pickOr (.t rfl) (fun h => Has.g rfl (ng h))) rfl (nkQ k28 (.cd rfl (fun hc6 => ?_) (fun hc6 => ?_))))
      ·refine .sr fun k29 => st (.as (.cB false)) rfl (nkQ k29 (.ret (.blr (.thr (.thr (.blr (.thr (.blr (.thr (.thr (.blr (.thr (rt1 (.inl rfl) Tryz.results46 rfl (.tmp (Has.t' rfl ?_) .nil))))))))))))))
       all_goals (exact isB_eq (hermB_no fun hh => by have hsl := sgn_lt ((mf C (vals xs)) r (fc C ((mf C (vals xs)) i))); have hcz := cmpZ_cases ((mf C (vals xs)) r (fc C ((mf C (vals xs)) i))) ((mf C (vals xs)) i (fc C ((mf C (vals xs)) i))); have hx1 := (hh i (by omega) hfk).2.2 r (by omega); omega))
      ·have hrow : 0 ≤ (mf C (vals xs)) r (fc C ((mf C (vals xs)) i)) ∧ (mf C (vals xs)) r (fc C ((mf C (vals xs)) i)) < (mf C (vals xs)) i (fc C ((mf C (vals xs)) i)) := by
        have h1 := mt (sgn_lt ((mf C (vals xs)) r (fc C ((mf C (vals xs)) i)))).2
        have h2 := cmpZ_cases ((mf C (vals xs)) r (fc C ((mf C (vals xs)) i))) ((mf C (vals xs)) i (fc C ((mf C (vals xs)) i)))
        omega
       refine .skip (.bln (.nk k25 (.region (st (.addI (.t rfl) (.cI 1 rfl) (by first | omega | assumption) (by first | omega | assumption)) rfl (stM rfl (nl (.thn ?_)))))))
       refine hK22 (⟨r + 1, by omega, fun j hj => by rcases Nat.lt_or_ge j r with h | h; exact hI2 j h; obtain rfl : j = r := (by omega); exact hrow⟩) _ _ ?_ (Cv.trans (Cv.drop ((.cons _ (.cons_cons _ (.cons_cons _ .slnil))))) (Cv.mem (.c 39 rfl ?_ (.l [1,14,15,3,4,16,17,5,18,19,20,6,21,22,23,24,25,26,7,27,28,29,30,31,32,33,34,35,36,37,38] rfl)) ?_))
       ·show i - (r + 1) < i - r; omega
       ·exact isI_eq (by omega)
       ·rfl
     ·refine .exit (.the (.the (.blh (.nk k20 (.region (st (.eq (.mv (.t rfl)) ((show _ = isI ((fc C ((mf C (vals xs)) i)) : Int) from isI_eq (if_pos hfk)))) rfl (stM rfl (nl (.bln (.nk k10 (.region (st (.addI (.t rfl) (.cI 1 rfl) (by first | omega | assumption) (by first | omega | assumption)) rfl (stM rfl (nl (.thn ?_)))))))))))))))
      refine hK7 (⟨(i + 1, ((fc C ((mf C (vals xs)) i)) : Int), ended), by show i + 1 ≤ R; omega, hF.snoc (fun _ => ⟨fun h0 => by have := hE2 hen; rw [if_neg (by omega)] at this; omega, hpos, fun r' hr' => hI2 r' (by omega)⟩), fun h => (by subst hen; cases h), fun _ => by show ((fc C ((mf C (vals xs)) i)) : Int) = if i + 1 = 0 then -1 else _; rw [if_neg (by omega)]; rfl⟩) _ _ ?_ (Cv.trans (Cv.drop ((.cons _ (.cons_cons _ .slnil)))) (Cv.mem (.c 15 rfl ?_ (.c 3 rfl ?_ (.c 4 rfl ?_ (.l [1,14] rfl)))) ?_))
      ·show R - (i + 1) < R - i; omega
      ·exact isI_eq (by omega)
      ·rfl
      ·rfl
      ·rfl
  ·refine .exit (.the (.the (.blh (.nk k5 (.cv (Cv.wk .nil) (.sr fun k30 => st (.as (.cB true)) rfl (nkQ k30 (.ret (rt1 (.inl rfl) Tryz.results46 rfl (.tmp (Has.t' rfl ?_) .nil))))))))))
   all_goals (exact isB_eq (hermB_yes (by rw [show R = i by omega]; exact hF)))
theorem clone_Zs {xs : List (Bool × List Nat)} (hx : xs.length ≤ 4294967296) : Ctr Tryz.prog 47 [SlK 2 zc xs] (SlK 2 zc xs) := by
 refine Ctr.i Tryz.func47 rfl Tryz.ntmps47 fun w0 F0 => .w [0] rfl (.fact (Has.lenLt (Has.t (t := 0) rfl)) fun lt0 => .sr fun k1 => st (.as (.cWK (k := 2) (fk := zc))) rfl (nkQ k1 (.sq fun k2 => .sr fun k3 => stM rfl (.eqNilK sl22 (.t rfl) rfl fun bn1 hn1 => nkQ k3 (.cd rfl (fun hc2 => ?_) (fun hc2 => ?_))))))
 ·refine .sr fun k4 => st (.as (.cWK (k := 2) (fk := zc))) rfl (nkQ k4 (.ret (.thr (rt1 (.inl rfl) Tryz.results47 rfl (.tmp (Has.t' rfl ?_) .nil)))))
  all_goals (rw [hn1 hc2])
 ·refine .skip (.nk k2 (.sr fun k5 => .buildS0 sl22 ty33 rfl (stM rfl (st (.appendZK sl22 ty33 zero33 by33 (.t rfl) (.t rfl) (by first | omega | assumption)) rfl (stM rfl (nkQ k5 (.w [2] rfl (.ret (rt1 (.inl rfl) Tryz.results47 rfl (.tmp (Has.t' rfl ?_) .nil))))))))))
  all_goals (rfl)
theorem sl_ContainsFuncZ {xs : List (Bool × List Nat)} {K : Nat} (hx : Bd (vals xs) K) : Ctr Tryz.prog 39 [SlK 2 zc xs, isFun (ι := { p : Bool × List Nat // (List.length (words (val p.2))) ≤ K }) Tryz.prog (fun p => [Flat (zc p.1)]) (fun p => isB (decide (zv p.1.1 p.1.2 ≠ 0)))] (isB (decide (0 ≤ fir xs.length (cf (vals xs))))) := by
 refine Ctr.i Tryz.func39 rfl Tryz.ntmps39 fun w0 F0 => .w [0,1] rfl (.fact (Has.lenLt (Has.t (t := 0) rfl)) fun lt0 => .sr fun k1 => st (.as (.cB false)) rfl (nkQ k1 (.sr fun k2 => stM rfl (stM rfl (st (.call (sl_IndexFuncZ hx) (.cons (.t rfl) (.cons (.t rfl) .nil))) rfl (st (.geI (.t rfl) (.cI 0 rfl)) rfl (stM rfl (nkQ k2 (.w [4] rfl (.ret (rt1 (.inl rfl) Tryz.results39 rfl (.tmp (Has.t' rfl ?_) .nil))))))))))))
 all_goals (rfl)
theorem hnf_Coordinates_1 {m : Bool} {xs : List Nat} (hx : (List.length (words (val xs))) < 4294700000) : Ctr Tryz.prog 51 [Flat [isB m, isWords xs]] (isB (decide (zv m xs ≠ 0))) := by
 refine Ctr.i Tryz.func51 rfl Tryz.ntmps51 fun w0 F0 => .w [0] rfl (.fact (Has.okZ (Has.t (t := 0) rfl)) fun okz0 => .sr fun k1 => .box (.t rfl) rfl fun b1 => st (.as (.cB false)) rfl (nkQ k1 (.sr fun k2 => st (.load (.t rfl) (i := 0) rfl ty33 rfl (Ss' := [_, _]) rfl) rfl (st (.call (zint_Sign (by omega)) (.cons (.t rfl) .nil)) rfl (st (.neI (.t rfl) (.cI 0 rfl)) rfl (stM rfl (nkQ k2 (.w [2] rfl (.ret (rt1 (.inl rfl) Tryz.results51 rfl (.tmp (Has.t' rfl ?_) .nil)))))))))))
 all_goals (exact isB_eq (by simp [sgn_eq0]))
theorem hnf_Coordinates {R C K Kv : Nat} {xs vs : List (Bool × List Nat)} (hx : Bd (vals xs) K) (hR : R ≤ 64) (hC : C ≤ 64) (hl : xs.length = R * C) (hv : Bd (vals vs) Kv) (hvl : vs.length = C) (hK : Kv + (R + 1) * (K + 2) ≤ 100000000) (hF : HermF R C (mf C (vals xs))) : Ctr Tryz.prog 26 [isM (R : Int) (C : Int) xs, SlK 2 zc vs] (isTup [isP (if spB R C (mf C (vals xs)) (cf (vals vs)) = true then coL R C (pivL C (mf C (vals xs)) R).length (vals xs) (vals vs) else []), isI (if spB R C (mf C (vals xs)) (cf (vals vs)) = true then 0 else 10)]) := by
 refine Ctr.i Tryz.func26 rfl Tryz.ntmps26 fun w0 F0 => .w [0,1] rfl (.fact (Has.lenLt (Has.t (t := 1) rfl)) fun lt1 => ?_)
 have hRC := side_le hR hC
 have hK1 : K + 2 ≤ (R + 1) * (K + 2) := Nat.le_mul_of_pos_left _ (Nat.succ_pos R)
 have hfo := formB_true hR hC hl
 obtain ⟨P, hP, hp1, hp2, hpl⟩ := herm_piv hF
 have hPl : (pivL C (mf C (vals xs)) R).length = P := by rw [hpl, List.length_map, List.length_range]
 rw [hPl]
 have hpv := pv_len ((List.range P).map fun i => fc C ((mf C (vals xs)) i))
 rw [List.length_map, List.length_range] at hpv
 have hvv : (vals vs).length = C := by rw [vals_len]; exact hvl
 have hpos : ∀ i, i < P → 0 < (mf C (vals xs)) i (fc C ((mf C (vals xs)) i)) := fun i hi => (hF i (by omega) (hp1 i hi)).2.1
 refine .sr fun k1 => .box (.t rfl) rfl fun b1 => st (.as (.cWK (k := 2) (fk := zc))) rfl (st (.as (.cI 0 rfl)) rfl (nkQ k1 (.sq fun k2 => .block (.sr fun k3 => st (.load (.t rfl) (i := 0) rfl ty24 rfl (Ss' := [_, _, _]) rfl) rfl (st (.eq (.call (zmat_Formed) (.cons (.t rfl) .nil)) ((show isB _ = isB true from isB_eq (hfo)))) rfl (st (.not (.t rfl)) rfl (stM rfl (stF rfl rfl (fun hg => .mv (.t rfl)) rfl (stF rfl rfl (fun hg => .len sl22 (Has.g rfl hg)) rfl (stF rfl rfl (fun hg => .fieldAddr (.t rfl) fld24_1 ty3) rfl (stF rfl rfl (fun hg => .load1 (Has.g rfl hg) (i := 0) rfl ty3 rfl) rfl (stF rfl rfl (fun hg => .neI (Has.g rfl hg) (Has.g rfl hg)) rfl (st (.pickOr (.t rfl) (fun h => Has.g rfl (ng h))) rfl (stM rfl (nkQ k3 (.w [1,2,4,5,14] rfl (.cd rfl (fun hc1 => ?_) (fun hc1 => ?_))))))))))))))))))
 ·exfalso; omega
 ·refine .sr fun k4 => st (.load (.t rfl) (i := 0) rfl ty24 rfl (Ss' := [_, _, _]) rfl) rfl (st (.eq (.call (hnf_Is (K := K) hx (by omega) hR hC hl) (.cons (.t rfl) .nil)) ((show isB _ = isB true from isB_eq (hermB_iff.2 hF)))) rfl (st (.not (.t rfl)) rfl (stM rfl (nkQ k4 (.cd rfl (fun hc2 => ?_) (fun hc2 => ?_))))))
  ·exfalso; simp at hc2
  ·refine .skip (.bln (.nk k2 (.w [1,2,4,5] rfl (.sr fun k5 => stM rfl (st (.call (clone_Zs (by omega)) (.cons (.t rfl) .nil)) rfl (stM rfl (nkQ k5 (.sr fun k6 => st (.fieldAddr (.t rfl) fld24_0 ty3) rfl (st (.load1 (.t rfl) (i := 0) rfl ty3 rfl) rfl (.makeK (fk := zc) (u := (false, [])) (n := R) (c := R) sl22 ty33 zero33 (fun _ _ => ⟨rfl, nilM _ _, trivial⟩) zc_len by33 (Has.t' rfl rfl) (Has.t' rfl rfl) (by omega) rfl fun b2 => stM rfl (nkQ k6 (.w [2,4,5,6,7] rfl (.sq fun k7 => .sr fun k8 => st (.load (.t rfl) (i := 1) rfl ty24 rfl (Ss' := [_, _, _]) rfl) rfl (st (.eq (.call (hnf_Pivots (K := K) hx (by omega) hR hC hl) (.cons (.t rfl) .nil)) ((show _ = SlM isI (pv ((List.range P).map fun i => fc C ((mf C (vals xs)) i))) from by rw [hpl]))) rfl (st (.eq (.len sl55 (.t rfl)) ((show isI _ = isI (P : Int) from isI_eq (by rw [hpv])))) rfl (st (.mv (.cI 0 rfl)) rfl (nkQ k8 (.block (.loopF [2,4,5,7,35,36] (fun (z : { z : Nat × List (Bool × List Nat) // z.1 ≤ P ∧ vals z.2 = crs C (vals xs) (vals vs) z.1 }) => match z with | ⟨(n, ys), hI⟩ => [(37, isI (n : Int)), (6, SlK 2 zc ys)]) (fun M => fun (z : { z : Nat × List (Bool × List Nat) // z.1 ≤ P ∧ vals z.2 = crs C (vals xs) (vals vs) z.1 }) => match z with | ⟨(n, ys), hI⟩ => [(some b2, cellM ((fill ((coL R C P (vals xs) (vals vs)).map nz) n (false, [])).flatMap zc)), (some b1, cellM [isI (R : Int), isI (C : Int), SlK 2 zc xs])]) (fun (z : { z : Nat × List (Bool × List Nat) // z.1 ≤ P ∧ vals z.2 = crs C (vals xs) (vals vs) z.1 }) => match z with | ⟨(n, ys), hI⟩ => P - n) (⟨(0, vs), Nat.zero_le _, rfl⟩) (Cv.mem (.c 37 rfl ?_ (.c 6 rfl ?_ (.l [2,4,5,7,35,36] rfl))) ?_) ?_)))))))))))))))))))
   ·rfl
   ·rfl
   ·exact memZ_eq (by rw [fill_zero, List.length_map, coL_len])
   rintro ⟨⟨n, ys⟩, hI⟩ K9 hK9
   refine .w [37,6,2,4,5,7,35,36] rfl (.memEq (M' := [(some b2, cellM ((fill ((coL R C P (vals xs) (vals vs)).map nz) n (false, [])).flatMap zc)), (some b1, cellM [isI (R : Int), isI (C : Int), SlK 2 zc xs])]) rfl ?_)
   simp only [] at hI
   obtain ⟨hn, hyv⟩ := hI
   have hyl : ys.length = C := by rw [← vals_len, hyv]; exact crs_len hvv n
   have hnK : n * (K + 2) ≤ (R + 1) * (K + 2) := Nat.mul_le_mul_right _ (by omega)
   have hyb : Bd (vals ys) (Kv + n * (K + 2)) := by rw [hyv]; exact crs_bd hx hv n fun i hi => hpos i (by omega)
   refine .sr fun k10 => st (.ltI (.t rfl) (.t rfl)) rfl (nkQ k10 (.sq fun k11 => .cd rfl (fun hc3 => ?_) (fun hc3 => ?_)))
   ·have hnP : n < P := (by omega)
    have hfn := hp1 n hnP
    have hpl1 : (n + 1) * C ≤ R * C := Nat.mul_le_mul_right _ (show n + 1 ≤ R by omega)
    have hpl2 : (n + 1) * C = n * C + C := Nat.succ_mul _ _
    have hc1 : ((n : Int) * (C : Int)) = ((n * C : Nat) : Int) := (Int.natCast_mul n C).symm
    have hc2 : (((n : Int) + 1) * (C : Int)) = (((n + 1) * C : Nat) : Int) := by rw [Int.natCast_mul]; rfl
    obtain ⟨rw', hrw'⟩ : ∃ r, r = (xs.take ((n + 1) * C)).drop (n * C) := ⟨_, rfl⟩
    have hrv : vals rw' = Go.Hp.rowL C (vals xs) n := by rw [hrw']; exact rowL_of (by omega)
    have hrl : rw'.length = C := by rw [← vals_len, hrv, Go.Hp.rowL_len]
    have hrc : ∀ k, k < C → cf (vals rw') k = (mf C (vals xs)) n k := fun k hk => by rw [hrv]; exact cf_rowL hk
    have hrb : Bd (vals rw') K := fun k => by
     rcases Nat.lt_or_ge k C with h | h
     ·rw [hrc k h]; exact hx _
     ·rw [cf_high (by rw [vals_len]; omega), Int.natAbs_zero, words_zero]; exact Nat.zero_le _
    have hpn : (pv ((List.range P).map fun i => fc C ((mf C (vals xs)) i)))[n]? = some (((fc C ((mf C (vals xs)) n)) : Nat) : Int) := by unfold pv; rw [List.getElem?_map, List.getElem?_map, List.getElem?_range hnP]; rfl
    have hcn : (List.length (words (crn C (vals xs) (vals vs) n).natAbs)) ≤ Kv + n * (K + 2) := by unfold crn; rw [← hyv]; exact div_nw (hpos n hnP) (hyb _)
    refine .skip (.nk k11 (.sq fun k12 => .block (.sr fun k13 => stM rfl (st (.ixP sl55 ty3 (.t rfl) (.t rfl) (by omega) hpn) rfl (st (.loadP1 (.t rfl) ty3) rfl (stM rfl (stM rfl (nkQ k13 (.sr fun k14 => st (.fieldAddr (.t rfl) fld24_2 ty22) rfl (st (.load1 (.t rfl) (i := 1) rfl ty22 rfl) rfl (stM rfl (st (.fieldAddr (.t rfl) fld24_1 ty3) rfl (st (.load1 (.t rfl) (i := 1) rfl ty3 rfl) rfl (st (.eq (.mulI (.t rfl) (.t rfl) (by first | omega | (rw [hc1]; omega) | (rw [hc2]; omega)) (by first | omega | (rw [hc1]; omega) | (rw [hc2]; omega))) ((show isI _ = isI ((n * C : Nat) : Int) from isI_eq hc1))) rfl ?_))))))))))))))
    refine stM rfl (st (.addI (.t rfl) (.cI 1 rfl) (by first | omega | (rw [hc1]; omega) | (rw [hc2]; omega)) (by first | omega | (rw [hc1]; omega) | (rw [hc2]; omega))) rfl ?_)
    refine st (.fieldAddr (.t rfl) fld24_1 ty3) rfl (st (.load1 (.t rfl) (i := 1) rfl ty3 rfl) rfl (st (.eq (.mulI (.t rfl) (.t rfl) (by first | omega | (rw [hc1]; omega) | (rw [hc2]; omega)) (by first | omega | (rw [hc1]; omega) | (rw [hc2]; omega))) ((show isI _ = isI (((n + 1) * C : Nat) : Int) from isI_eq hc2))) rfl ?_))
    refine st (.eq (.slLHK sl22 ty33 zc_len (.t rfl) (.t rfl) (.t rfl) ⟨by omega, by omega, by omega⟩) ((show _ = SlK 2 zc rw' from SlK_eq (by rw [hrw']; rfl)))) rfl ?_
    refine stM rfl (nkQ k14 (.sq fun k15 => .drh [true, true] (Ms := [_, _]) rfl (.m [] rfl (.m [] rfl (.so [55,56] rfl (.ixK sl22 ty33 (.t rfl) (.t rfl) zc_len (by omega) (getD_some (d := (false, [])) (by first | omega | (simp only [Int.toNat_natCast, List.length_set]; omega)))) ?_)))))
    refine .so [57] rfl (.loadP (.t rfl) ty33 rfl (Ss' := [_, _]) rfl) (.m [] rfl (.m [] rfl (.so [59,60] rfl (.ixK sl22 ty33 (.t rfl) (.t rfl) zc_len (by omega) (getD_some (d := (false, [])) (by first | omega | (simp only [Int.toNat_natCast, List.length_set]; omega)))) ?_)))
    refine .so [61] rfl (.loadP (.t rfl) ty33 rfl (Ss' := [_, _]) rfl) ?_
    refine .so [58,62] rfl (.eq (.call (zint_Floor (by show (List.length (words (val (ys.getD (fc C ((mf C (vals xs)) n)) (false, [])).2))) < _; have := hyb.raw (fc C ((mf C (vals xs)) n)); omega) (by show (List.length (words (val (rw'.getD (fc C ((mf C (vals xs)) n)) (false, [])).2))) < _; have := hrb.raw (fc C ((mf C (vals xs)) n)); omega) (by show 0 < zv (rw'.getD (fc C ((mf C (vals xs)) n)) (false, [])).1 (rw'.getD (fc C ((mf C (vals xs)) n)) (false, [])).2; rw [← cf_vals, hrc _ hfn]; exact hpos n hnP)) (.cons (.t rfl) (.cons (.t rfl) .nil))) ((show _ = isTup [isZ (crn C (vals xs) (vals vs) n), isZ (cf (crs C (vals xs) (vals vs) n) (fc C ((mf C (vals xs)) n)) % (mf C (vals xs)) n (fc C ((mf C (vals xs)) n))), isB true] from by rw [show (mf C (vals xs)) n (fc C ((mf C (vals xs)) n)) = cf (vals rw') (fc C ((mf C (vals xs)) n)) from (hrc _ hfn).symm, show (crn C (vals xs) (vals vs) n) = cf (vals ys) (fc C ((mf C (vals xs)) n)) / cf (vals rw') (fc C ((mf C (vals xs)) n)) from by unfold crn; rw [hyv, hrc _ hfn], ← hyv, cf_vals, cf_vals]; rfl))) ?_
    refine .m [63] rfl (.so [54] rfl (.ext (.t rfl) rfl) (.so [54] rfl (.ext (.t rfl) rfl) (.so [54] rfl (.ext (.t rfl) rfl) (.als2 (n1 := 15) (ds := [11,12]) (zs := [[isB false, SlM isU []], [isB false, SlM isU []]]) rfl (.cons rfl rfl zero33 (fun _ _ => ⟨rfl, nilM _ _, trivial⟩) (.cons rfl rfl zero33 (fun _ _ => ⟨rfl, nilM _ _, trivial⟩) .nil)) (.cons_cons _ (.cons_cons _ .slnil)) (Cs := [_, _]) rfl (.new [64] 0 (Ss' := [_, _]) (Cs' := [cellM [_, _], _]) rfl (by kernel_rfl) (by kernel_rfl) rfl rfl rfl (by kernel_rfl) rfl (.t rfl) ty33 rfl rfl rfl rfl (.new [65] 1 (Ss' := [_, _]) (Cs' := [_, cellM [_, _]]) rfl (by kernel_rfl) (by kernel_rfl) rfl rfl rfl (by kernel_rfl) rfl (.t rfl) ty33 rfl rfl rfl rfl (.fn (n := 17) mixed rfl (fun bs hbs => ?_))))))))
    obtain ⟨b3, b4, rfl⟩ := len2 hbs
    refine .memEq (M' := [_, _, _, _]) rfl (.cv (Cv.wk (.k 2 rfl (.k 4 rfl (.k 5 rfl (.k 7 rfl (.k 35 rfl (.k 36 rfl (.k 37 rfl (.k 6 rfl (.k 38 rfl (.k 39 rfl (.k 40 rfl (.k 41 rfl (.k 8 rfl (.k 9 rfl (.k 42 rfl (.k 43 rfl (.k 44 rfl (.k 45 rfl (.k 46 rfl (.k 47 rfl (.k 48 rfl (.k 49 rfl (.k 50 rfl (.k 51 rfl (.k 52 rfl (.k 53 rfl (.k 10 rfl (.k 55 rfl (.k 56 rfl (.k 57 rfl (.k 58 rfl (.k 59 rfl (.k 60 rfl (.k 61 rfl (.k 62 rfl (.k 63 rfl (.k 54 rfl (.k 64 rfl (.k 65 rfl (.k 66 rfl (.cons (t := 11) (Has.op rfl) (.cons (t := 12) (Has.op rfl) .nil))))))))))))))))))))))))))))))))))))))))))) (stM rfl (nkQ k15 (.dry mixed (.u 0 rfl (.mv (.t rfl)) (.u 1 rfl (.mv (.t rfl)) (.u 3 rfl (.mv (.t rfl)) (.u 6 rfl (.mv (.t rfl)) (.w [2,4,5,7,35,36,37,38,39,40,41,8,9,42,43,44,45,46,47,48,49,50,51,52,53,10,55,56,57,58,59,60,61,62,63,54,64,65,66,11,12,13,67,68,70,73] rfl (.go [] (.so 2 [] rfl (.call (zint_Of) (.cons (.cI 1 rfl) .nil)) (.so 4 [] rfl (.load (.t rfl) (i := 0) rfl ty33 rfl (Ss' := [_, _]) rfl) (.so 5 [71] rfl (.call (zint_Neg (by rw [val_words]; omega)) (.cons (.t rfl) .nil)) ?_)))))))))))))
    refine .so 7 [69,72] rfl (.eq (.call (hnf_mixed (A := 1) (B := Kv + n * (K + 2)) (K := Kv + n * (K + 2)) (L := K) (by rw [val_words]; exact nw_small' (by decide)) hyb (by rw [val_words, zv_nf, Int.natAbs_neg]; exact hcn) hrb (by omega) (by omega) (by omega) (by omega)) (.cons (.t rfl) (.cons (.t rfl) (.cons (.t rfl) (.cons (.t rfl) .nil))))) ((show _ = isP (crs C (vals xs) (vals vs) (n + 1)) from isPl_eq (by simp only [zv_nf]; rw [hyv, hrv]; rfl)))) ?_
    refine .so 8 [] rfl (.eq (.load (.t rfl) (i := 0) rfl ty33 rfl (Ss' := [_, _]) rfl) ((show _ = Flat (zc (nz (crn C (vals xs) (vals vs) n))) from rfl))) (.m 9 [74] rfl (.fn [10,11] (.w [2,4,5,7,35,36,37,38,39,40,41,8,9,42,43,44,45,46,47,48,49,50,51,52,53,10,55,56,57,58,59,60,61,62,63,54,64,65,66,11,12,67,68,70,73,69,71,72,74,75,6] rfl (st (.eq (.ixWin sl22 ty33 (.t rfl) (.t rfl) (by omega)) (isPtr_eq (by first | exact ixo0 | exact ixo2 | exact ixo1))) rfl (.storeK (z := nz (crn C (vals xs) (vals vs) n)) zc_len (.t rfl) (.t rfl) (i := 2) rfl ty33 (by rw [fill_len _ _ _ (by rw [List.length_map, coL_len]; omega), List.length_map, coL_len]; simp only [Int.toNat_natCast]; omega) (M' := [_, _, (_, _), _]) rfl ?_)))))
    refine nl (.bln (.nk k12 (.region (st (.addI (.t rfl) (.cI 1 rfl) (by first | omega | assumption) (by first | omega | assumption)) rfl (stM rfl (nl (.thn ?_)))))))
    refine hK9 (⟨(n + 1, (crs C (vals xs) (vals vs) (n + 1)).map nz), by show n + 1 ≤ P; omega, vals_nz _⟩) _ _ ?_ (Cv.trans (Cv.drop ((.cons _ (.cons _ (.cons_cons _ (.cons_cons _ .slnil)))))) (Cv.mem (.c 37 rfl ?_ (.c 6 rfl ?_ (.l [2,4,5,7,35,36] rfl))) ?_))
    ·show P - (n + 1) < P - n; omega
    ·exact isI_eq (by omega)
    ·rfl
    ·exact memF_eq (coL_at (by omega) hP)
   ·refine .exit (.the (.the (.blh (.nk k7 (.w [4,5,7,6] rfl (.sq fun k16 => .sr fun k17 => stM rfl (st (.eq (.call (sl_ContainsFuncZ (K := Kv + n * (K + 2)) hyb) (.cons (.t rfl) (.cons (Has.fn (fun p => hnf_Coordinates_1 (Nat.lt_of_le_of_lt p.2 (by omega)))) .nil))) ((show _ = isB (!spB R C (mf C (vals xs)) (cf (vals vs))) from isB_eq (by rw [hyl, hyv, show n = P by omega]; exact left_sp hF hvv hP hp1 hp2)))) rfl ?_)))))))
    refine nkQ k17 (.cd rfl (fun hc4 => ?_) (fun hc4 => ?_))
    ·have hsp : ¬ spB R C (mf C (vals xs)) (cf (vals vs)) = true := by simpa using hc4
     refine .sr fun k18 => st (.as (.cWK (k := 2) (fk := zc))) rfl (st (.as (.cI 10 rfl)) rfl (nkQ k18 (.ret (.thr (rtN (.inl rfl) Tryz.results26 rfl rfl (.tmp (Has.t' rfl ?_) (.tmp (Has.t' rfl ?_) .nil)))))))
     ·rw [if_neg hsp]; rfl
     ·exact isI_eq (by rw [if_neg hsp])
    ·have hsp : spB R C (mf C (vals xs)) (cf (vals vs)) = true := by simpa using hc4
     refine .skip (.nk k16 (.sq fun k19 => .cv (Cv.freezeK (t := 7) (i := 0) (ys := (coL R C P (vals xs) (vals vs)).map nz) zc_len rfl rfl rfl (by rw [fill_len _ _ _ (by rw [List.length_map, coL_len]; omega), List.length_map, coL_len]; omega) (coL_fill hP (by omega) rfl)) ?_))
     refine .memEq (M' := [_]) rfl (.w [4,5,7,6,78,79] rfl (.region (stM rfl (stM rfl (st (.as (.cI 0 rfl)) rfl (nkQ k19 (.w [4,5] rfl (.ret (rtN (.inl rfl) Tryz.results26 rfl rfl (.tmp (Has.t' rfl ?_) (.tmp (Has.t' rfl ?_) .nil)))))))))))
     ·exact isPl_eq (by rw [if_pos hsp])
     ·exact isI_eq (by rw [if_pos hsp])
end Go.Proofs.YtlebmedapfncoaaGreat
namespace Go.Proofs.YtlebmedapfncoaaGreat
open Go.En Go.RowKit
set_option maxRecDepth 10000
set_option maxHeartbeats 4000000
open Go.Nt
open Go.Pz
open Go.Mz
open Go.Hn
open Go.Hp
open Go.Dt
open Go.Ch
theorem zmat_Zero_1 {m : Bool} {xs : List Nat} (hx : (List.length (words (val xs))) < 4294700000) : Ctr Tryz.prog 40 [Flat [isB m, isWords xs]] (isB (decide (zv m xs ≠ 0))) := by
 refine Ctr.i Tryz.func40 rfl Tryz.ntmps40 fun w0 F0 => .w [0] rfl (.fact (Has.okZ (Has.t (t := 0) rfl)) fun okz0 => .sr fun k1 => .box (.t rfl) rfl fun b1 => st (.as (.cB false)) rfl (nkQ k1 (.sr fun k2 => st (.load (.t rfl) (i := 0) rfl ty33 rfl (Ss' := [_, _]) rfl) rfl (st (.call (zint_Sign (by omega)) (.cons (.t rfl) .nil)) rfl (st (.neI (.t rfl) (.cI 0 rfl)) rfl (stM rfl (nkQ k2 (.w [2] rfl (.ret (rt1 (.inl rfl) Tryz.results40 rfl (.tmp (Has.t' rfl ?_) .nil)))))))))))
 all_goals (exact isB_eq (by simp [sgn_eq0]))
end Go.Proofs.YtlebmedapfncoaaGreat
namespace Go.Proofs.YtlebmedapfncoaaGreat
open Go.En Go.RowKit
set_option maxRecDepth 10000
set_option maxHeartbeats 4000000
open Go.Nt
open Go.Pz
open Go.Mz
open Go.Hn
open Go.Hp
open Go.Dt
open Go.Ll
theorem row_bd {C i K : Nat} {L : List Int} (h : Bd L K) : Bd (Go.Hp.rowL C L i) K := fun k => by
 unfold Go.Hp.rowL
 rw [cf_tab]
 split
 ·exact h _
 ·rw [Int.natAbs_zero, words_zero]; exact Nat.zero_le _
theorem rk11 : rkL 2 1 (vals ([1,1].map nz)) = 1 := by
 show (pivL 1 (mf 1 (hL 2 1 (vals ([1,1].map nz)))) 2).length = 1
 rw [vals_nz, hL11]
 have := congrArg List.length gm11_p
 rwa [pv_len] at this
theorem zmat_ZeroG {r c : Int} {xs : List (Bool × List Nat)} {K : Nat} (hx : Bd (vals xs) K) (hK : K ≤ 400000000) (hf : formB r c xs.length = true) : Ctr Tryz.prog 19 [isM r c xs] (isB (!decide (0 ≤ fir xs.length (cf (vals xs))))) := by
 refine Ctr.i Tryz.func19 rfl Tryz.ntmps19 fun w0 F0 => .w [0] rfl (.sr fun k1 => .box (.t rfl) rfl fun b1 => st (.as (.cB false)) rfl (nkQ k1 (.sr fun k2 => st (.load (.t rfl) (i := 0) rfl ty24 rfl (Ss' := [_, _, _]) rfl) rfl (st (.eq (.call (zmat_Formed) (.cons (.t rfl) .nil)) ((show isB _ = isB true from isB_eq (hf)))) rfl (stM rfl (stT rfl rfl (fun hg => .fieldAddr (.t rfl) fld24_2 ty22) rfl (stT rfl rfl (fun hg => .load1 (Has.g rfl hg) (i := 0) rfl ty22 rfl) rfl ?_)))))))
 refine stT rfl rfl (fun hg => have hg' := BP.t hg; OK1.call (sl_ContainsFuncZ (K := K) hx) (.cons (Has.g rfl hg) (.cons (Has.fn (fun p => zmat_Zero_1 (Nat.lt_of_le_of_lt p.2 (by omega)))) .nil))) rfl ?_
 refine stT rfl rfl (fun hg => .not (Has.g rfl hg)) rfl (st (.pickAnd (.t rfl) (fun h => Has.g rfl h)) rfl (stM rfl (nkQ k2 (.w [2] rfl (.ret (rt1 (.inl rfl) Tryz.results19 rfl (.tmp (Has.t' rfl ?_) .nil)))))))
 all_goals (rfl)
theorem gram_Basis {R C K : Nat} {xs : List (Bool × List Nat)} (hx : Bd (vals xs) K) (hK : K ≤ 280) (hR : R ≤ 4) (hC : C ≤ 4) (hl : xs.length = R * C) {m n : Bool} {ps qs : List Nat} (hpw : (List.length (words (val ps))) ≤ 1000) (hqw : (List.length (words (val qs))) ≤ 1000) (hmy : (decide (0 < sgn (zv n qs)) && decide (0 < cmpZ (zv m ps * 4) (zv n qs)) && decide (cmpZ (zv m ps) (zv n qs) < 0)) = true) (hq : 0 < zv n qs) (hpq : zv m ps < zv n qs) : CtrX Tryz.prog 7 [isM (R : Int) (C : Int) xs, Flat [isB m, isWords ps], Flat [isB n, isWords qs]] ([]) (fun S M => ∃ Bl : List Int, S = isTup [isMz (rkL R C (vals xs)) C Bl, isI 0] ∧ M = [] ∧ BS R C K (vals xs) Bl) := by
 refine CtrX.i Tryz.func7 rfl Tryz.ntmps7 fun w0 F0 => .w [0,1,2] rfl (.fact (Has.okZ (Has.t (t := 1) rfl)) fun okz1 => .fact (Has.okZ (Has.t (t := 2) rfl)) fun okz2 => ?_)
 have hPR := rk_le (R := R) (C := C) (L := vals xs)
 obtain ⟨P, hP⟩ : ∃ P, P = rkL R C (vals xs) := ⟨_, rfl⟩
 rw [← hP] at hPR
 have hR64 : R ≤ 64 := by omega
 have hC64 : C ≤ 64 := by omega
 refine .sr fun k1 => .box (.t rfl) rfl fun b1 => .box (.t rfl) rfl fun b2 => .box (.t rfl) rfl fun b3 => .alloc [isI 0, isI 0, nilS] zero24 (fun _ _ => ⟨⟨rfl, by decide, by decide⟩, ⟨rfl, by decide, by decide⟩, rfl, trivial⟩) rfl fun b4 => st (.as (.cI 0 rfl)) rfl (nkQ k1 (.sr fun k2 => st (.load (.t rfl) (i := 3) rfl ty24 rfl (Ss' := [_, _, _]) rfl) rfl (st (.load (.t rfl) (i := 2) rfl ty33 rfl (Ss' := [_, _]) rfl) rfl (st (.load (.t rfl) (i := 1) rfl ty33 rfl (Ss' := [_, _]) rfl) rfl (.callX (gram_Reduce hx hK hR hC hl hpw hqw hmy hq hpq) (List.Perm.refl _) (.cons (.t rfl) (.cons (.t rfl) (.cons (.t rfl) .nil))) rfl ?_)))))
 rintro _ _ ⟨c, ds', ls', us', k, Ml, Wl, rfl, rfl, hG⟩
 have hMb : Bd (vals (Ml.map nz)) 10000 := by rw [vals_nz]; exact (hG.bd hx hR hC).mono (by omega)
 have hMl : (Ml.map nz).length = R * C := by rw [List.length_map]; exact hG.len
 refine stM rfl (st (.ext (.t rfl) rfl) rfl (st (.ext (.t rfl) rfl) rfl (st (.ext (.t rfl) rfl) rfl (st (.ext (.t rfl) rfl) rfl (.alloc [isI 0, isI 0, nilS] zero24 (fun _ _ => ⟨⟨rfl, by decide, by decide⟩, ⟨rfl, by decide, by decide⟩, rfl, trivial⟩) rfl fun b5 => .alloc [isI 0, isI 0, nilS] zero24 (fun _ _ => ⟨⟨rfl, by decide, by decide⟩, ⟨rfl, by decide, by decide⟩, rfl, trivial⟩) rfl fun b6 => .store (.t rfl) (.t rfl) (i := 1) rfl ty24 rfl rfl (Ss' := [_, _, _]) rfl (M' := [_, (some _, cellM [_, _, _]), _, _, _, _]) rfl (.store (.t rfl) (.t rfl) (i := 0) rfl ty24 rfl rfl (Ss' := [_, _, _]) rfl (M' := [(some _, cellM [_, _, _]), _, _, _, _, _]) rfl (stM rfl (stM rfl (nkQ k2 (.w [6,7,8,11] rfl (.sq fun k3 => .sr fun k4 => stM rfl (st (.neI (.t rfl) (.cI 0 rfl)) rfl (nkQ k4 (.cd rfl (fun hc1 => ?_) (fun hc1 => ?_)))))))))))))))
 ·exact absurd rfl hc1
 ·refine .skip (.nk k3 (.sr fun k5 => st (.as (.cI 0 rfl)) rfl (nkQ k5 (.sq fun k6 => .block (.loopF [6,7,8] (fun (z : { i : Nat // i ≤ R - P }) => match z with | ⟨i, hi⟩ => [(12, isI (i : Int))]) (fun M => fun (z : { i : Nat // i ≤ R - P }) => match z with | ⟨i, hi⟩ => M) (fun (z : { i : Nat // i ≤ R - P }) => match z with | ⟨i, hi⟩ => R - i) (⟨0, Nat.zero_le _⟩) (Cv.mem (.c 12 rfl ?_ (.l [6,7,8] rfl)) ?_) ?_)))))
  ·rfl
  ·rfl
  rintro ⟨i, hi⟩ K7 hK7
  refine .w [12,6,7,8] rfl (.sq fun k8 => .sr fun k9 => stM rfl (st (.fieldAddr (.t rfl) fld24_0 ty3) rfl (st (.load1 (.t rfl) (i := 1) rfl ty3 rfl) rfl (st (.ltI (.t rfl) (.t rfl)) rfl (stM rfl (stT rfl rfl (fun hg => .load (.t rfl) (i := 1) rfl ty24 rfl (Ss' := [_, _, _]) rfl) rfl (stT rfl rfl (fun hg => .mv (.t rfl)) rfl (stT rfl rfl (fun hg => .mv (.t rfl)) rfl ?_))))))))
  refine stT rfl rfl (fun hg => have hg' := BP.t hg; OK1.eq (.addI (Has.g rfl hg) (.cI 1 rfl) (by first | omega | assumption) (by first | omega | assumption)) ((show isI _ = isI ((i + 1 : Nat) : Int) from isI_eq (by omega)))) rfl ?_
  refine stT rfl rfl (fun hg => have hg' := BP.t hg; OK1.eq (.call (zmat_Rows (lo := i) (hi := i + 1) (K := 10000) hMb (by decide) hR64 hC64 hMl (by omega) (by omega)) (.cons (Has.g rfl hg) (.cons (Has.g rfl hg) (.cons (Has.g rfl hg) .nil)))) ((show _ = isTup [isMz ((1 : Nat)) C (Go.Hp.rowL C Ml i), isI 0] from by rw [vals_nz, rowL_tab, Nat.add_sub_cancel_left]))) rfl ?_
  refine stT rfl rfl (fun hg => .ext (Has.g rfl hg) rfl) rfl (stT rfl rfl (fun hg => .ext (Has.g rfl hg) rfl) rfl (stT rfl rfl (fun hg => .call (gram_must (r := ((1 : Nat) : Int)) (c := (C : Int)) (l := Go.Hp.rowL C Ml i)) (.cons (Has.g rfl hg) (.cons (Has.g rfl hg) .nil))) rfl ?_))
  refine stT rfl rfl (fun hg => have hg' := BP.t hg; OK1.eq (.call (zmat_ZeroG (r := ((1 : Nat) : Int)) (c := (C : Int)) (xs := ((Go.Hp.rowL C Ml i).map nz)) (K := 10000) (by rw [vals_nz]; exact row_bd (by rw [vals_nz] at hMb; exact hMb)) (by decide) (formB_true (by decide) hC64 (by rw [List.length_map, Go.Hp.rowL_len, Nat.one_mul]))) (.cons (Has.g rfl hg) .nil)) ((show _ = isB (!decide (0 ≤ fir C (cf (Go.Hp.rowL C Ml i)))) from by rw [vals_nz, List.length_map, Go.Hp.rowL_len]))) rfl ?_
  refine st (.pickAnd (.t rfl) (fun h => Has.g rfl h)) rfl (nkQ k9 (.cd rfl (fun hc2 => ?_) (fun hc2 => ?_)))
  ·have hc22 : (i : Int) < (R : Int) ∧ (!decide (0 ≤ fir C (cf (Go.Hp.rowL C Ml i)))) = true := by simpa using hc2
   have hi1 : i + 1 ≤ R - P := by
    have h1 := zero_row.1 hc22.2
    refine Nat.lt_of_not_le fun hle => ?_
    obtain ⟨j, hj, hne⟩ := hG.nz (i := i - (R - P)) (by rw [← hP]; omega)
    rw [← hP, show R - P + (i - (R - P)) = i by omega] at hne
    exact hne (h1 j hj)
   refine .skip (.nk k8 (.block (.region (stM rfl (st (.addI (.t rfl) (.cI 1 rfl) (by first | omega | assumption) (by first | omega | assumption)) rfl (stM rfl (nl (.bln (.thn (hK7 (⟨i + 1, hi1⟩) _ _ ?_ (Cv.mem (.c 12 rfl ?_ (.l [6,7,8] rfl)) ?_)))))))))))
   ·show R - (i + 1) < R - i; omega
   ·exact isI_eq (by omega)
   ·rfl
  ·have hiE : i = R - P := by
    refine Nat.le_antisymm hi (Nat.le_of_not_lt fun hlt => ?_)
    have h1 : (!decide (0 ≤ fir C (cf (Go.Hp.rowL C Ml i)))) = true := zero_row.2 fun k hk => hG.zero hx (by rw [← hP]; exact hlt) hk
    have h2 : ¬ 0 ≤ fir C (cf (Go.Hp.rowL C Ml i)) := by simpa using h1
    rcases hc2 with h | h
    ·omega
    ·exact h2 h
   refine .exit (.the (.the (.blh (.nk k6 (.w [6,7,8,12] rfl (.sr fun k10 => st (.load (.t rfl) (i := 1) rfl ty24 rfl (Ss' := [_, _, _]) rfl) rfl (stM rfl (st (.fieldAddr (.t rfl) fld24_0 ty3) rfl (st (.load1 (.t rfl) (i := 1) rfl ty3 rfl) rfl (st (.eq (.call (zmat_Rows (lo := i) (hi := R) (K := 10000) hMb (by decide) hR64 hC64 hMl (by omega) (Nat.le_refl _)) (.cons (.t rfl) (.cons (.t rfl) (.cons (.t rfl) .nil)))) ((show _ = isTup [isMz P C (tab (P * C) C fun i k => cf Ml ((R - P + i) * C + k)), isI 0] from by rw [vals_nz, show i = R - P by omega, show R - (R - P) = P by omega]))) rfl (st (.ext (.t rfl) rfl) rfl (st (.ext (.t rfl) rfl) rfl (.store (.t rfl) (.t rfl) (i := 2) rfl ty24 rfl rfl (Ss' := [_, _, _]) rfl (M' := [_, _, (some _, cellM [_, _, _]), _, _, _]) rfl (stM rfl (nkQ k10 (.w [6,7] rfl (.ret (rtXND (.cons _ (.cons _ (.cons _ (.cons _ (.cons _ (.cons _ .slnil)))))) (.inl rfl) Tryz.results7 rfl rfl (.cell rfl (i := 2) rfl ty24 rfl rfl (.tmp (.t rfl) .nil)) ?_))))))))))))))))))
   exact ⟨_, by rw [← hP], rfl, by have := hG.basis hx hR hC; rw [← hP] at this; exact this⟩
end Go.Proofs.YtlebmedapfncoaaGreat
namespace Go.Proofs.YtlebmedapfncoaaGreat
open Go.En Go.RowKit
set_option maxRecDepth 10000
set_option maxHeartbeats 4000000
open Go.Nt
open Go.Pz
open Go.Mz
open Go.Hn
open Go.Hp
open Go.Dt
theorem hnf_WithinQ {R R' C K Ka : Nat} {xs ys : List (Bool × List Nat)} (hx : Bd (vals xs) Ka) (hy : Bd (vals ys) K) (hK : hq R' (K + 4) (hrk R' C (vals ys)) * (R' + 2) ≤ 80000000) (hKc : Ka + (R' + 1) * (hq R' (K + 4) (hrk R' C (vals ys)) + 2) ≤ 100000000) (hR : R ≤ 64) (hR' : R' ≤ 64) (hC : C ≤ 64) (hl : xs.length = R * C) (hyl : ys.length = R' * C) : Ctr Tryz.prog 11 [isM (R : Int) (C : Int) xs, isM (R' : Int) (C : Int) ys] (isTup [isB (winB R R' C (mf C (vals xs)) (mf C (vals ys))), isI 0]) := by
 refine Ctr.i Tryz.func11 rfl Tryz.ntmps11 fun w0 F0 => .w [0,1] rfl ?_
 have hRC := side_le hR hC
 have hRC' := side_le hR' hC
 have hfo := formB_true hR hC hl
 have hfo' := formB_true hR' hC hyl
 obtain ⟨Hl, hHl⟩ : ∃ Hl, Hl = hL R' C (vals ys) := ⟨_, rfl⟩
 have hLl : (Hl.map nz).length = R' * C := by rw [List.length_map, hHl]; exact hL_len hy
 obtain ⟨B, hB⟩ : ∃ B, B = hq R' (K + 4) (hrk R' C (vals ys)) := ⟨_, rfl⟩
 have hLb : Bd (vals (Hl.map nz)) B := by rw [vals_nz, hHl, hB]; exact hL_bq hy
 rw [← hB] at hKc
 have hLf : HermF R' C (mf C (vals (Hl.map nz))) := by rw [vals_nz, hHl]; exact hL_form hy
 refine .sr fun k1 => .box (.t rfl) rfl fun b1 => .box (.t rfl) rfl fun b2 => st (.as (.cB false)) rfl (st (.as (.cI 0 rfl)) rfl (nkQ k1 (.sq fun k2 => .sr fun k3 => st (.load (.t rfl) (i := 1) rfl ty24 rfl (Ss' := [_, _, _]) rfl) rfl (st (.eq (.call (zmat_Formed) (.cons (.t rfl) .nil)) ((show isB _ = isB true from isB_eq (hfo)))) rfl (st (.not (.t rfl)) rfl (stM rfl (stF rfl rfl (fun hg => .load (.t rfl) (i := 0) rfl ty24 rfl (Ss' := [_, _, _]) rfl) rfl (stF rfl rfl (fun hg => .eq (.call (zmat_Formed) (.cons (Has.g rfl hg) .nil)) ((show isB _ = isB true from isB_eq (hfo')))) rfl (stF rfl rfl (fun hg => .not (Has.g rfl hg)) rfl (st (.pickOr (.t rfl) (fun h => Has.g rfl (ng h))) rfl (stM rfl (stF rfl rfl (fun hg => .fieldAddr (.t rfl) fld24_1 ty3) rfl (stF rfl rfl (fun hg => .load1 (Has.g rfl hg) (i := 1) rfl ty3 rfl) rfl (stF rfl rfl (fun hg => .fieldAddr (.t rfl) fld24_1 ty3) rfl (stF rfl rfl (fun hg => .load1 (Has.g rfl hg) (i := 0) rfl ty3 rfl) rfl (stF rfl rfl (fun hg => .neI (Has.g rfl hg) (Has.g rfl hg)) rfl (st (.pickOr (.t rfl) (fun h => Has.g rfl (ng h))) rfl (nkQ k3 (.w [2,3,4,5,26] rfl (.cd rfl (fun hc1 => ?_) (fun hc1 => ?_)))))))))))))))))))))
 ·exfalso; simp at hc1
 ·refine .skip (.nk k2 (.sr fun k4 => st (.load (.t rfl) (i := 0) rfl ty24 rfl (Ss' := [_, _, _]) rfl) rfl ?_))
  refine st (.eq (.call (hnf_HermiteQ hy hK hR' hC hyl) (.cons (.t rfl) .nil)) ((show _ = isTup [isMz R' C Hl, isMz R' R' (uL R' C (vals ys)), isI 0] from by rw [hHl]; rfl))) rfl ?_
  refine stM rfl (st (.ext (.t rfl) rfl) rfl (st (.ext (.t rfl) rfl) rfl (st (.ext (.t rfl) rfl) rfl (.alloc [isI 0, isI 0, nilS] zero24 (fun _ _ => ⟨⟨rfl, by decide, by decide⟩, ⟨rfl, by decide, by decide⟩, rfl, trivial⟩) rfl fun b3 => .alloc [isI 0, isI 0, nilS] zero24 (fun _ _ => ⟨⟨rfl, by decide, by decide⟩, ⟨rfl, by decide, by decide⟩, rfl, trivial⟩) rfl fun b4 => .store (.t rfl) (.t rfl) (i := 1) rfl ty24 rfl rfl (Ss' := [_, _, _]) rfl (M' := [_, (some _, cellM [_, _, _]), _, _]) rfl (.store (.t rfl) (.t rfl) (i := 0) rfl ty24 rfl rfl (Ss' := [_, _, _]) rfl (M' := [(some _, cellM [_, _, _]), _, _, _]) rfl (stM rfl (nkQ k4 (.w [2,4,5,6,8] rfl (.sq fun k5 => .sr fun k6 => stM rfl (st (.neI (.t rfl) (.cI 0 rfl)) rfl (nkQ k6 (.cd rfl (fun hc2 => ?_) (fun hc2 => ?_)))))))))))))
  ·exact absurd rfl hc2
  ·refine .skip (.nk k5 (.sq fun k7 => .sr fun k8 => st (.fieldAddr (.t rfl) fld24_0 ty3) rfl (st (.load1 (.t rfl) (i := 3) rfl ty3 rfl) rfl (st (.mv (.cI 0 rfl)) rfl (nkQ k8 (.block (.loopF [2,6,37] (fun (z : { i : Nat // i ≤ R ∧ ∀ j, j < i → SpZ R' C (mf C (vals ys)) (mf C (vals xs) j) }) => match z with | ⟨i, hI⟩ => [(38, isI (i : Int))]) (fun M => fun (z : { i : Nat // i ≤ R ∧ ∀ j, j < i → SpZ R' C (mf C (vals ys)) (mf C (vals xs) j) }) => match z with | ⟨i, hI⟩ => M) (fun (z : { i : Nat // i ≤ R ∧ ∀ j, j < i → SpZ R' C (mf C (vals ys)) (mf C (vals xs) j) }) => match z with | ⟨i, hI⟩ => R - i) (⟨0, Nat.zero_le _, fun j hj => absurd hj (Nat.not_lt_zero _)⟩) (Cv.mem (.c 38 rfl ?_ (.l [2,6,37] rfl)) ?_) ?_)))))))
   ·rfl
   ·rfl
   rintro ⟨i, hi, hq⟩ K9 hK9
   refine .w [38,2,6,37] rfl (.sr fun k10 => st (.ltI (.t rfl) (.t rfl)) rfl (nkQ k10 (.sq fun k11 => .cd rfl (fun hc3 => ?_) (fun hc3 => ?_))))
   ·have hiR : i < R := (by omega)
    have hpl1 : (i + 1) * C ≤ R * C := Nat.mul_le_mul_right _ hiR
    have hpl2 : (i + 1) * C = i * C + C := Nat.succ_mul _ _
    have hc1 : ((i : Int) * (C : Int)) = ((i * C : Nat) : Int) := (Int.natCast_mul i C).symm
    have hc2 : (((i : Int) + 1) * (C : Int)) = (((i + 1) * C : Nat) : Int) := by rw [Int.natCast_mul]; rfl
    obtain ⟨rw', hrw'⟩ : ∃ r, r = (xs.take ((i + 1) * C)).drop (i * C) := ⟨_, rfl⟩
    have hrv : vals rw' = Go.Hp.rowL C (vals xs) i := by rw [hrw']; exact rowL_of (by omega)
    have hrl : rw'.length = C := by rw [← vals_len, hrv, Go.Hp.rowL_len]
    have hrb : Bd (vals rw') Ka := fun k => by
     rcases Nat.lt_or_ge k C with h | h
     ·rw [hrv, cf_rowL h]; exact hx _
     ·rw [cf_high (by rw [vals_len]; omega), Int.natAbs_zero, words_zero]; exact Nat.zero_le _
    obtain ⟨Xc, hXc⟩ : ∃ X, X = if spB R' C (mf C (vals (Hl.map nz))) (cf (vals rw')) = true then coL R' C (pivL C (mf C (vals (Hl.map nz))) R').length (vals (Hl.map nz)) (vals rw') else [] := ⟨_, rfl⟩
    obtain ⟨ec, hec⟩ : ∃ e : Int, e = if spB R' C (mf C (vals (Hl.map nz))) (cf (vals rw')) = true then 0 else 10 := ⟨_, rfl⟩
    have hspi : spB R' C (mf C (vals (Hl.map nz))) (cf (vals rw')) = true ↔ SpZ R' C (mf C (vals ys)) (mf C (vals xs) i) := by rw [vals_nz, hHl, hrv]; exact sp_row hy
    refine .skip (.nk k11 (.sq fun k12 => .block (.sr fun k13 => stM rfl (stM rfl (nkQ k13 (.sq fun k14 => .dr (.so [] rfl (.load (.t rfl) (i := 1) rfl ty24 rfl (Ss' := [_, _, _]) rfl) (.so [] rfl (.fieldAddr (.t rfl) fld24_2 ty22) (.so [43] rfl (.load1 (.t rfl) (i := 3) rfl ty22 rfl) (.m [] rfl (.so [] rfl (.fieldAddr (.t rfl) fld24_1 ty3) (.so [46] rfl (.load1 (.t rfl) (i := 3) rfl ty3 rfl) (.so [45,47] rfl (.eq (.mulI (.t rfl) (.t rfl) (by first | omega | (rw [hc1]; omega) | (rw [hc2]; omega)) (by first | omega | (rw [hc1]; omega) | (rw [hc2]; omega))) ((show isI _ = isI ((i * C : Nat) : Int) from isI_eq hc1))) ?_)))))))))))))
    refine .m [] rfl (.so [49] rfl (.addI (.t rfl) (.cI 1 rfl) (by first | omega | (rw [hc1]; omega) | (rw [hc2]; omega)) (by first | omega | (rw [hc1]; omega) | (rw [hc2]; omega))) ?_)
    refine .so [] rfl (.fieldAddr (.t rfl) fld24_1 ty3) (.so [51] rfl (.load1 (.t rfl) (i := 3) rfl ty3 rfl) (.so [50,52] rfl (.eq (.mulI (.t rfl) (.t rfl) (by first | omega | (rw [hc1]; omega) | (rw [hc2]; omega)) (by first | omega | (rw [hc1]; omega) | (rw [hc2]; omega))) ((show isI _ = isI (((i + 1) * C : Nat) : Int) from isI_eq hc2))) ?_))
    refine .so [44,48,53] rfl (.eq (.slLHK sl22 ty33 zc_len (.t rfl) (.t rfl) (.t rfl) ⟨by omega, by omega, by omega⟩) ((show _ = SlK 2 zc rw' from SlK_eq (by rw [hrw']; rfl)))) ?_
    refine .so [42,54] rfl (.eq (.call (hnf_Coordinates (K := B) (Kv := Ka) (vs := rw') hLb hR' hC hLl hrb hrl (by omega) hLf) (.cons (.t rfl) (.cons (.t rfl) .nil))) ((show _ = isTup [isP Xc, isI ec] from by rw [hXc, hec]))) (.m [55] rfl (.so [41] rfl (.ext (.t rfl) rfl) (.so [41] rfl (.ext (.t rfl) rfl) (.m [56] rfl (.fn (n := 18) mixed (.w [2,6,37,38,39,40,9,42,43,44,45,46,47,48,49,50,51,52,53,54,55,41,56,57] rfl (stM rfl (nkQ k14 (.sr fun k15 => stM rfl (st (.neI (.t rfl) (.cI 0 rfl)) rfl (nkQ k15 (.cd rfl (fun hc4 => ?_) (fun hc4 => ?_)))))))))))))
    ·have hno : ¬ SpZ R' C (mf C (vals ys)) (mf C (vals xs) i) := fun h => by rw [if_pos (hspi.2 h)] at hec; exact hc4 hec
     refine .sr fun k16 => st (.as (.cB false)) rfl (st (.as (.cI 0 rfl)) rfl (nkQ k16 (.ret (.blr (.thr (.thr (.blr (.thr (rtN (.inl rfl) Tryz.results11 rfl rfl (.tmp (Has.t' rfl ?_) (.tmp (Has.t' rfl ?_) .nil)))))))))))
     ·exact isB_eq (winB_no fun h => hno (h i hiR)).symm
     ·rfl
    ·have hyes : SpZ R' C (mf C (vals ys)) (mf C (vals xs) i) := hspi.1 (Classical.byContradiction fun h => by rw [if_neg h] at hec; omega)
     refine .skip (.bln (.nk k12 (.region (st (.addI (.t rfl) (.cI 1 rfl) (by first | omega | assumption) (by first | omega | assumption)) rfl (stM rfl (nl (.thn ?_)))))))
     refine hK9 (⟨i + 1, by omega, fun j hj => by rcases Nat.lt_or_ge j i with h | h; exact hq j h; obtain rfl : j = i := (by omega); exact hyes⟩) _ _ ?_ (Cv.mem (.c 38 rfl ?_ (.l [2,6,37] rfl)) ?_)
     ·show R - (i + 1) < R - i; omega
     ·exact isI_eq (by omega)
     ·rfl
   ·refine .exit (.the (.the (.blh (.nk k7 (.cv (Cv.wk .nil) (.sr fun k17 => st (.as (.cB true)) rfl (st (.as (.cI 0 rfl)) rfl (nkQ k17 (.ret (rtN (.inl rfl) Tryz.results11 rfl rfl (.tmp (Has.t' rfl ?_) (.tmp (Has.t' rfl ?_) .nil))))))))))))
    ·exact isB_eq (winB_iff.2 fun j hj => hq j (by omega)).symm
    ·rfl
end Go.Proofs.YtlebmedapfncoaaGreat
namespace Go.En
open Go.RowKit Go.Pz Go.Mz
section
variable {E : Env} {P : Program} {Γ : Ctx} {M : Mem} {Q : Exit → Act → World → Prop} {c : Code}
def exZ (p : List Int → Prop) : VP := ⟨fun w F v => ∃ l, p l ∧ (SlK 2 zc (l.map nz)).h w F v, fun w w' F F' v h a b => by
 obtain ⟨l, h1, h2⟩ := h; exact ⟨l, h1, (SlK 2 zc (l.map nz)).mono _ _ _ _ _ h2 a b⟩⟩
def exI : VP := ⟨fun w F v => ∃ z, (isI z).h w F v, fun w w' F F' v h a b => by
 obtain ⟨z, h⟩ := h; exact ⟨z, (isI z).mono _ _ _ _ _ h a b⟩⟩
instance {p : List Int → Prop} : One (exZ p) := ⟨fun w F v h => by
 obtain ⟨l, _, h⟩ := h; exact One.one (S := SlK 2 zc (l.map nz)) w F v h⟩
instance {p : List Int → Prop} : Shape (exZ p) [exZ p] := .of_one inferInstance
instance : One exI := ⟨fun w F v h => by
 obtain ⟨z, h⟩ := h; exact One.one (S := isI z) w F v h⟩
instance : Shape exI [exI] := .of_one inferInstance
theorem CtrX.toEx {f : FuncId} {args : List VP} {R : VP → Mem → Prop} {S : VP} (h : CtrX P f args [] R) (hR : ∀ S' M', R S' M' → ∀ w F v, S'.h w F v → S.h w F v) : Ctr P f args S :=
 ⟨h.1, fun w F vs hF hargs => (h.2 w F vs hF ⟨List.Pairwise.nil, by simp⟩ hargs).mono (by
  rintro e w' ⟨v, S', M', F', rfl, hr, hk, hsub, hnew, hv, _⟩
  exact ⟨v, rfl, hk, S.mono _ _ _ _ _ (hR S' M' hr _ _ _ hv) (fun _ _ => rfl) hnew⟩)⟩
theorem ex_mat {A B : VP} {p : List Int → Prop} {l : List Int} (hl : p l) : ∀ w F v, (Flat [A, B, SlK 2 zc (l.map nz)]).h w F v → (Flat [A, B, exZ p]).h w F v := fun w F v h => by
 obtain ⟨vs, e, h⟩ := h
 match vs, h with
 | [x, y, z], ⟨h1, h2, h3, _⟩ => exact ⟨[x, y, z], e, h1, h2, ⟨l, hl, h3⟩, trivial⟩
theorem ex_tup4 {A A' B B' : VP} {z : Int} {D : VP} (hA : ∀ w F v, A.h w F v → A'.h w F v) (hB : ∀ w F v, B.h w F v → B'.h w F v) : ∀ w F v, (isTup [A, B, isI z, D]).h w F v → (isTup [A', B', exI, D]).h w F v := fun w F v h => by
 obtain ⟨vs, e, h⟩ := h
 match vs, h with
 | [x, y, t, u], ⟨h1, h2, h3, h4, _⟩ => exact ⟨[x, y, t, u], e, hA _ _ _ h1, hB _ _ _ h2, ⟨z, h3⟩, h4, trivial⟩
theorem Tri.opZ {b : Nat} {A B : VP} {p : List Int → Prop} {M0 : Mem} (h : ∀ l, p l → Tri E P c Γ ((some b, cellM [A, B, SlK 2 zc (l.map nz)]) :: M0) Q) : Tri E P c Γ ((some b, cellM [A, B, exZ p]) :: M0) Q := by
 intro a w F s
 obtain ⟨h1, h2, h3, o, h4, vs, T, e, hv⟩ := s.mem.each b _ List.mem_cons_self
 obtain ⟨x, y, z, rfl, g1, g2, l, hl, g3⟩ : ∃ x y z, vs = [x, y, z] ∧ A.h w F x ∧ B.h w F y ∧ ∃ l, p l ∧ (SlK 2 zc (l.map nz)).h w F z := by
  match vs, hv with
  | [x, y, z], ⟨g1, g2, ⟨l, hl, g3⟩, _⟩ => exact ⟨x, y, z, rfl, g1, g2, l, hl, g3⟩
 refine h l hl a w F { s with mem := ⟨?_, fun k C hk => ?_⟩ }
 ·have := List.pairwise_cons.1 s.mem.apart
  exact List.pairwise_cons.2 ⟨fun q hq => this.1 q hq, this.2⟩
 ·rcases List.mem_cons.1 hk with e' | hk
  ·cases e'
   exact ⟨h1, h2, h3, o, h4, [x, y, z], T, e, g1, g2, g3, trivial⟩
  ·exact s.mem.each k C (List.mem_cons_of_mem _ hk)
end
end Go.En
namespace Go.Proofs.YtlebmedapfncoaaGreat
open Go.En Go.RowKit
set_option maxRecDepth 10000
set_option maxHeartbeats 4000000
open Go.Nt
open Go.Pz
open Go.Mz
open Go.Hn
open Go.Hp
open Go.Dt
open Go.Ll
theorem awake_red : Ctr Tryz.prog 15 [isM 2 1 ([1,1].map nz), isZ 3, isZ 4] (isTup [Flat [isI 2, isI 1, exZ (fun l => Bd l 300 ∧ l.length = 2 * 1 ∧ cf l (0 * 1 + 0) = 0 ∧ cf l (1 * 1 + 0) ≠ 0)], Flat [isI 2, isI 2, exZ fun _ => True], exI, isI 0]) := by
 have hb11 : Bd (vals ([1,1].map nz)) 1 := by rw [vals_nz]; exact gm11_b
 have h3 : (List.length (words (3 : Int).natAbs)) ≤ 1 := nw_small' (by decide)
 have h4 : (List.length (words (4 : Int).natAbs)) ≤ 1 := nw_small' (by decide)
 refine (gram_Reduce (R := 2) (C := 1) (K := 1) (xs := [1,1].map nz) hb11 (by decide) (by decide) (by decide) rfl (by rw [val_words]; omega) (by rw [val_words]; omega) (by simp only [zv_nf]; decide) (by rw [zv_nf]; decide) (by simp only [zv_nf]; decide)).toEx ?_
 rintro _ _ ⟨c, ds', ls', us', k, Ml, Wl, rfl, rfl, hG⟩
 refine ex_tup4 (ex_mat ⟨(hG.bd hb11 (by decide) (by decide)).mono (by decide), hG.len, hG.zero hb11 (i := 0) (j := 0) (by rw [rk11]; decide) (by decide), ?_⟩) (ex_mat trivial)
 obtain ⟨j, hj, hne⟩ := hG.nz (i := 0) (by rw [rk11]; decide)
 obtain rfl : j = 0 := by omega
 rw [rk11] at hne
 exact hne
theorem law20_awakeG  : Ctr Tryz.prog 5 [] (isB true) := by
 refine Ctr.i Tryz.func5 rfl Tryz.ntmps5 fun w0 F0 => .cv (Cv.wk .nil) (.sr fun k1 => st (.as (.cB false)) rfl (nkQ k1 (.sr fun k2 => st (.buildS [isI 0, isI 0] sl57 ty2 zero2 (fun _ _ => ⟨⟨rfl, by decide, by decide⟩, ⟨rfl, by decide, by decide⟩, trivial⟩) rfl rfl (.cons (.cI 1 rfl) rfl rfl rfl (.cons (.cI 1 rfl) rfl rfl rfl .nil)) rfl (S := SlM isI [_, _]) rfl) rfl (st (.eq (.call (zmat_Of (R := 2) (C := 1) (l := [1,1]) (by decide) (by decide) rfl (by decide)) (.cons (.cI 2 rfl) (.cons (.cI 1 rfl) (.cons (.t rfl) .nil)))) ((show _ = isTup [isMz 2 1 [1,1], isI 0] from by rw [gm11_t]))) rfl (stM rfl (st (.ext (.t rfl) rfl) rfl (st (.ext (.t rfl) rfl) rfl (.alloc [isI 0, isI 0, nilS] zero24 (fun _ _ => ⟨⟨rfl, by decide, by decide⟩, ⟨rfl, by decide, by decide⟩, rfl, trivial⟩) rfl fun b1 => .store (.t rfl) (.t rfl) (i := 0) rfl ty24 rfl rfl (Ss' := [_, _, _]) rfl (M' := [(some _, cellM [_, _, _])]) rfl (stM rfl (nkQ k2 (.w [0,1] rfl (.sq fun k3 => .drh [true] (Ms := [_]) rfl (.so [] rfl (.load (.t rfl) (i := 0) rfl ty24 rfl (Ss' := [_, _, _]) rfl) (.so [] rfl (.call (zint_Of) (.cons (.cI 3 rfl) .nil)) (.so [] rfl (.call (zint_Of) (.cons (.cI 4 rfl) .nil)) (.so [13,14,15] rfl (.call awake_red (.cons (.t rfl) (.cons (.t rfl) (.cons (.t rfl) .nil)))) (.m [16] rfl (.so [12] rfl (.ext (.t rfl) rfl) (.so [12] rfl (.ext (.t rfl) rfl) (.so [12] rfl (.ext (.t rfl) rfl) (.so [12] rfl (.ext (.t rfl) rfl) (.als2 (n1 := 11) (ds := [3,4]) (zs := [[isI 0, isI 0, nilS], [isI 0, isI 0, nilS]]) rfl (.cons rfl rfl zero24 (fun _ _ => ⟨⟨rfl, by decide, by decide⟩, ⟨rfl, by decide, by decide⟩, rfl, trivial⟩) (.cons rfl rfl zero24 (fun _ _ => ⟨⟨rfl, by decide, by decide⟩, ⟨rfl, by decide, by decide⟩, rfl, trivial⟩) .nil)) (.cons_cons _ .slnil) (Cs := [_, _]) rfl ?_))))))))))))))))))))))
 refine .new [17] 0 (Ss' := [_, _, _]) (Cs' := [cellM [_, _, _], _]) rfl (by kernel_rfl) (by kernel_rfl) rfl rfl rfl (by kernel_rfl) rfl (.t rfl) ty24 rfl rfl rfl rfl (.new [18] 1 (Ss' := [_, _, _]) (Cs' := [_, cellM [_, _, _]]) rfl (by kernel_rfl) (by kernel_rfl) rfl rfl rfl (by kernel_rfl) rfl (.t rfl) ty24 rfl rfl rfl rfl (.asg [19] rfl rfl (by kernel_rfl) (by kernel_rfl) (by kernel_rfl) (.o rfl (.as (.t rfl))) (.cons_cons _ .slnil) (.fn (n := 14) mixed rfl (fun bs hbs => ?_))))
 obtain ⟨b2, b3, rfl⟩ := len2 hbs
 refine .memEq (M' := [_, _, _]) rfl (.cv (Cv.wk (.k 0 rfl (.k 20 rfl (.cons (t := 3) (Has.op rfl) (.cons (t := 4) (Has.op rfl) .nil))))) (stM rfl (nkQ k3 (.sq fun k4 => .opZ fun Ml hMl0 => ?_))))
 obtain ⟨hMb', hMl1, e0, e1⟩ := hMl0
 have hMb : Bd (vals (Ml.map nz)) 300 := by rw [vals_nz]; exact hMb'
 have hMl : (Ml.map nz).length = 2 * 1 := by rw [List.length_map]; exact hMl1
 refine .region (stM rfl (st (.eqI (.t rfl) (.cI 0 rfl)) rfl (stM rfl (stT rfl rfl (fun hg => .fieldAddr (.t rfl) fld24_0 ty3) rfl (stT rfl rfl (fun hg => .load1 (Has.g rfl hg) (i := 0) rfl ty3 rfl) rfl (stT rfl rfl (fun hg => .eqI (Has.g rfl hg) (.cI 2 rfl)) rfl (st (.pickAnd (.t rfl) (fun h => Has.g rfl h)) rfl (stM rfl (stT rfl rfl (fun hg => .fieldAddr (.t rfl) fld24_0 ty3) rfl (stT rfl rfl (fun hg => .load1 (Has.g rfl hg) (i := 1) rfl ty3 rfl) rfl (stT rfl rfl (fun hg => .eqI (Has.g rfl hg) (.cI 2 rfl)) rfl (st (.pickAnd (.t rfl) (fun h => Has.g rfl h)) rfl (stM rfl (stT rfl rfl (fun hg => .load (.t rfl) (i := 0) rfl ty24 rfl (Ss' := [_, _, _]) rfl) rfl ?_))))))))))))))
 refine stT rfl rfl (fun hg => have hg' := BP.t hg; OK1.eq (.call (zmat_At (R := 2) (C := 1) (i := 0) (k := 0) (K := 300) (xs := Ml.map nz) hMb (by decide) (by decide) (by decide) hMl (by decide) (by decide)) (.cons (Has.g rfl hg) (.cons (.cI 0 rfl) (.cons (.cI 0 rfl) .nil)))) ((show _ = isZ (cf Ml (0 * 1 + 0)) from isZ_eq (by rw [vals_nz])))) rfl ?_
 refine stT rfl rfl (fun hg => have hg' := BP.t hg; OK1.eq (.call (zint_Sign (by rw [val_words]; have := hMb' (0 * 1 + 0); omega)) (.cons (Has.g rfl hg) .nil)) ((show isI _ = isI 0 from isI_eq (by rw [zv_nf, e0]; rfl)))) rfl ?_
 refine stT rfl rfl (fun hg => .eqI (Has.g rfl hg) (.cI 0 rfl)) rfl (st (.pickAnd (.t rfl) (fun h => Has.g rfl h)) rfl (stM rfl (stT rfl rfl (fun hg => .load (.t rfl) (i := 0) rfl ty24 rfl (Ss' := [_, _, _]) rfl) rfl ?_)))
 refine stT rfl rfl (fun hg => have hg' := BP.t hg; OK1.eq (.call (zmat_At (R := 2) (C := 1) (i := 1) (k := 0) (K := 300) (xs := Ml.map nz) hMb (by decide) (by decide) (by decide) hMl (by decide) (by decide)) (.cons (Has.g rfl hg) (.cons (.cI 1 rfl) (.cons (.cI 0 rfl) .nil)))) ((show _ = isZ (cf Ml (1 * 1 + 0)) from isZ_eq (by rw [vals_nz])))) rfl ?_
 refine stT rfl rfl (fun hg => have hg' := BP.t hg; OK1.eq (.call (zint_Sign (by rw [val_words]; have := hMb' (1 * 1 + 0); omega)) (.cons (Has.g rfl hg) .nil)) ((show isI _ = isI (sgn (cf Ml (1 * 1 + 0))) from isI_eq (by rw [zv_nf])))) rfl ?_
 refine stT rfl rfl (fun hg => .neI (Has.g rfl hg) (.cI 0 rfl)) rfl (st (.eq (.pickAnd (.t rfl) (fun h => Has.g rfl h)) ((show isB _ = isB true from isB_eq (by simp [sgn_eq0, e1])))) rfl (stM rfl (nkQ k4 (.w [0] rfl (.ret (rt1 (.inl rfl) Tryz.results5 rfl (.tmp (Has.t' rfl ?_) .nil)))))))
 all_goals (rfl)
theorem may_ok {z : Int} (h1 : 26 ≤ z) (h2 : z ≤ 99) : (decide (0 < sgn 100) && decide (0 < cmpZ (z * 4) 100) && decide (cmpZ z 100 < 0)) = true := by
 have e1 : cmpZ (z * 4) 100 = 1 := by unfold cmpZ; rw [if_neg (by omega), if_pos (by omega)]
 have e2 : cmpZ z 100 = -1 := by unfold cmpZ; rw [if_pos (by omega)]
 rw [e1, e2]; decide
theorem pow_small {K R C : Nat} (hK : K ≤ 275) (hR : R ≤ 4) (hC : C ≤ 4) : (K + 4) * (R + 2) ^ C ≤ 1000000 :=
 Nat.le_trans (Nat.mul_le_mul (show K + 4 ≤ 279 by omega) (Nat.le_trans (Nat.pow_le_pow_left (show R + 2 ≤ 6 by omega) C) (Nat.pow_le_pow_right (by decide) hC))) (by decide)
theorem hnf_WithinB {R R' C Ka K : Nat} {xs ys : List (Bool × List Nat)} (hx : Bd (vals xs) Ka) (hy : Bd (vals ys) K) (hKa : Ka ≤ 10000) (hK : K ≤ 275) (hR : R ≤ 4) (hR' : R' ≤ 4) (hC : C ≤ 4) (hl : xs.length = R * C) (hyl : ys.length = R' * C) : Ctr Tryz.prog 11 [isM (R : Int) (C : Int) xs, isM (R' : Int) (C : Int) ys] (isTup [isB (winB R R' C (mf C (vals xs)) (mf C (vals ys))), isI 0]) :=
 hnf_WithinQ hx hy (hq_ask hy (by omega) (pow_small hK hR' hC)) (by
  have h1 := hq_pow (R := R') (K := K + 4) (hrk R' C (vals ys))
  have h2 := Nat.mul_le_mul_left (K + 4) (Nat.pow_le_pow_right (show 0 < R' + 2 by omega) (hrk_leC (R := R') (C := C) hy))
  have h4 := pow_small hK hR' hC
  have h3 : (R' + 1) * (hq R' (K + 4) (hrk R' C (vals ys)) + 2) ≤ 5 * (1000000 + 2) := Nat.mul_le_mul (by omega) (by omega)
  omega) (by omega) (by omega) (by omega) hl hyl
theorem c_GramStays_bad (r c : Int) (xs : List (Bool × List Nat)) (p : Nat) (hf : formB r c xs.length = false) : CtrX Tryz.prog 4 [isM r c xs, isK .u8 (p : Int)] ([]) (fun S M => S = isB true) := by
 refine CtrX.i Tryz.func4 rfl Tryz.ntmps4 fun w0 F0 => .w [0,1] rfl (.sr fun k1 => .box (.t rfl) rfl fun b1 => st (.as (.cB false)) rfl (nkQ k1 (.sq fun k2 => .sr fun k3 => st (.call law20_awakeG .nil) rfl (st (.not (.t rfl)) rfl (stM rfl (stF rfl rfl (fun hg => .load (.t rfl) (i := 0) rfl ty24 rfl (Ss' := [_, _, _]) rfl) rfl (stF rfl rfl (fun hg => .call (ref11_Few) (.cons (Has.g rfl hg) (.cons (.cI 4 rfl) (.cons (.cI 1 rfl) .nil)))) rfl (stF rfl rfl (fun hg => .not (Has.g rfl hg)) rfl (st (.pickOr (.t rfl) (fun h => Has.g rfl (ng h))) rfl (stM rfl (stF rfl rfl (fun hg => .load (.t rfl) (i := 0) rfl ty24 rfl (Ss' := [_, _, _]) rfl) rfl (stF rfl rfl (fun hg => .eq (.call (ref11_Formed) (.cons (Has.g rfl hg) .nil)) ((show isB _ = isB false from isB_eq (hf)))) rfl (stF rfl rfl (fun hg => .not (Has.g rfl hg)) rfl (st (.pickOr (.t rfl) (fun h => Has.g rfl (ng h))) rfl (nkQ k3 (.w [1,2,4,24] rfl (.cd rfl (fun hc1 => ?_) (fun hc1 => ?_))))))))))))))))))
 ·refine .sr fun k4 => st (.call law20_awakeG .nil) rfl (stM rfl (nkQ k4 (.ret (.thr (rtX1D (.cons _ .slnil) (.inl rfl) Tryz.results4 rfl (.tmp (.t rfl) .nil) (rfl))))))
 ·exfalso; simp at hc1
theorem c_GramStays_ok (R C : Nat) (xs : List (Bool × List Nat)) (hR : R ≤ 64) (hC : C ≤ 64) (hl : xs.length = R * C) (p : Nat) : CtrX Tryz.prog 4 [isM (R : Int) (C : Int) xs, isK .u8 (p : Int)] ([]) (fun S M => S = isB true) := by
 refine CtrX.i Tryz.func4 rfl Tryz.ntmps4 fun w0 F0 => .w [0,1] rfl (.fact (Has.okM (Has.t (t := 0) rfl)) fun okp0 => ?_)
 have hfo := formB_true hR hC hl
 refine .fact (Has.rngK (Has.t (t := 1) rfl)) fun ltp => ?_
 have ltq := ltp.2
 simp only [IntKind.min, IntKind.max, IntKind.signed, IntKind.bits] at ltp
 obtain ⟨a, ha⟩ : ∃ a : Int, a = 26 + (p : Int) % 74 := ⟨_, rfl⟩
 have ha1 : 26 ≤ a := by omega
 have ha2 : a ≤ 99 := by omega
 have haw : (List.length (words a.natAbs)) ≤ 1 := nw_small' (by omega)
 have h100 : (List.length (words (100 : Int).natAbs)) ≤ 1 := nw_small' (by decide)
 have hmay := may_ok ha1 ha2
 refine .sr fun k1 => .box (.t rfl) rfl fun b1 => st (.as (.cB false)) rfl (nkQ k1 (.sq fun k2 => .sr fun k3 => st (.call law20_awakeG .nil) rfl (st (.not (.t rfl)) rfl (stM rfl (stF rfl rfl (fun hg => .load (.t rfl) (i := 0) rfl ty24 rfl (Ss' := [_, _, _]) rfl) rfl (stF rfl rfl (fun hg => .call (ref11_Few) (.cons (Has.g rfl hg) (.cons (.cI 4 rfl) (.cons (.cI 1 rfl) .nil)))) rfl (stF rfl rfl (fun hg => .not (Has.g rfl hg)) rfl (st (.pickOr (.t rfl) (fun h => Has.g rfl (ng h))) rfl (stM rfl (stF rfl rfl (fun hg => .load (.t rfl) (i := 0) rfl ty24 rfl (Ss' := [_, _, _]) rfl) rfl (stF rfl rfl (fun hg => .eq (.call (ref11_Formed) (.cons (Has.g rfl hg) .nil)) ((show isB _ = isB true from isB_eq (hfo)))) rfl (stF rfl rfl (fun hg => .not (Has.g rfl hg)) rfl (st (.pickOr (.t rfl) (fun h => Has.g rfl (ng h))) rfl (nkQ k3 (.w [1,2,4,24] rfl (.cd rfl (fun hc1 => ?_) (fun hc1 => ?_)))))))))))))))))
 ·refine .sr fun k4 => st (.call law20_awakeG .nil) rfl (stM rfl (nkQ k4 (.ret (.thr (rtX1D (.cons _ .slnil) (.inl rfl) Tryz.results4 rfl (.tmp (.t rfl) .nil) (rfl))))))
 ·have hc10 := hc1
  have hc1 : ((R : Int) ≤ 4 ∧ (C : Int) ≤ 4) ∧ fewB xs 100 1 = true := (by simpa [and_assoc] using hc10)
  have HF0 : ((R : Int) ≤ 4 ∧ (C : Int) ≤ 4) ∧ fewB xs 100 1 = true := (by simpa [and_assoc] using hc1)
  obtain ⟨⟨hR5, hC5⟩, HF⟩ := HF0
  obtain ⟨hl0, hb⟩ := fewB_bd (N := 100) (K := 1) okp0 HF rfl rfl (by decide)
  have hR4 : R ≤ 4 := by omega
  have hC4 : C ≤ 4 := by omega
  have hPR := rk_le (R := R) (C := C) (L := vals xs)
  obtain ⟨P, hP⟩ : ∃ P, P = rkL R C (vals xs) := ⟨_, rfl⟩
  rw [← hP] at hPR
  refine .skip (.nk k2 (.sr fun k5 => stM rfl (st (.remK (.t rfl) (.cK .u8 74 rfl) (by first | omega | assumption) (by first | omega | assumption) (by first | omega | assumption)) rfl (st (.convKI un5 un3 (.t rfl) (by first | omega | assumption) (by first | omega | assumption)) rfl (st (.eq (.addI (.cI 26 rfl) (.t rfl) (by first | omega | assumption) (by first | omega | assumption)) ((show isI _ = isI a from isI_eq (by omega)))) rfl (st (.call (zint_Of) (.cons (.t rfl) .nil)) rfl (st (.call (zint_Of) (.cons (.cI 100 rfl) .nil)) rfl (.alloc [isB false, SlM isU []] zero33 (fun _ _ => ⟨rfl, nilM _ _, trivial⟩) rfl fun b2 => .alloc [isB false, SlM isU []] zero33 (fun _ _ => ⟨rfl, nilM _ _, trivial⟩) rfl fun b3 => .store (.t rfl) (.t rfl) (i := 1) rfl ty33 rfl rfl (Ss' := [_, _]) rfl (M' := [_, (some _, cellM [_, _]), _]) rfl (.store (.t rfl) (.t rfl) (i := 0) rfl ty33 rfl rfl (Ss' := [_, _]) rfl (M' := [(some _, cellM [_, _]), _, _]) rfl (nkQ k5 (.w [2,4,5,6] rfl (.sr fun k6 => st (.load (.t rfl) (i := 2) rfl ty24 rfl (Ss' := [_, _, _]) rfl) rfl (st (.load (.t rfl) (i := 1) rfl ty33 rfl (Ss' := [_, _]) rfl) rfl (st (.load (.t rfl) (i := 0) rfl ty33 rfl (Ss' := [_, _]) rfl) rfl (.callX (gram_Basis (K := 1) hb (by decide) hR4 hC4 hl (by rw [val_words]; omega) (by rw [val_words]; omega) (by simp only [zv_nf]; exact hmay) (by rw [zv_nf]; decide) (by simp only [zv_nf]; omega)) (List.Perm.refl _) (.cons (.t rfl) (.cons (.t rfl) (.cons (.t rfl) .nil))) rfl ?_)))))))))))))))
  rintro _ _ ⟨Bl, rfl, rfl, hBS⟩
  have hBb : Bd (vals (Bl.map nz)) 275 := by rw [vals_nz]; exact hBS.bd.mono (by decide)
  have hBl : (Bl.map nz).length = P * C := by rw [List.length_map, hP]; exact hBS.len
  have hBe := hBS.eqv
  rw [← hP] at hBe
  rw [← hP]
  refine stM rfl (st (.ext (.t rfl) rfl) rfl (st (.ext (.t rfl) rfl) rfl (.alloc [isI 0, isI 0, nilS] zero24 (fun _ _ => ⟨⟨rfl, by decide, by decide⟩, ⟨rfl, by decide, by decide⟩, rfl, trivial⟩) rfl fun b4 => .store (.t rfl) (.t rfl) (i := 0) rfl ty24 rfl rfl (Ss' := [_, _, _]) rfl (M' := [(some _, cellM [_, _, _]), _, _, _]) rfl (stM rfl (nkQ k6 (.w [4,5,6,7,8] rfl (.sr fun k7 => st (.load (.t rfl) (i := 0) rfl ty24 rfl (Ss' := [_, _, _]) rfl) rfl (st (.load (.t rfl) (i := 2) rfl ty33 rfl (Ss' := [_, _]) rfl) rfl (st (.load (.t rfl) (i := 1) rfl ty33 rfl (Ss' := [_, _]) rfl) rfl (.callX (gram_Basis (R := P) (C := C) (K := 275) (xs := Bl.map nz) hBb (by decide) (by omega) hC4 hBl (by rw [val_words]; omega) (by rw [val_words]; omega) (by simp only [zv_nf]; exact hmay) (by rw [zv_nf]; decide) (by simp only [zv_nf]; omega)) (List.Perm.refl _) (.cons (.t rfl) (.cons (.t rfl) (.cons (.t rfl) .nil))) rfl ?_))))))))))
  rintro _ _ ⟨Nl, rfl, rfl, hNS⟩
  have hrk : rkL P C (vals (Bl.map nz)) = P := by rw [vals_nz, hP]; exact hBS.rank hb
  rw [hrk]
  have hNb : Bd (vals (Nl.map nz)) 10000 := by rw [vals_nz]; exact hNS.bd.mono (by decide)
  have hNl : (Nl.map nz).length = P * C := by rw [List.length_map, hNS.len, hrk]
  have hNe := hNS.eqv
  rw [hrk] at hNe
  refine stM rfl (st (.ext (.t rfl) rfl) rfl (st (.ext (.t rfl) rfl) rfl (.alloc [isI 0, isI 0, nilS] zero24 (fun _ _ => ⟨⟨rfl, by decide, by decide⟩, ⟨rfl, by decide, by decide⟩, rfl, trivial⟩) rfl fun b5 => .store (.t rfl) (.t rfl) (i := 0) rfl ty24 rfl rfl (Ss' := [_, _, _]) rfl (M' := [(some _, cellM [_, _, _]), _, _, _, _]) rfl (stM rfl (nkQ k7 (.w [4,7,8,9,10] rfl (.sq fun k8 => .sr fun k9 => stM rfl (st (.neI (.t rfl) (.cI 0 rfl)) rfl (stM rfl (stF rfl rfl (fun hg => .mv (.t rfl)) rfl (stF rfl rfl (fun hg => .neI (Has.g rfl hg) (.cI 0 rfl)) rfl (st (.pickOr (.t rfl) (fun h => Has.g rfl (ng h))) rfl (nkQ k9 (.w [4,7,9,51] rfl (.cd rfl (fun hc2 => ?_) (fun hc2 => ?_))))))))))))))))
  ·exfalso; simp at hc2
  ·refine .skip (.nk k8 (.sr fun k10 => st (.load (.t rfl) (i := 0) rfl ty24 rfl (Ss' := [_, _, _]) rfl) rfl (st (.load (.t rfl) (i := 1) rfl ty24 rfl (Ss' := [_, _, _]) rfl) rfl (st (.eq (.call (hnf_WithinB (R := P) (R' := P) (C := C) (Ka := 10000) (K := 275) hNb hBb (by decide) (by decide) (by omega) (by omega) hC4 hNl hBl) (.cons (.t rfl) (.cons (.t rfl) .nil))) ((show _ = isTup [isB true, isI 0] from by rw [vals_nz, vals_nz, winB_iff.2 (by rw [vals_nz] at hNe; exact hNe.1)]))) rfl ?_))))
   refine stM rfl (st (.ext (.t rfl) rfl) rfl (st (.ext (.t rfl) rfl) rfl (stM rfl (stM rfl (nkQ k10 (.w [4,7,9,11,12] rfl (.sr fun k11 => stM rfl (st (.eqI (.t rfl) (.cI 0 rfl)) rfl (stM rfl (stT rfl rfl (fun hg => .mv (.t rfl)) rfl (st (.pickAnd (.t rfl) (fun h => Has.g rfl h)) rfl (stM rfl (stT rfl rfl (fun hg => .fieldAddr (.t rfl) fld24_0 ty3) rfl (stT rfl rfl (fun hg => .load1 (Has.g rfl hg) (i := 0) rfl ty3 rfl) rfl (stT rfl rfl (fun hg => .fieldAddr (.t rfl) fld24_0 ty3) rfl (stT rfl rfl (fun hg => .load1 (Has.g rfl hg) (i := 1) rfl ty3 rfl) rfl (stT rfl rfl (fun hg => .eqI (Has.g rfl hg) (Has.g rfl hg)) rfl (st (.pickAnd (.t rfl) (fun h => Has.g rfl h)) rfl (stM rfl (nkQ k11 (.w [4] rfl (.ret (rtX1D (.cons _ (.cons _ (.cons _ (.cons _ (.cons _ .slnil))))) (.inl rfl) Tryz.results4 rfl (.tmp (.t rfl) .nil) (isB_eq (by simp)))))))))))))))))))))))))
theorem c_GramStays (r c : Int) (xs : List (Bool × List Nat)) (p : Nat) : Ctr Tryz.prog 4 [isM r c xs, isK .u8 (p : Int)] (isB true) := by
  cases h : formB r c xs.length with
  | true =>
    obtain ⟨R, C, rfl, rfl, h1, h2, h3⟩ := formB_iff.1 h
    exact (c_GramStays_ok R C xs h1 h2 h3 p).toCtr fun S' M' hh => hh
  | false => exact (c_GramStays_bad r c xs p h).toCtr fun S' M' hh => hh
end Go.Proofs.YtlebmedapfncoaaGreat
namespace Go.En
open Go.RowKit Go.ChangeShapes Go.WideShapes Go.ChangeAt
theorem pair_get {α β : Type} (g h : α → β) : ∀ (l : List α) (j : Nat), (l.flatMap fun a => [g a, h a])[j]? = (l[j / 2]?).map (fun a => if j % 2 = 0 then g a else h a)
  | [], j => by simp
  | a :: l, 0 => by simp
  | a :: l, 1 => by simp
  | a :: l, j + 2 => by
    have := pair_get g h l j
    rw [show (j + 2) / 2 = j / 2 + 1 by omega, show (j + 2) % 2 = j % 2 by omega]
    simpa using this
section
variable {H : Type} {enc : TypeId × Value → H} {P : Program}
end
end Go.En
namespace Go.En
open Go.RowKit Go.ChangeShapes Go.WideShapes Go.ChangeAt
section
variable {H : Type} {enc : TypeId × Value → H} {P : Program}
theorem rd_Zs {W : World} {T e tb ts T' : TypeId} {fuel : Nat} {cs : List Value} {x : DataW H × List MemPlace} (hT : P.underlying T = some (.slice e)) (hfs : fsB P e = some [(tb, 0), (ts, 1)]) (hub : P.underlying tb = some .bool) (hu : P.underlying ts = some (.slice T')) (hu' : P.underlying T' = some (.int .u64)) (hc : P.cellsOf T' = 1) (hcb : P.cellsOf tb = 1) (hcs : P.cellsOf ts = 1) (hce : P.cellsOf e = 2)
    (hf : DataW.trod enc P W 0 (fun _ => true) true fuel T cs = some x) (hps : ∀ y ∈ x.2, y.block < W.heap.size) : ∃ (v : Value) (xs : List (Bool × List Nat)), cs = [v] ∧ (isZs xs).h W (fun b => b < W.heap.size) v := by
  obtain ⟨d, ps⟩ := x
  obtain ⟨fs, hue, hsz, hget⟩ := fsB_spec hfs
  obtain ⟨f0, g0, rfl, e0⟩ := hget 0 tb 0 rfl
  obtain ⟨f1, g1, rfl, e1⟩ := hget 1 ts 1 rfl
  have hfs2 : fs = #[f0, f1] := by
    apply Array.ext'
    have hl : fs.toList.length = 2 := by simpa using hsz
    match hq : fs.toList, hl with
    | [p, q], _ =>
      have a0 : fs.toList[0]? = some f0 := by simpa using g0
      have a1 : fs.toList[1]? = some f1 := by simpa using g1
      rw [hq] at a0 a1
      simp at a0 a1
      rw [a0, a1]
  subst hfs2
  rcases Deep.open_slice_pairs hT hue hce e0 e1 hcb hcs hf with ⟨h1, _⟩ | ⟨a, len, cap, m, n, V0, V1, D0, D1, P0, P1, h1, _, hlc, hcm, hm, hx, hel⟩
  · exact ⟨_, [], h1, nilK⟩
  · simp only [if_true] at hm
    subst m
    have hps' : ∀ i, i < cap → ∀ y ∈ P1 i, y.block < W.heap.size := fun i hi y hy => hps y (by
      have := (Prod.mk.inj hx).2
      rw [this]
      exact List.mem_append_right _ (List.mem_flatMap.2 ⟨i, List.mem_range.2 hi, List.mem_append_right _ hy⟩))
    obtain ⟨l, hl, hgl⟩ := list_of_get (p := fun i (x : Bool × List Nat) => V0 i = .bool x.1 ∧ (isWords x.2).h W (fun b => b < W.heap.size) (V1 i)) len (fun i hi => by
      obtain ⟨_, _, q0, q1⟩ := hel i (by omega)
      obtain ⟨b, hb, _⟩ := DataW.trod_bool hub q0
      obtain ⟨v, ws, hv1, hw⟩ := rd_row hu hu' hc word_of q1 (hps' i (by omega))
      obtain rfl : V1 i = v := by simpa using hv1
      exact ⟨(b, ws), by simpa using hb, hw⟩)
    refine ⟨_, l, h1, some a, cap, by rw [hl], by rw [hl]; exact hlc, hcm, flat_len zc_len l, ?_⟩
    rcases Nat.eq_zero_or_pos len with h0 | h0
    · exact .inl (by omega)
    · have hc0 := (hel 0 (by omega)).1
      have hs : a.spot = none := by
        cases hsp : a.spot with
        | none => rfl
        | some s =>
          simp only [Addr.add, Nat.zero_mul, if_true] at hc0
          unfold World.cell? at hc0
          rw [hsp] at hc0
          split at hc0 <;> simp at hc0
      obtain ⟨b, off, sp⟩ := a
      simp only at hs
      subst hs
      right
      refine ⟨b, off, rfl, ?_, (List.range len).flatMap (fun i => [V0 i, V1 i]), ?_, fun j u hj => ?_⟩
      · have : MemPlace.cell b (off + 0) ∈ ps := by
          have := (Prod.mk.inj hx).2
          rw [this]
          exact List.mem_append_left _ (List.mem_map.2 ⟨0, by simp; omega, rfl⟩)
        exact hps _ this
      · have hlen2 : ((List.range len).flatMap fun i => [V0 i, V1 i]).length = len * 2 := by
          have := flat_len (fk := fun (i : Nat) => [isB true, isB true]) (k := 2) (fun _ => rfl) (List.range len)
          rw [List.length_flatMap] at this ⊢
          simpa using this
        refine all2_of_get (by rw [flat_len zc_len, hlen2, hl]) (fun j S v hS hv => ?_)
        have hz := pair_get (fun p : Bool × List Nat => isB p.1) (fun p => isWords p.2) l j
        rw [show (l.flatMap fun a => [isB a.1, isWords a.2]) = l.flatMap zc from rfl, hS] at hz
        have hw := pair_get V0 V1 (List.range len) j
        rw [hv] at hw
        have hj : j / 2 < l.length := by
          rcases Nat.lt_or_ge (j / 2) l.length with h | h
          · exact h
          · rw [List.getElem?_eq_none h] at hz; cases hz
        rw [List.getElem?_eq_getElem hj] at hz
        rw [List.getElem?_range (by omega)] at hw
        simp only [Option.map_some, Option.some.injEq] at hz hw
        obtain ⟨k1, k2⟩ := hgl (j / 2) hj
        subst hz; subst hw
        by_cases hp : j % 2 = 0
        · rw [if_pos hp, if_pos hp, k1]; rfl
        · rw [if_neg hp, if_neg hp]; exact k2
      · have hw := pair_get V0 V1 (List.range len) j
        rw [hj] at hw
        have hjl : j / 2 < len := by
          rcases Nat.lt_or_ge (j / 2) len with h | h
          · exact h
          · rw [List.getElem?_eq_none (by simpa using h)] at hw; cases hw
        rw [List.getElem?_range hjl] at hw
        simp only [Option.map_some, Option.some.injEq] at hw
        obtain ⟨q0, q1, _, _⟩ := hel (j / 2) (by omega)
        rw [add_mk] at q0
        rw [add_mk] at q1
        by_cases hp : j % 2 = 0
        · rw [if_pos hp] at hw; subst hw
          rw [show off + j = off + j / 2 * 2 by omega]; exact q0
        · rw [if_neg hp] at hw; subst hw
          rw [show off + j = off + (j / 2 * 2 + 1) by omega]; exact q1
theorem open_M {W : World} {base : Nat} {T ti tm e tb ts T' : TypeId} {v : Value} {d : DataW H} {ps : List MemPlace} (hfM : fsB P T = some [(ti, 0), (ti, 1), (tm, 2)]) (hui : P.underlying ti = some (.int .i64)) (hT : P.underlying tm = some (.slice e)) (hfs : fsB P e = some [(tb, 0), (ts, 1)]) (hub : P.underlying tb = some .bool) (hu : P.underlying ts = some (.slice T')) (hu' : P.underlying T' = some (.int .u64)) (hc : P.cellsOf T' = 1) (hcb : P.cellsOf tb = 1) (hcs : P.cellsOf ts = 1) (hce : P.cellsOf e = 2)
    (hci : P.cellsOf ti = 1) (hcm : P.cellsOf tm = 1) (hcT : P.cellsOf T = 3) (hv : Value.okWide P W .any base T v) (h : DataW.Trod enc P W 0 (fun _ => true) true T v d ps) (hps : ∀ x ∈ ps, x.block < W.heap.size) : ∃ x : Int × Int × List (Bool × List Nat), (isM x.1 x.2.1 x.2.2).h W (fun b => b < W.heap.size) v := by
  obtain ⟨fs, huT, hsz, hget⟩ := fsB_spec hfM
  have hv' := hv
  simp only [Value.okWide, huT] at hv'
  obtain ⟨cs, rfl, _, _⟩ := hv'
  obtain ⟨fuel, hf⟩ := h
  obtain ⟨xs, m, _, hx, hl, hxl, hfe⟩ := DataW.trod_struct huT hf
  simp [Value.cells] at hl hx
  obtain ⟨f0, g0, rfl, e0⟩ := hget 0 ti 0 rfl
  obtain ⟨f1, g1, k1, e1⟩ := hget 1 _ 1 rfl
  obtain ⟨f2, g2, rfl, e2⟩ := hget 2 tm 2 rfl
  have h0 := hfe 0 f0 g0
  have h1 := hfe 1 f1 g1
  have h2 := hfe 2 f2 g2
  rw [List.getElem?_eq_getElem (by rw [hxl, hsz]; simp)] at h0 h1 h2
  rw [e0, hci] at h0
  rw [e1, k1, hci] at h1
  rw [e2, hcm] at h2
  obtain ⟨r, hr, hr1, hr2⟩ := rd_I hui h0
  obtain ⟨c, hc1, hc2, hc3⟩ := rd_I hui h1
  obtain ⟨u, ws, hu1, hw⟩ := rd_Zs hT hfs hub hu hu' hc hcb hcs hce h2 (fun y hy => hps y (by
    rw [hx.2]
    exact List.mem_flatMap.2 ⟨_, List.getElem_mem _, hy⟩))
  refine ⟨(r, c, ws), cs.toList, by simp, ?_⟩
  have hcs2 : cs.toList = [.int .i64 r, .int .i64 c, u] := by
    have hlen : cs.toList.length = 3 := by rw [← hcT]; simpa using hl
    match hq : cs.toList, hlen with
    | [p, q, t], _ =>
      have a1 : [p] = [Value.int .i64 r] := by have := hr; simpa [Value.cells, hq] using this
      have a2 : [q] = [Value.int .i64 c] := by have := hc1; simpa [Value.cells, hq] using this
      have a3 : [t] = [u] := by have := hu1; simpa [Value.cells, hq] using this
      rw [List.cons.inj a1 |>.1, List.cons.inj a2 |>.1, List.cons.inj a3 |>.1]
  rw [hcs2]
  exact ⟨⟨rfl, hr1, hr2⟩, ⟨rfl, hc2, hc3⟩, hw, trivial⟩
end
end Go.En
namespace Go.Proofs.YtlebmedapfncoaaGreat
open Go.En Go.RowKit
set_option maxRecDepth 10000
open Go.ChangeShapes
open Go.WideShapes
open Go.ChangeAt
open Go.Nt
open Go.Pz
open Go.Mz
theorem opens_GramStays : Opens Tryz.prog Tryz.f4 4 := by
 intro H enc W base args ds ps hval hA hlt
 rw [Tryz.params4] at hA hval
 obtain ⟨v0, vs0, d0, ds0, p0, q0, hargs, rfl, rfl, h0, r0⟩ := trodAll_cons hA
 obtain ⟨v1, vs1, d1, ds1, p1, q1, rfl, rfl, rfl, h1, r1⟩ := trodAll_cons r0
 obtain ⟨rfl, rfl, rfl⟩ := trodAll_nil r1
 obtain rfl : args = #[v0, v1] := by cases args; simp_all
 obtain ⟨x0, o0⟩ := open_M fs24 un3 un22 fs33 un4 un31 un50 (by kernel_rfl) (by kernel_rfl) (by kernel_rfl) (by kernel_rfl) (by kernel_rfl) (by kernel_rfl) (by kernel_rfl) (hval 0 24 v0 rfl rfl) h0 (fun x hx => hlt x (by simp [hx]))
 obtain ⟨x1, o1⟩ := open_N un5 rfl (hval 1 5 v1 rfl rfl) h1
 refine ⟨_, ?_, c_GramStays x0.1 x0.2.1 x0.2.2 x1⟩
 exact ⟨o0, o1 _, trivial⟩
theorem jn_GramStays : Tryz.pinned.checked.prog.funcNamed Rows.gramStaysRow.func = some 4 := by kernel_rfl
theorem jf_GramStays : joinedFacts Tryz.pinned.checked.prog 4 Tryz.f4 Rows.gramStaysSpec Rows.gramStaysRow = true := by kernel_rfl
theorem jl_GramStays : laidOutB Tryz.checked.prog = true := by kernel_rfl
theorem gramStays_said : Rows.GramStaysSaid :=
 OpenClaim.holds_of_wide 4 Tryz.f4 rfl rfl rfl rfl rfl rfl rfl ⟨rfl, rfl, rfl, rfl, rfl⟩ rfl rfl rfl rfl rfl jn_GramStays Tryz.func4 jf_GramStays
  (of_decide_eq_true (by kernel_rfl)) (by unfold Func.isWrapper; first | (rw [if_pos (by decide +kernel)]; kernel_rfl) | (rw [if_neg (by decide +kernel)]; exact ⟨rfl, rfl⟩))
  (fun os started H enc _ => lift_law (C := Tryz.checked) (s := Rows.gramStaysSpec) (by kernel_rfl) started (by kernel_rfl) Tryz.func4
   (ChangeSpec.witness6 (enc := enc) (C := Tryz.checked) false ⟨#[], #[.agg #[.int .i64 0, .int .i64 0, .slice none 0 0], .int .u8 0], []⟩ 8 (by kernel_rfl) (by kernel_rfl) (by kernel_rfl) (by kernel_rfl))
   jl_GramStays (by kernel_rfl) rfl rfl un4 (fun ds h => by match ds, h with | [d0, d1], _ => rfl) opens_GramStays)
#print axioms gramStays_said
end Go.Proofs.YtlebmedapfncoaaGreat
