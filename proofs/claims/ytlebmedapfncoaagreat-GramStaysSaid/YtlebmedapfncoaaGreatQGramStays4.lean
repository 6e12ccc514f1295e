/- Rules and contracts, part 4 of 6. -/
import Derived.Test.YtlebmedapfncoaaGreatQGramStays3
namespace Go.Proofs.YtlebmedapfncoaaGreat
open Go.En Go.RowKit
set_option maxRecDepth 10000
set_option maxHeartbeats 4000000
open Go.Nt
open Go.Pz
open Go.Mz
theorem zmat_Of_1 {C i k : Nat} {l : List Int} (hx : l.length ≤ 4096) (hl : i * C + k < l.length) : Ctr Tryz.prog 30 [isI (i : Int), isI (k : Int), PtrL [SlM isI l], PtrL [isI (C : Int)]] (isZ (cf l (i * C + k))) := by
 refine Ctr.i Tryz.func30 rfl Tryz.ntmps30 fun w0 F0 => .w [0,1,2,3] rfl (.fact (Has.rngI (Has.t (t := 0) rfl)) fun lt0 => .fact (Has.rngI (Has.t (t := 1) rfl)) fun lt1 => ?_)
 have hcp : ((i : Int) * (C : Int)) = ((i * C : Nat) : Int) := (Int.natCast_mul i C).symm
 refine .sr fun k1 => .alloc [isB false, SlM isU []] zero33 (fun _ _ => ⟨rfl, nilM _ _, trivial⟩) rfl fun b1 => nkQ k1 (.sr fun k2 => st (.loadP1 (.t rfl) ty57) rfl (stM rfl (st (.loadP1 (.t rfl) ty3) rfl (st (.eq (.mulI (.t rfl) (.t rfl) (by omega) (by omega)) ((show isI _ = isI ((i * C : Nat) : Int) from isI_eq hcp))) rfl (stM rfl (st (.eq (.addI (.t rfl) (.t rfl) (by omega) (by omega)) ((show isI _ = isI ((i * C + k : Nat) : Int) from isI_eq (by omega)))) rfl (st (.ixP sl57 ty2 (.t rfl) (.t rfl) (by omega) (getD_some (d := 0) (by omega))) rfl (st (.loadP1 (.t rfl) ty2) rfl (st (.call (zint_Of) (.cons (.t rfl) .nil)) rfl (.store (.t rfl) (.t rfl) (i := 0) rfl ty33 rfl rfl (Ss' := [_, _]) rfl (M' := [(some _, cellM [_, _])]) rfl (nkQ k2 (.w [6] rfl (.ret (rt1 (.inl rfl) Tryz.results30 rfl (.cell rfl (i := 0) rfl ty33 rfl ?_ .nil)))))))))))))))
 all_goals (rfl)
theorem zmat_Of {R C : Nat} {l : List Int} (hR : R ≤ 64) (hC : C ≤ 64) (hl : l.length = R * C) (hb : ∀ y ∈ l, -9223372036854775808 ≤ y ∧ y < 9223372036854775808) : Ctr Tryz.prog 14 [isI (R : Int), isI (C : Int), SlM isI l] (isTup [isMz R C (tab (R * C) C fun i k => cf l (i * C + k)), isI 0]) := by
 refine Ctr.i Tryz.func14 rfl Tryz.ntmps14 fun w0 F0 => .w [0,1,2] rfl (.fact (Has.rngI (Has.t (t := 0) rfl)) fun lt0 => .fact (Has.rngI (Has.t (t := 1) rfl)) fun lt1 => .fact (Has.lenLt (Has.t (t := 2) rfl)) fun lt2 => ?_)
 have hRC := side_le hR hC
 have hcp : ((R : Int) * (C : Int)) = ((R * C : Nat) : Int) := (Int.natCast_mul R C).symm
 refine .sr fun k1 => .box (.t rfl) rfl fun b1 => .box (.t rfl) rfl fun b2 => .alloc [isI 0, isI 0, nilS] zero24 (fun _ _ => ⟨⟨rfl, by decide, by decide⟩, ⟨rfl, by decide, by decide⟩, rfl, trivial⟩) rfl fun b3 => st (.as (.cI 0 rfl)) rfl (nkQ k1 (.sq fun k2 => .block (.sr fun k3 => stM rfl (st (.call (zmat_side) (.cons (.t rfl) .nil)) rfl (st (.not (.t rfl)) rfl (stM rfl (stF rfl rfl (fun hg => .load1 (.t rfl) (i := 2) rfl ty3 rfl) rfl (stF rfl rfl (fun hg => .call (zmat_side) (.cons (Has.g rfl hg) .nil)) rfl (stF rfl rfl (fun hg => .not (Has.g rfl hg)) rfl (st (.pickOr (.t rfl) (fun h => Has.g rfl (ng h))) rfl (stM rfl (nkQ k3 (.w [0,4,5,6,7,8] rfl (.cd rfl (fun hc1 => ?_) (fun hc1 => ?_)))))))))))))))
 ·omega
 ·refine .sr fun k4 => st (.load1 (.t rfl) (i := 1) rfl ty57 rfl) rfl (st (.len sl57 (.t rfl)) rfl (stM rfl (st (.load1 (.t rfl) (i := 2) rfl ty3 rfl) rfl (st (.mulI (.t rfl) (.t rfl) (by rw [hcp]; omega) (by rw [hcp]; omega)) rfl ?_))))
  refine st (.neI (.t rfl) (.t rfl)) rfl (stM rfl (nkQ k4 (.w [0,4,5,6,7,18] rfl (.cd rfl (fun hc2 => ?_) (fun hc2 => ?_)))))
  ·rw [hcp] at hc2; omega
  ·refine .skip (.bln (.nk k2 (.sr fun k5 => stM rfl (st (.load1 (.t rfl) (i := 2) rfl ty3 rfl) rfl (.cv (Cv.freezeBox (t := 5) (i := 1) rfl rfl rfl) (.memEq (M' := [_, _]) rfl (.w [0,4,5,6,7,18,26,27] rfl (.cv (Cv.freezeBox (t := 4) (i := 1) rfl rfl rfl) (.memEq (M' := [_]) rfl (.w [0,4,5,6,7,18,26,27] rfl (st (.makeFn (ι := PI R C) (As := fun p => [isI (p.1.1 : Int), isI (p.1.2 : Int)]) (R := fun p => Flat (zc (nz (cf l (p.1.1 * C + p.1.2))))) (fun p => zmat_Of_1 (by omega) (by rw [hl]; exact place_lt p.2.1 p.2.2)) .nil (.cons (.t rfl) (.cons (.t rfl) .nil))) rfl ?_)))))))))))
   refine st (.call (zmat_made (f := fun i k => nz (cf l (i * C + k))) hR hC (fun i k _ _ => by rw [val_words]; exact Nat.le_trans (bd64 hb _) (by decide))) (.cons (.t rfl) (.cons (.t rfl) (.cons (.t rfl) .nil)))) rfl ?_
   refine .store (.t rfl) (.t rfl) (i := 0) rfl ty24 rfl rfl (Ss' := [_, _, _]) rfl (M' := [(some _, cellM [_, _, _])]) rfl (st (.as (.cI 0 rfl)) rfl (nkQ k5 (.w [6,7] rfl (.ret (rtN (.inl rfl) Tryz.results14 rfl rfl (.cell rfl (i := 0) rfl ty24 rfl ?_ (.tmp (Has.t' rfl ?_) .nil)))))))
   ·exact isMz_eq (by rw [zvz fun i k => cf l (i * C + k)])
   ·rfl
theorem zmat_At {R C i k : Nat} {xs : List (Bool × List Nat)} {K : Nat} (hx : Bd (vals xs) K) (hK : K ≤ 4000000000) (hR : R ≤ 64) (hC : C ≤ 64) (hl : xs.length = R * C) (hi : i < R) (hk : k < C) : Ctr Tryz.prog 17 [isM (R : Int) (C : Int) xs, isI (i : Int), isI (k : Int)] (isZ (cf (vals xs) (i * C + k))) := by
 refine Ctr.i Tryz.func17 rfl Tryz.ntmps17 fun w0 F0 => .w [0,1,2] rfl (.fact (Has.rngI (Has.t (t := 1) rfl)) fun lt1 => .fact (Has.rngI (Has.t (t := 2) rfl)) fun lt2 => ?_)
 have hRC := side_le hR hC
 have hpl := place_lt hi hk
 have hfo := formB_true hR hC hl
 have hxr := hx.raw (i * C + k)
 refine .sr fun k1 => .box (.t rfl) rfl fun b1 => .alloc [isB false, SlM isU []] zero33 (fun _ _ => ⟨rfl, nilM _ _, trivial⟩) rfl fun b2 => nkQ k1 (.sq fun k2 => .sr fun k3 => st (.load (.t rfl) (i := 1) rfl ty24 rfl (Ss' := [_, _, _]) rfl) rfl (st (.eq (.call (zmat_Formed) (.cons (.t rfl) .nil)) ((show isB _ = isB true from isB_eq hfo))) rfl (st (.not (.t rfl)) rfl (stM rfl (stF rfl rfl (fun hg => .load (.t rfl) (i := 1) rfl ty24 rfl (Ss' := [_, _, _]) rfl) rfl (stF rfl rfl (fun hg => .mv (.t rfl)) rfl (stF rfl rfl (fun hg => .call (zmat_has) (.cons (Has.g rfl hg) (.cons (Has.g rfl hg) .nil))) rfl (stF rfl rfl (fun hg => .not (Has.g rfl hg)) rfl (st (.pickOr (.t rfl) (fun h => Has.g rfl (ng h))) rfl (stM rfl (stF rfl rfl (fun hg => .mv (.t rfl)) rfl (stF rfl rfl (fun hg => .ltI (Has.g rfl hg) (.cI 0 rfl)) rfl (st (.pickOr (.t rfl) (fun h => Has.g rfl (ng h))) rfl (stM rfl (stF rfl rfl (fun hg => .mv (.t rfl)) rfl (stF rfl rfl (fun hg => .fieldAddr (.t rfl) fld24_1 ty3) rfl (stF rfl rfl (fun hg => .load1 (Has.g rfl hg) (i := 1) rfl ty3 rfl) rfl (stF rfl rfl (fun hg => .geI (Has.g rfl hg) (Has.g rfl hg)) rfl (st (.pickOr (.t rfl) (fun h => Has.g rfl (ng h))) rfl (nkQ k3 (.w [1,2,3,6,26] rfl ?_)))))))))))))))))))))
 refine .cd rfl (fun hc1 => ?_) (fun hc1 => ?_)
 ·simp at hc1; omega
 ·refine .skip (.nk k2 (.sr fun k4 => st (.load (.t rfl) (i := 1) rfl ty24 rfl (Ss' := [_, _, _]) rfl) rfl (stM rfl (stM rfl (st (.call (zmat_get (i := i) (k := k) (by omega) (by omega)) (.cons (.t rfl) (.cons (.t rfl) (.cons (.t rfl) .nil)))) rfl (.alloc [isB false, SlM isU []] zero33 (fun _ _ => ⟨rfl, nilM _ _, trivial⟩) rfl fun b3 => .store (.t rfl) (.t rfl) (i := 0) rfl ty33 rfl rfl (Ss' := [_, _]) rfl (M' := [(some _, cellM [_, _]), _, _]) rfl (nkQ k4 (.w [6,7] rfl (.sr fun k5 => st (.fieldAddr (.t rfl) fld33_1 ty31) rfl (st (.load1 (.t rfl) (i := 0) rfl ty31 rfl) rfl (st (.fieldAddr (.t rfl) fld33_0 ty4) rfl (st (.load1 (.t rfl) (i := 0) rfl ty4 rfl) rfl (st (.call (zint_From (by omega)) (.cons (.t rfl) (.cons (.t rfl) .nil))) rfl (.store (.t rfl) (.t rfl) (i := 1) rfl ty33 rfl rfl (Ss' := [_, _]) rfl (M' := [_, (some _, cellM [_, _]), _]) rfl (nkQ k5 (.w [6] rfl (.ret (rt1 (.inl rfl) Tryz.results17 rfl (.cell rfl (i := 1) rfl ty33 rfl ?_ .nil)))))))))))))))))))
  all_goals (exact isZ_eq (by rw [cf_vals]))
theorem zmat_Mul_1 {R C D i k K L : Nat} {xs ys : List (Bool × List Nat)} (hx : Bd (vals xs) K) (hy : Bd (vals ys) L) (hK : K + L ≤ 400000000) (hC : C ≤ 64) (hxl : xs.length = R * C) (hyl : ys.length = C * D) (hxm : xs.length ≤ 4096) (hym : ys.length ≤ 4096) (hi : i < R) (hk : k < D) : Ctr Tryz.prog 57 [isI (i : Int), isI (k : Int), ptM (R : Int) (C : Int) xs, ptM (C : Int) (D : Int) ys] (isZ (dotS (fun j => cf (vals xs) (i * C + j)) (fun j => cf (vals ys) (j * D + k)) C)) := by
 refine Ctr.i Tryz.func57 rfl Tryz.ntmps57 fun w0 F0 => .w [0,1,2,3] rfl (.fact (Has.rngI (Has.t (t := 0) rfl)) fun lt0 => .fact (Has.rngI (Has.t (t := 1) rfl)) fun lt1 => ?_)
 obtain ⟨f, hf⟩ : ∃ f : Nat → Int, f = fun j => cf (vals xs) (i * C + j) := ⟨_, rfl⟩
 obtain ⟨g, hg⟩ : ∃ g : Nat → Int, g = fun j => cf (vals ys) (j * D + k) := ⟨_, rfl⟩
 rw [← hf, ← hg]
 refine .sr fun k1 => .alloc [isB false, SlM isU []] zero33 (fun _ _ => ⟨rfl, nilM _ _, trivial⟩) rfl fun b1 => nkQ k1 (.sr fun k2 => .alloc [isB false, SlM isU []] zero33 (fun _ _ => ⟨rfl, nilM _ _, trivial⟩) rfl fun b2 => nkQ k2 (.sq fun k3 => .sr fun k4 => st (.fieldAddrP (.t rfl) fld24_1 ty3 (Ss' := [_, _]) rfl) rfl (st (.loadP1 (.t rfl) ty3) rfl (st (.mv (.cI 0 rfl)) rfl (nkQ k4 (.block (.loopF [0,1,2,3,6,7,10] (fun (z : { j : Nat // j ≤ C }) => match z with | ⟨j, hj⟩ => [(11, isI (j : Int))]) (fun M => fun (z : { j : Nat // j ≤ C }) => match z with | ⟨j, hj⟩ => [zM b2 (dotS f g j), (some b1, cellM [isB false, SlM isU []])]) (fun (z : { j : Nat // j ≤ C }) => match z with | ⟨j, hj⟩ => C - j) (⟨0, Nat.zero_le _⟩) (Cv.mem (.c 11 rfl ?_ (.l [0,1,2,3,6,7,10] rfl)) ?_) ?_)))))))
 ·rfl
 ·exact zM0
 rintro ⟨j, hj⟩ K5 hK5
 refine .w [11,0,1,2,3,6,7,10] rfl (.memEq (M' := [zM b2 (dotS f g j), (some b1, cellM [isB false, SlM isU []])]) rfl ?_)
 have hds := dotS_nw (f := f) (g := g) (K := K) (L := L) (fun j => by rw [hf]; exact hx _) (fun j => by rw [hg]; exact hy _) j
 refine .sr fun k6 => st (.ltI (.t rfl) (.t rfl)) rfl (nkQ k6 (.sq fun k7 => .cd rfl (fun hc1 => ?_) (fun hc1 => ?_)))
 ·have hj2 : j < C := (by omega)
  have hp1 := place_lt hi hj2
  have hp2 := place_lt hj2 hk
  have hxr := hx.raw (i * C + j)
  have hyr := hy.raw (j * D + k)
  have hfj : f j = cf (vals xs) (i * C + j) := by rw [hf]
  have hgj : g j = cf (vals ys) (j * D + k) := by rw [hg]
  have hfk := hx (i * C + j)
  have hgk := hy (j * D + k)
  have hmm := nz_mul (f j) (g j)
  rw [← hfj] at hfk
  rw [← hgj] at hgk
  refine .skip (.nk k7 (.sq fun k8 => .block (.sr fun k9 => stM rfl (stM rfl (nkQ k9 (.dr (.so [] rfl (.load (.t rfl) (i := 0) rfl ty33 rfl (Ss' := [_, _]) rfl) (.so [] rfl (.loadP (.t rfl) ty24 rfl (Ss' := [_, _, _]) rfl) (.m [] rfl (.m [] rfl (.so [15,16,17] rfl (.call (zmat_get (i := i) (k := j) hxm (by omega)) (.cons (.t rfl) (.cons (.t rfl) (.cons (.t rfl) .nil)))) (.so [] rfl (.loadP (.t rfl) ty24 rfl (Ss' := [_, _, _]) rfl) (.m [] rfl (.m [] rfl (.so [19,20,21] rfl (.call (zmat_get (i := j) (k := k) hym (by omega)) (.cons (.t rfl) (.cons (.t rfl) (.cons (.t rfl) .nil)))) (.so [18,22] rfl (.eq (.call (zint_Mul (by omega) (by omega)) (.cons (.t rfl) (.cons (.t rfl) .nil))) ((show isZ _ = isZ (f j * g j) from isZ_eq (by rw [hfj, hgj, cf_vals, cf_vals])))) (.fn (n := 10) mixed (.w [0,1,2,3,6,7,10,11,12,13,8,14,15,16,17,18,19,20,21,22,23] rfl (st (.eq (.call (zint_Add (by rw [val_words]; omega) (by rw [val_words]; omega)) (.cons (.t rfl) (.cons (.t rfl) .nil))) ((show isZ _ = isZ (dotS f g j + f j * g j) from isZ_eq (by simp only [zv_nf])))) rfl ?_)))))))))))))))))))
  refine .store (.t rfl) (.t rfl) (i := 0) rfl ty33 rfl rfl (Ss' := [_, _]) rfl (M' := [(some _, cellM [_, _]), _]) rfl (nl (.bln (.nk k8 (.region (st (.addI (.t rfl) (.cI 1 rfl) (by omega) (by omega)) rfl (stM rfl (nl (.thn (hK5 (⟨j + 1, by omega⟩) _ _ ?_ (Cv.mem (.c 11 rfl ?_ (.l [0,1,2,3,6,7,10] rfl)) ?_))))))))))
  ·show C - (j + 1) < C - j; omega
  ·exact isI_eq (by omega)
  ·rfl
 ·refine .exit (.the (.the (.blh (.nk k3 (.w [6,7] rfl (.sr fun k10 => st (.load (.t rfl) (i := 0) rfl ty33 rfl (Ss' := [_, _]) rfl) rfl (.store (.t rfl) (.t rfl) (i := 1) rfl ty33 rfl rfl (Ss' := [_, _]) rfl (M' := [_, (some _, cellM [_, _])]) rfl (nkQ k10 (.ret (rt1 (.inl rfl) Tryz.results57 rfl (.cell rfl (i := 1) rfl ty33 rfl ?_ .nil)))))))))))
  all_goals (exact isZ_eq (by rw [show j = C by omega]))
theorem zmat_Mul {R C D K L : Nat} {xs ys : List (Bool × List Nat)} (hx : Bd (vals xs) K) (hy : Bd (vals ys) L) (hK : K + L ≤ 400000000) (hR : R ≤ 64) (hC : C ≤ 64) (hD : D ≤ 64) (hxl : xs.length = R * C) (hyl : ys.length = C * D) : Ctr Tryz.prog 34 [isM (R : Int) (C : Int) xs, isM (C : Int) (D : Int) ys] (isTup [isMz R D (tab (R * D) D fun i k => dotS (fun j => cf (vals xs) (i * C + j)) (fun j => cf (vals ys) (j * D + k)) C), isI 0]) := by
 refine Ctr.i Tryz.func34 rfl Tryz.ntmps34 fun w0 F0 => .w [0,1] rfl ?_
 have h1 := side_le hR hC
 have h2 := side_le hC hD
 have hf1 := formB_true hR hC hxl
 have hf2 := formB_true hC hD hyl
 refine .sr fun k1 => .box (.t rfl) rfl fun b1 => .box (.t rfl) rfl fun b2 => .alloc [isI 0, isI 0, nilS] zero24 (fun _ _ => ⟨⟨rfl, by decide, by decide⟩, ⟨rfl, by decide, by decide⟩, rfl, trivial⟩) rfl fun b3 => st (.as (.cI 0 rfl)) rfl (nkQ k1 (.sq fun k2 => .sr fun k3 => st (.load (.t rfl) (i := 2) rfl ty24 rfl (Ss' := [_, _, _]) rfl) rfl (st (.eq (.call (zmat_Formed) (.cons (.t rfl) .nil)) ((show isB _ = isB true from isB_eq hf1))) rfl (st (.not (.t rfl)) rfl (stM rfl (stF rfl rfl (fun hg => .load (.t rfl) (i := 1) rfl ty24 rfl (Ss' := [_, _, _]) rfl) rfl (stF rfl rfl (fun hg => .eq (.call (zmat_Formed) (.cons (Has.g rfl hg) .nil)) ((show isB _ = isB true from isB_eq hf2))) rfl (stF rfl rfl (fun hg => .not (Has.g rfl hg)) rfl (st (.pickOr (.t rfl) (fun h => Has.g rfl (ng h))) rfl (stM rfl (stF rfl rfl (fun hg => .fieldAddr (.t rfl) fld24_1 ty3) rfl (stF rfl rfl (fun hg => .load1 (Has.g rfl hg) (i := 2) rfl ty3 rfl) rfl (stF rfl rfl (fun hg => .fieldAddr (.t rfl) fld24_0 ty3) rfl (stF rfl rfl (fun hg => .load1 (Has.g rfl hg) (i := 1) rfl ty3 rfl) rfl (stF rfl rfl (fun hg => .neI (Has.g rfl hg) (Has.g rfl hg)) rfl (st (.pickOr (.t rfl) (fun h => Has.g rfl (ng h))) rfl (nkQ k3 (.w [2,3,4,5,20] rfl (.cd rfl (fun hc1 => ?_) (fun hc1 => ?_))))))))))))))))))))
 ·simp at hc1
 ·refine .skip (.nk k2 (.sr fun k4 => st (.fieldAddr (.t rfl) fld24_0 ty3) rfl (st (.load1 (.t rfl) (i := 2) rfl ty3 rfl) rfl (st (.fieldAddr (.t rfl) fld24_1 ty3) rfl (st (.load1 (.t rfl) (i := 1) rfl ty3 rfl) rfl (.cv (Cv.freezeBox (t := 2) (i := 2) rfl rfl rfl) (.memEq (M' := [_, _]) rfl (.w [2,3,4,5,20,23,24,25] rfl (.cv (Cv.freezeBox (t := 3) (i := 1) rfl rfl rfl) (.memEq (M' := [_]) rfl (.w [2,3,4,5,20,23,25] rfl (st (.makeFn (ι := PI R D) (As := fun p => [isI (p.1.1 : Int), isI (p.1.2 : Int)]) (R := fun p => Flat (zc (nz (dotS (fun j => cf (vals xs) (p.1.1 * C + j)) (fun j => cf (vals ys) (j * D + p.1.2)) C)))) (fun p => zmat_Mul_1 hx hy hK hC hxl hyl (by omega) (by omega) p.2.1 p.2.2) .nil (.cons (.t rfl) (.cons (.t rfl) .nil))) rfl ?_))))))))))))
  refine st (.call (zmat_made (f := fun i k => nz (dotS (fun j => cf (vals xs) (i * C + j)) (fun j => cf (vals ys) (j * D + k)) C)) hR hD (fun i k _ _ => by rw [val_words]; have := dotS_nw (f := fun j => cf (vals xs) (i * C + j)) (g := fun j => cf (vals ys) (j * D + k)) (fun j => hx _) (fun j => hy _) C; omega)) (.cons (.t rfl) (.cons (.t rfl) (.cons (.t rfl) .nil)))) rfl ?_
  refine .store (.t rfl) (.t rfl) (i := 0) rfl ty24 rfl rfl (Ss' := [_, _, _]) rfl (M' := [(some _, cellM [_, _, _])]) rfl (st (.as (.cI 0 rfl)) rfl (nkQ k4 (.w [4,5] rfl (.ret (rtN (.inl rfl) Tryz.results34 rfl rfl (.cell rfl (i := 0) rfl ty24 rfl ?_ (.tmp (Has.t' rfl ?_) .nil)))))))
  ·exact isMz_eq (by rw [zvz fun i k => dotS (fun j => cf (vals xs) (i * C + j)) (fun j => cf (vals ys) (j * D + k)) C])
  ·rfl
theorem zmat_Transpose_1 {R C i k : Nat} {xs : List (Bool × List Nat)} (hxl : xs.length = R * C) (hxm : xs.length ≤ 4096) (hi : i < C) (hk : k < R) : Ctr Tryz.prog 76 [isI (i : Int), isI (k : Int), ptM (R : Int) (C : Int) xs] (Flat (zc (xs.getD (k * C + i) (false, [])))) := by
 refine Ctr.i Tryz.func76 rfl Tryz.ntmps76 fun w0 F0 => .w [0,1,2] rfl (.fact (Has.rngI (Has.t (t := 0) rfl)) fun lt0 => .fact (Has.rngI (Has.t (t := 1) rfl)) fun lt1 => ?_)
 have hp := place_lt hk hi
 refine .sr fun k1 => .alloc [isB false, SlM isU []] zero33 (fun _ _ => ⟨rfl, nilM _ _, trivial⟩) rfl fun b1 => nkQ k1 (.sr fun k2 => st (.loadP (.t rfl) ty24 rfl (Ss' := [_, _, _]) rfl) rfl (stM rfl (stM rfl (st (.call (zmat_get (i := k) (k := i) hxm (by omega)) (.cons (.t rfl) (.cons (.t rfl) (.cons (.t rfl) .nil)))) rfl (.store (.t rfl) (.t rfl) (i := 0) rfl ty33 rfl rfl (Ss' := [_, _]) rfl (M' := [(some _, cellM [_, _])]) rfl (nkQ k2 (.w [5] rfl (.ret (rt1 (.inl rfl) Tryz.results76 rfl (.cell rfl (i := 0) rfl ty33 rfl ?_ .nil))))))))))
 all_goals (rfl)
theorem zmat_Transpose {R C K : Nat} {xs : List (Bool × List Nat)} (hx : Bd (vals xs) K) (hK : K ≤ 400000000) (hR : R ≤ 64) (hC : C ≤ 64) (hxl : xs.length = R * C) : Ctr Tryz.prog 54 [isM (R : Int) (C : Int) xs] (isTup [isMz C R (tab (C * R) R fun i k => cf (vals xs) (k * C + i)), isI 0]) := by
 refine Ctr.i Tryz.func54 rfl Tryz.ntmps54 fun w0 F0 => .w [0] rfl ?_
 have h1 := side_le hR hC
 have hf1 := formB_true hR hC hxl
 refine .sr fun k1 => .box (.t rfl) rfl fun b1 => .alloc [isI 0, isI 0, nilS] zero24 (fun _ _ => ⟨⟨rfl, by decide, by decide⟩, ⟨rfl, by decide, by decide⟩, rfl, trivial⟩) rfl fun b2 => st (.as (.cI 0 rfl)) rfl (nkQ k1 (.sq fun k2 => .sr fun k3 => st (.load (.t rfl) (i := 1) rfl ty24 rfl (Ss' := [_, _, _]) rfl) rfl (st (.eq (.call (zmat_Formed) (.cons (.t rfl) .nil)) ((show isB _ = isB true from isB_eq hf1))) rfl (st (.not (.t rfl)) rfl (nkQ k3 (.cd rfl (fun hc1 => ?_) (fun hc1 => ?_)))))))
 ·simp at hc1
 ·refine .skip (.nk k2 (.sr fun k4 => st (.fieldAddr (.t rfl) fld24_1 ty3) rfl (st (.load1 (.t rfl) (i := 1) rfl ty3 rfl) rfl (st (.fieldAddr (.t rfl) fld24_0 ty3) rfl (st (.load1 (.t rfl) (i := 1) rfl ty3 rfl) rfl (.cv (Cv.freezeBox (t := 1) (i := 1) rfl rfl rfl) (.memEq (M' := [_]) rfl (.w [0,1,2,3,4,5,6,9,11] rfl (st (.makeFn (ι := PI C R) (As := fun p => [isI (p.1.1 : Int), isI (p.1.2 : Int)]) (R := fun p => Flat (zc (xs.getD (p.1.2 * C + p.1.1) (false, [])))) (fun p => zmat_Transpose_1 hxl (by omega) p.2.1 p.2.2) .nil (.cons (.t rfl) .nil)) rfl (st (.call (zmat_made (f := fun i k => xs.getD (k * C + i) (false, [])) hC hR (fun i k _ _ => Nat.le_trans (hx.raw _) (by omega))) (.cons (.t rfl) (.cons (.t rfl) (.cons (.t rfl) .nil)))) rfl (.store (.t rfl) (.t rfl) (i := 0) rfl ty24 rfl rfl (Ss' := [_, _, _]) rfl (M' := [(some _, cellM [_, _, _])]) rfl (st (.as (.cI 0 rfl)) rfl (nkQ k4 (.w [2,3] rfl (.ret (rtN (.inl rfl) Tryz.results54 rfl rfl (.cell rfl (i := 0) rfl ty24 rfl ?_ (.tmp (Has.t' rfl ?_) .nil))))))))))))))))))
  ·exact isMz_eq (by congr 1; funext i k; rw [cf_vals])
  ·rfl
end Go.Proofs.YtlebmedapfncoaaGreat
namespace Go.Proofs.YtlebmedapfncoaaGreat
open Go.En Go.RowKit
set_option maxRecDepth 10000
set_option maxHeartbeats 4000000
open Go.Nt
open Go.Pz
open Go.Mz
open Go.Hn
theorem zint_Floor {m n : Bool} {xs ys : List Nat} (hx : (List.length (words (val xs))) < 4294700000) (hy : (List.length (words (val ys))) < 4294700000) (hp : 0 < zv n ys) : Ctr Tryz.prog 48 [Flat [isB m, isWords xs], Flat [isB n, isWords ys]] (isTup [isZ (zv m xs / zv n ys), isZ (zv m xs % zv n ys), isB true]) := by
 refine Ctr.i Tryz.func48 rfl Tryz.ntmps48 fun w0 F0 => .w [0,1] rfl (.fact (Has.okZ (Has.t (t := 0) rfl)) fun okz0 => .fact (Has.okZ (Has.t (t := 1) rfl)) fun okz1 => ?_)
 have ha := nz_tdiv (zv m xs) (zv n ys)
 have hb := nz_if (zv m xs) (zv n ys)
 have hxx := zv_nw m xs
 have hyy := zv_nw n ys
 have h1 := nz_one
 have hs1 : sgn (zv n ys) = 1 := by rcases sgn_cases (zv n ys) with h | h | h <;> omega
 have hr := sgn_range (if zv n ys = 0 then 0 else (zv m xs).tmod (zv n ys))
 refine .sr fun k1 => .box (.t rfl) rfl fun b1 => .box (.t rfl) rfl fun b2 => .alloc [isB false, SlM isU []] zero33 (fun _ _ => ⟨rfl, nilM _ _, trivial⟩) rfl fun b3 => .alloc [isB false, SlM isU []] zero33 (fun _ _ => ⟨rfl, nilM _ _, trivial⟩) rfl fun b4 => st (.as (.cB false)) rfl (nkQ k1 (.sr fun k2 => st (.load (.t rfl) (i := 3) rfl ty33 rfl (Ss' := [_, _]) rfl) rfl (st (.load (.t rfl) (i := 2) rfl ty33 rfl (Ss' := [_, _]) rfl) rfl (st (.call (zint_Quo (by with_reducible assumption) (by with_reducible assumption)) (.cons (.t rfl) (.cons (.t rfl) .nil))) rfl (stM rfl (st (.ext (.t rfl) rfl) rfl (st (.ext (.t rfl) rfl) rfl (st (.ext (.t rfl) rfl) rfl (.alloc [isB false, SlM isU []] zero33 (fun _ _ => ⟨rfl, nilM _ _, trivial⟩) rfl fun b5 => .alloc [isB false, SlM isU []] zero33 (fun _ _ => ⟨rfl, nilM _ _, trivial⟩) rfl fun b6 => .store (.t rfl) (.t rfl) (i := 1) rfl ty33 rfl rfl (Ss' := [_, _]) rfl (M' := [_, (some _, cellM [_, _]), _, _, _, _]) rfl (.store (.t rfl) (.t rfl) (i := 0) rfl ty33 rfl rfl (Ss' := [_, _]) rfl (M' := [(some _, cellM [_, _]), _, _, _, _, _]) rfl (stM rfl (nkQ k2 (.w [3,4,5,6,7,8,9] rfl (.sq fun k3 => .sq fun k4 => .dr (.m [] rfl (.m [17] rfl (.s [18] rfl rfl rfl (.T rfl rfl rfl (fun hg => .load (.t rfl) (i := 0) rfl ty33 rfl (Ss' := [_, _]) rfl)) ?_)))))))))))))))))
 refine .s [18,19] rfl rfl rfl (.T rfl rfl rfl (fun hg => have hg' := BP.t hg; OK1.eq (.call (zint_Sign (by simp only [val_words, zv_nf]; omega)) (.cons (Has.g rfl hg) .nil)) (by simp only [val_words, zv_nf]; rfl))) ?_
 refine .s [18] rfl rfl rfl (.T rfl rfl rfl (fun hg => .load (.t rfl) (i := 4) rfl ty33 rfl (Ss' := [_, _]) rfl)) (.fn (n := 5) mixed (.w [3,4,5,6,7,8,9,18,20,21] rfl ?_))
 refine stT rfl rfl (fun hg => have hg' := BP.t hg; OK1.eq (.call (zint_Sign (by omega)) (.cons (Has.g rfl hg) .nil)) ((show isI _ = isI 1 from isI_eq hs1))) rfl ?_
 refine stT rfl rfl (fun hg => have hg' := BP.t hg; OK1.mulI (Has.g rfl hg) (Has.g rfl hg) (by omega) (by omega)) rfl ?_
 refine stT rfl rfl (fun hg => .ltI (Has.g rfl hg) (.cI 0 rfl)) rfl (st (.pickAnd (.t rfl) (fun h => Has.g rfl h)) rfl (nkQ k4 (.w [3,4,5,6,7,8,9,25] rfl (.cd rfl (fun hc1 => ?_) (fun hc1 => ?_)))))
 ·have HE := euc1 (x := zv m xs) (y := zv n ys) ⟨hc1.1, by have := hc1.2; omega⟩ ((sgn_pos _).2 hp)
  refine .dr (.so [] rfl (.load (.t rfl) (i := 1) rfl ty33 rfl (Ss' := [_, _]) rfl) (.so [] rfl (.call (zint_one) .nil) (.so [26,27] rfl (.eq (.call (zint_Sub (by simp only [val_words, zv_nf]; omega) (by simp only [val_words, zv_nf]; omega)) (.cons (.t rfl) (.cons (.t rfl) .nil))) (by simp only [val_words, zv_nf]; rfl)) ?_)))
  refine .so [] rfl (.load (.t rfl) (i := 0) rfl ty33 rfl (Ss' := [_, _]) rfl) (.so [] rfl (.load (.t rfl) (i := 4) rfl ty33 rfl (Ss' := [_, _]) rfl) (.fn (n := 5) mixed (.w [4,5,6,7,8,9,28,29,30] rfl (st (.eq (.call (zint_Add (by simp only [val_words, zv_nf]; omega) (by with_reducible assumption)) (.cons (.t rfl) (.cons (.t rfl) .nil))) (by simp only [val_words, zv_nf]; rfl)) rfl ?_))))
  refine .store (.t rfl) (.t rfl) (i := 1) rfl ty33 rfl rfl (Ss' := [_, _]) rfl (M' := [_, (some _, cellM [_, _]), _, _, _, _]) rfl (.store (.t rfl) (.t rfl) (i := 0) rfl ty33 rfl rfl (Ss' := [_, _]) rfl (M' := [(some _, cellM [_, _]), _, _, _, _, _]) rfl (nkQ k3 (.sq fun k5 => .drh [true, true, false, false, true, true] (Ms := [_, _, _, _]) rfl (.so [] rfl (.load (.t rfl) (i := 1) rfl ty33 rfl (Ss' := [_, _]) rfl) (.so [] rfl (.load (.t rfl) (i := 0) rfl ty33 rfl (Ss' := [_, _]) rfl) (.m [] rfl (.mid2 (.cons_cons _ (.cons_cons _ (.cons _ (.cons _ (.cons_cons _ (.cons_cons _ .slnil)))))) (.st0 [32] rfl rfl (by kernel_rfl) (by kernel_rfl) (StS.store (.t rfl) (.t rfl) (i := 3) rfl ty33 rfl rfl (Ss' := [_, _]) rfl (M' := [_, _, _, (some _, cellM [_, _]), _, _]) rfl) (.cons_cons _ (.cons_cons _ (.cons _ (.cons _ (.cons_cons _ (.cons_cons _ .slnil)))))) (.st0 [33] rfl rfl (by kernel_rfl) (by kernel_rfl) (StS.store (.t rfl) (.t rfl) (i := 2) rfl ty33 rfl rfl (Ss' := [_, _]) rfl (M' := [_, _, (some _, cellM [_, _]), _, _, _]) rfl) (.cons_cons _ (.cons_cons _ (.cons _ (.cons _ (.cons_cons _ (.cons_cons _ .slnil)))))) (.fin0 (n := 5) mixed rfl (by kernel_rfl) (by kernel_rfl) (by kernel_rfl) (.w [4,5,6,34] rfl (stM rfl (nkQ k5 (.ret (rtN (.inl rfl) Tryz.results48 rfl rfl (.cell rfl (i := 3) rfl ty33 rfl ?_ (.cell rfl (i := 2) rfl ty33 rfl ?_ (.tmp (Has.t' rfl ?_) .nil))))))))))))))))))
  ·exact isZ_eq HE.1
  ·exact isZ_eq (HE.2.trans (if_neg (by omega)))
  ·exact isB_eq (decide_eq_true (by omega))
 ·have HE := euc0 (x := zv m xs) (y := zv n ys) (hc1.imp id fun h => by omega)
  refine .skip (.nk k3 (.sq fun k6 => .drh [true, true, false, false, true, true] (Ms := [_, _, _, _]) rfl (.so [] rfl (.load (.t rfl) (i := 1) rfl ty33 rfl (Ss' := [_, _]) rfl) (.so [] rfl (.load (.t rfl) (i := 0) rfl ty33 rfl (Ss' := [_, _]) rfl) (.m [] rfl (.mid2 (.cons_cons _ (.cons_cons _ (.cons _ (.cons _ (.cons_cons _ (.cons_cons _ .slnil)))))) (.st0 [32] rfl rfl (by kernel_rfl) (by kernel_rfl) (StS.store (.t rfl) (.t rfl) (i := 3) rfl ty33 rfl rfl (Ss' := [_, _]) rfl (M' := [_, _, _, (some _, cellM [_, _]), _, _]) rfl) (.cons_cons _ (.cons_cons _ (.cons _ (.cons _ (.cons_cons _ (.cons_cons _ .slnil)))))) (.st0 [33] rfl rfl (by kernel_rfl) (by kernel_rfl) (StS.store (.t rfl) (.t rfl) (i := 2) rfl ty33 rfl rfl (Ss' := [_, _]) rfl (M' := [_, _, (some _, cellM [_, _]), _, _, _]) rfl) (.cons_cons _ (.cons_cons _ (.cons _ (.cons _ (.cons_cons _ (.cons_cons _ .slnil)))))) (.fin0 (n := 5) mixed rfl (by kernel_rfl) (by kernel_rfl) (by kernel_rfl) (.w [4,5,6,34] rfl (stM rfl (nkQ k6 (.ret (rtN (.inl rfl) Tryz.results48 rfl rfl (.cell rfl (i := 3) rfl ty33 rfl ?_ (.cell rfl (i := 2) rfl ty33 rfl ?_ (.tmp (Has.t' rfl ?_) .nil)))))))))))))))))
  ·exact isZ_eq HE.1
  ·exact isZ_eq (HE.2.trans (if_neg (by omega)))
  ·exact isB_eq (decide_eq_true (by omega))
theorem zint_Xgcd0 {m n : Bool} {xs ys : List Nat} (hx : (List.length (words (val xs))) ≤ 100000000) (hy : (List.length (words (val ys))) ≤ 100000000) (hb : zv n ys = 0) : Ctr Tryz.prog 85 [Flat [isB m, isWords xs], Flat [isB n, isWords ys]] (isTup [isZ (xgg (zv m xs) (zv n ys)), isZ (sgn (zv m xs)), isZ 0]) := by
 refine Ctr.i Tryz.func85 rfl Tryz.ntmps85 fun w0 F0 => .w [0,1] rfl (.fact (Has.okZ (Has.t (t := 0) rfl)) fun okz0 => .fact (Has.okZ (Has.t (t := 1) rfl)) fun okz1 => .sr fun k1 => .box (.t rfl) rfl fun b1 => .box (.t rfl) rfl fun b2 => .alloc [isB false, SlM isU []] zero33 (fun _ _ => ⟨rfl, nilM _ _, trivial⟩) rfl fun b3 => .alloc [isB false, SlM isU []] zero33 (fun _ _ => ⟨rfl, nilM _ _, trivial⟩) rfl fun b4 => .alloc [isB false, SlM isU []] zero33 (fun _ _ => ⟨rfl, nilM _ _, trivial⟩) rfl fun b5 => nkQ k1 (.sq fun k2 => .sr fun k3 => st (.load (.t rfl) (i := 3) rfl ty33 rfl (Ss' := [_, _]) rfl) rfl (st (.call (zint_Sign (by omega)) (.cons (.t rfl) .nil)) rfl (st (.eqI (.t rfl) (.cI 0 rfl)) rfl (nkQ k3 (.cd rfl (fun hc1 => ?_) (fun hc1 => ?_)))))))
 ·refine .sq fun k4 => .drh [true, false, false, true, true] (Ms := [_, _, _]) rfl (.so [] rfl (.load (.t rfl) (i := 2) rfl ty33 rfl (Ss' := [_, _]) rfl) (.so [16] rfl (.call (zint_Abs (by omega)) (.cons (.t rfl) .nil)) (.so [] rfl (.load (.t rfl) (i := 2) rfl ty33 rfl (Ss' := [_, _]) rfl) (.so [18] rfl (.call (zint_Sign (by omega)) (.cons (.t rfl) .nil)) (.so [19] rfl (.call (zint_Of) (.cons (.t rfl) .nil)) (.so [] rfl (.eq (.build [isB false, SlM isU []] pl33 zero33 (fun _ _ => ⟨rfl, nilM _ _, trivial⟩) .nil (Z'' := [_, _]) rfl) (isZ0)) (.mid2 (.cons_cons _ (.cons _ (.cons _ (.cons_cons _ (.cons_cons _ .slnil))))) (.st0 [17] rfl rfl (by kernel_rfl) (by kernel_rfl) (StS.store (.t rfl) (.t rfl) (i := 2) rfl ty33 rfl rfl (Ss' := [_, _]) rfl (M' := [_, _, (some _, cellM [_, _]), _, _]) rfl) (.cons_cons _ (.cons _ (.cons _ (.cons_cons _ (.cons_cons _ .slnil))))) (.st0 [20] rfl rfl (by kernel_rfl) (by kernel_rfl) (StS.store (.t rfl) (.t rfl) (i := 1) rfl ty33 rfl rfl (Ss' := [_, _]) rfl (M' := [_, (some _, cellM [_, _]), _, _, _]) rfl) (.cons_cons _ (.cons _ (.cons _ (.cons_cons _ (.cons_cons _ .slnil))))) (.fin0 (n := 8) mixed rfl (by kernel_rfl) (by kernel_rfl) (by kernel_rfl) (.w [2,3,4,5,6,21] rfl (.store (.t rfl) (.t rfl) (i := 0) rfl ty33 rfl rfl (Ss' := [_, _]) rfl (M' := [(some _, cellM [_, _]), _, _, _, _]) rfl (nkQ k4 (.ret (.thr (rtN (.inl rfl) Tryz.results85 rfl rfl (.cell rfl (i := 2) rfl ty33 rfl ?_ (.cell rfl (i := 1) rfl ty33 rfl ?_ (.cell rfl (i := 0) rfl ty33 rfl ?_ .nil)))))))))))))))))))
  ·exact isZ_eq (by rw [hb]; unfold xgg; rw [show (0 : Int).natAbs = 0 from rfl, Nat.gcd_zero_right])
  ·rfl
  ·rfl
 ·exact absurd ((sgn_eq0 _).2 hb) hc1
theorem zint_XgcdA {m n : Bool} {xs ys : List Nat} (hx : (List.length (words (val xs))) ≤ 100000000) (hy : (List.length (words (val ys))) ≤ 100000000) : Ctr Tryz.prog 85 [Flat [isB m, isWords xs], Flat [isB n, isWords ys]] (isTup [isZ (xgg (zv m xs) (zv n ys)), isZ (xgx (zv m xs) (zv n ys)), isZ (xgy (zv m xs) (zv n ys))]) := by
 by_cases hb : zv n ys = 0
 ·have h := zint_Xgcd0 (m := m) hx hy hb
  unfold xgx xgy
  rw [if_pos hb, if_pos hb]
  exact h
 ·have h := zint_Xgcd (m := m) hx hy hb
  have e := xgy_ex (a := zv m xs) hb
  unfold xgx
  rw [if_neg hb, ← e]
  exact h
theorem hnf_mixed {m n : Bool} {us ws : List Nat} {xs ys : List (Bool × List Nat)} {A B K L : Nat} (ha : (List.length (words (val us))) ≤ A) (hx : Bd (vals xs) K) (hb : (List.length (words (val ws))) ≤ B) (hy : Bd (vals ys) L) (h1 : A + K ≤ 400000000) (h2 : B + L ≤ 400000000) (hl : ys.length = xs.length) (hn : xs.length ≤ 1000000) : Ctr Tryz.prog 49 [Flat [isB m, isWords us], SlK 2 zc xs, Flat [isB n, isWords ws], SlK 2 zc ys] (isP (mx2 (zv m us) (vals xs) (zv n ws) (vals ys))) := by
 refine Ctr.i Tryz.func49 rfl Tryz.ntmps49 fun w0 F0 => .w [0,1,2,3] rfl (.fact (Has.okZ (Has.t (t := 0) rfl)) fun okz0 => .fact (Has.lenLt (Has.t (t := 1) rfl)) fun lt1 => .fact (Has.okZ (Has.t (t := 2) rfl)) fun okz2 => .fact (Has.lenLt (Has.t (t := 3) rfl)) fun lt3 => ?_)
 obtain ⟨F, hF⟩ : ∃ F, F = mx2 (zv m us) (vals xs) (zv n ws) (vals ys) := ⟨_, rfl⟩
 have hFl : F.length = xs.length := by rw [hF, mx2_len, vals_len]
 have hea := zv_nw m us
 have heb := zv_nw n ws
 refine .sr fun k1 => .box (.t rfl) rfl fun b1 => .box (.t rfl) rfl fun b2 => st (.as (.cWK (k := 2) (fk := zc))) rfl (nkQ k1 (.sr fun k2 => stM rfl (st (.len sl22 (.t rfl)) rfl (.makeK (fk := zc) (u := (false, [])) (n := xs.length) (c := xs.length) sl22 ty33 zero33 (fun _ _ => ⟨rfl, nilM _ _, trivial⟩) zc_len by33 (Has.t' rfl rfl) (Has.t' rfl rfl) (by omega) rfl fun b3 => stM rfl (nkQ k2 (.w [1,3,4,6,8,9] rfl (.sq fun k3 => .sr fun k4 => stM rfl (st (.len sl22 (.t rfl)) rfl (st (.mv (.cI 0 rfl)) rfl (nkQ k4 (.block (.loopF [1,3,4,6,8,9,15] (fun (z : { k : Nat // k ≤ xs.length }) => match z with | ⟨k, hk⟩ => [(16, isI (k : Int))]) (fun M => fun (z : { k : Nat // k ≤ xs.length }) => match z with | ⟨k, hk⟩ => [(some b3, cellM ((fill (F.map nz) k (false, [])).flatMap zc)), (some b2, cellM [isB n, SlM isU ws]), (some b1, cellM [isB m, SlM isU us])]) (fun (z : { k : Nat // k ≤ xs.length }) => match z with | ⟨k, hk⟩ => xs.length - k) (⟨0, Nat.zero_le _⟩) (Cv.mem (.c 16 rfl ?_ (.l [1,3,4,6,8,9,15] rfl)) ?_) ?_))))))))))))
 ·rfl
 ·exact memZ_eq (by rw [fill_zero, List.length_map, hFl])
 rintro ⟨k, hk⟩ K5 hK5
 refine .w [16,1,3,4,6,8,9,15] rfl (.memEq (M' := [(some b3, cellM ((fill (F.map nz) k (false, [])).flatMap zc)), (some b2, cellM [isB n, SlM isU ws]), (some b1, cellM [isB m, SlM isU us])]) rfl (.sr fun k6 => st (.ltI (.t rfl) (.t rfl)) rfl (nkQ k6 (.sq fun k7 => .cd rfl (fun hc1 => ?_) (fun hc1 => ?_)))))
 ·have hxr := hx.raw k
  have hyr := hy.raw k
  have hxk := hx k
  have hyk := hy k
  have hm1 := nz_mul (zv m us) (cf (vals xs) k)
  have hm2 := nz_mul (zv n ws) (cf (vals ys) k)
  refine .skip (.nk k7 (.sq fun k8 => .block (.sr fun k9 => stM rfl (stM rfl (nkQ k9 (.dr (.m [] rfl (.m [] rfl (.so [] rfl (.load (.t rfl) (i := 2) rfl ty33 rfl (Ss' := [_, _]) rfl) (.m [] rfl (.m [] rfl (.so [22,23] rfl (.ixK sl22 ty33 (.t rfl) (.t rfl) zc_len (by omega) (getD_some (d := (false, [])) (by omega))) (.so [24] rfl (.loadP (.t rfl) ty33 rfl (Ss' := [_, _]) rfl) ?_)))))))))))))
  refine .so [21,25] rfl (.eq (.call (zint_Mul (by omega) (by show (List.length (words (val (xs.getD k (false, [])).2))) ≤ _; omega)) (.cons (.t rfl) (.cons (.t rfl) .nil))) ((show isZ _ = isZ (zv m us * cf (vals xs) k) from isZ_eq (by rw [cf_vals]; rfl)))) ?_
  refine .so [] rfl (.load (.t rfl) (i := 1) rfl ty33 rfl (Ss' := [_, _]) rfl) (.m [] rfl (.m [] rfl (.so [28,29] rfl (.ixK sl22 ty33 (.t rfl) (.t rfl) zc_len (by omega) (getD_some (d := (false, [])) (by omega))) (.so [30] rfl (.loadP (.t rfl) ty33 rfl (Ss' := [_, _]) rfl) ?_))))
  refine .so [27,31] rfl (.eq (.call (zint_Mul (by omega) (by show (List.length (words (val (ys.getD k (false, [])).2))) ≤ _; omega)) (.cons (.t rfl) (.cons (.t rfl) .nil))) ((show isZ _ = isZ (zv n ws * cf (vals ys) k) from isZ_eq (by rw [cf_vals]; rfl)))) ?_
  refine .so [26,32] rfl (.eq (.call (zint_Add (by rw [val_words]; omega) (by rw [val_words]; omega)) (.cons (.t rfl) (.cons (.t rfl) .nil))) ((show isZ _ = Flat (zc (nz (zv m us * cf (vals xs) k + zv n ws * cf (vals ys) k))) from isZ_eq (by rw [zv_nf, zv_nf])))) ?_
  refine .fn (n := 15) mixed (.w [1,3,4,6,8,9,15,16,17,18,10,19,20,21,22,23,24,25,26,27,28,29,30,31,32,33] rfl (st (.eq (.ixWin sl22 ty33 (.t rfl) (.t rfl) (by omega)) (isPtr_eq (by exact ixo2))) rfl (.storeK (z := nz (zv m us * cf (vals xs) k + zv n ws * cf (vals ys) k)) zc_len (.t rfl) (.t rfl) (i := 0) rfl ty33 (by rw [fill_len _ _ _ (by rw [List.length_map]; omega), List.length_map]; omega) (M' := [(_, _), _, _]) rfl ?_)))
  refine nl (.bln (.nk k8 (.region (st (.addI (.t rfl) (.cI 1 rfl) (by omega) (by omega)) rfl (stM rfl (nl (.thn (hK5 (⟨k + 1, by omega⟩) _ _ ?_ (Cv.mem (.c 16 rfl ?_ (.l [1,3,4,6,8,9,15] rfl)) ?_)))))))))
  ·show xs.length - (k + 1) < xs.length - k; omega
  ·exact isI_eq (by omega)
  ·exact memF_eq (by rw [List.getElem?_map, hF]; unfold mx2; rw [List.getElem?_map, List.getElem?_range (by rw [vals_len]; omega)]; rfl)
 ·refine .exit (.the (.the (.blh (.nk k3 (.w [8,9] rfl (.sq fun k10 => .cv (Cv.freezeK (t := 9) (i := 0) (ys := F.map nz) zc_len rfl rfl rfl (by rw [fill_len _ _ _ (by rw [List.length_map]; omega), List.length_map]; omega) (fill_done (by rw [List.length_map]; omega) (by rw [List.length_map, hFl]))) ?_))))))
  refine .memEq (M' := [_, _]) rfl (.w [8,9] rfl (.region (stM rfl (stM rfl (nkQ k10 (.ret (rt1 (.inl rfl) Tryz.results49 rfl (.tmp (Has.t' rfl ?_) .nil))))))))
  all_goals (exact isPl_eq hF)
end Go.Proofs.YtlebmedapfncoaaGreat
namespace Go.En
open Go.RowKit Go.Nt Go.Pz
def qs (q : Rat) : Nat := max ((List.length (words q.num.natAbs))) ((List.length (words q.den)))
/-! ### signs, order -/
end Go.En
namespace Go.Proofs.YtlebmedapfncoaaGreat
open Go.En Go.RowKit
set_option maxRecDepth 10000
set_option maxHeartbeats 4000000
open Go.Nt
open Go.Pz
theorem zint_Round {m n : Bool} {xs ys : List Nat} (hx : (List.length (words (val xs))) ≤ 1000000000) (hy : (List.length (words (val ys))) ≤ 1000000000) (hp : 0 < zv n ys) : Ctr Tryz.prog 94 [Flat [isB m, isWords xs], Flat [isB n, isWords ys]] (isTup [isZ ((zv m xs + zv m xs + zv n ys) / (zv n ys + zv n ys)), isB true]) := by
 refine Ctr.i Tryz.func94 rfl Tryz.ntmps94 fun w0 F0 => .w [0,1] rfl (.fact (Has.okZ (Has.t (t := 0) rfl)) fun okz0 => .fact (Has.okZ (Has.t (t := 1) rfl)) fun okz1 => ?_)
 have ha := zv_nw m xs
 have hb := zv_nw n ys
 have h1 := nz_add (zv m xs) (zv m xs)
 have h2 := nz_add (zv m xs + zv m xs) (zv n ys)
 have h3 := nz_add (zv n ys) (zv n ys)
 refine .sr fun k1 => .box (.t rfl) rfl fun b1 => .box (.t rfl) rfl fun b2 => .alloc [isB false, SlM isU []] zero33 (fun _ _ => ⟨rfl, nilM _ _, trivial⟩) rfl fun b3 => st (.as (.cB false)) rfl (nkQ k1 (.sq fun k2 => .sr fun k3 => st (.load (.t rfl) (i := 1) rfl ty33 rfl (Ss' := [_, _]) rfl) rfl (st (.call (zint_Sign (by omega)) (.cons (.t rfl) .nil)) rfl (st (.ltI (.t rfl) (.cI 0 rfl)) rfl (nkQ k3 (.cd rfl (fun hc1 => ?_) (fun hc1 => ?_)))))))
 ·exfalso; have := (sgn_lt _).1 hc1; omega
 ·refine .skip (.nk k2 (.w [2,3,4,5] rfl (.sq fun k4 => .drh [true, true, true] (Ms := [_, _, _]) rfl (.so [] rfl (.load (.t rfl) (i := 2) rfl ty33 rfl (Ss' := [_, _]) rfl) (.so [] rfl (.load (.t rfl) (i := 2) rfl ty33 rfl (Ss' := [_, _]) rfl) (.so [17,18] rfl (.call (zint_Add (by omega) (by omega)) (.cons (.t rfl) (.cons (.t rfl) .nil))) (.so [] rfl (.load (.t rfl) (i := 1) rfl ty33 rfl (Ss' := [_, _]) rfl) (.so [19,20] rfl (.eq (.call (zint_Add (by rw [val_words]; omega) (by omega)) (.cons (.t rfl) (.cons (.t rfl) .nil))) ((show isZ _ = isZ (zv m xs + zv m xs + zv n ys) from isZ_eq (by simp only [zv_nf])))) ?_))))))))
  refine .so [] rfl (.load (.t rfl) (i := 1) rfl ty33 rfl (Ss' := [_, _]) rfl) (.so [] rfl (.load (.t rfl) (i := 1) rfl ty33 rfl (Ss' := [_, _]) rfl) (.so [22,23] rfl (.call (zint_Add (by omega) (by omega)) (.cons (.t rfl) (.cons (.t rfl) .nil))) (.so [21,24] rfl (.eq (.call (zint_Floor (by rw [val_words]; omega) (by rw [val_words]; omega) (by rw [zv_nf]; omega)) (.cons (.t rfl) (.cons (.t rfl) .nil))) ((show isTup [isZ _, isZ _, isB true] = isTup [isZ ((zv m xs + zv m xs + zv n ys) / (zv n ys + zv n ys)), isZ ((zv m xs + zv m xs + zv n ys) % (zv n ys + zv n ys)), isB true] from by simp only [zv_nf]))) ?_)))
  refine .m [25] rfl (.so [16] rfl (.ext (.t rfl) rfl) (.so [16] rfl (.ext (.t rfl) rfl) (.so [16] rfl (.ext (.t rfl) rfl) (.als2 (n1 := 15) (ds := [6,7]) (zs := [[isB false, SlM isU []], [isB false, SlM isU []]]) rfl (.cons rfl rfl zero33 (fun _ _ => ⟨rfl, nilM _ _, trivial⟩) (.cons rfl rfl zero33 (fun _ _ => ⟨rfl, nilM _ _, trivial⟩) .nil)) (.cons_cons _ (.cons_cons _ (.cons_cons _ .slnil))) (Cs := [_, _]) rfl (.new [26] 0 (Ss' := [_, _]) (Cs' := [cellM [_, _], _]) rfl (by kernel_rfl) (by kernel_rfl) rfl rfl rfl (by kernel_rfl) rfl (.t rfl) ty33 rfl rfl rfl rfl (.new [27] 1 (Ss' := [_, _]) (Cs' := [_, cellM [_, _]]) rfl (by kernel_rfl) (by kernel_rfl) rfl rfl rfl (by kernel_rfl) rfl (.t rfl) ty33 rfl rfl rfl rfl (.fn (n := 17) mixed rfl (fun bs hbs => ?_))))))))
  obtain ⟨b4, b5, rfl⟩ := len2 hbs
  refine .memEq (M' := [_, _, _, _, _]) rfl (.cv (Cv.wk (.k 4 rfl (.k 5 rfl (.k 28 rfl (.cons (t := 6) (Has.op rfl) .nil))))) (stM rfl (nkQ k4 (.sr fun k5 => st (.load (.t rfl) (i := 0) rfl ty33 rfl (Ss' := [_, _]) rfl) rfl (stM rfl (.store (.t rfl) (.t rfl) (i := 2) rfl ty33 rfl rfl (Ss' := [_, _]) rfl (M' := [_, _, (some _, cellM [_, _]), _, _]) rfl (stM rfl (nkQ k5 (.w [4,5] rfl (.ret (rtN (.inl rfl) Tryz.results94 rfl rfl (.cell rfl (i := 2) rfl ty33 rfl ?_ (.tmp (Has.t' rfl ?_) .nil)))))))))))))
  ·rfl
  ·rfl
end Go.Proofs.YtlebmedapfncoaaGreat
namespace Go.Proofs.YtlebmedapfncoaaGreat
open Go.En Go.RowKit
set_option maxRecDepth 10000
set_option maxHeartbeats 4000000
open Go.Nt
open Go.Pz
open Go.Mz
theorem lll_stands {bw N K : Nat} {gd : Gr (Bool × List Nat)} {gl gu : Gr Row} {ds : List Int} {ls us : List Row} {m n : Bool} {ps qs : List Nat} {sw : Int} (hdl : ds.length = N + 1) (hdb : Bd ds K) (hll : ls.length = N) (hul : us.length = N) (hlr : ∀ r ∈ ls, r.2.length = N) (hur : ∀ r ∈ us, r.2.length = N) (hlb : ∀ r ∈ ls, Bd r.2 K) (hub : ∀ r ∈ us, Bd r.2 K) (hN : N ≤ 64) (hK : K ≤ 100000000) {s : Nat} {r : Row} (hi : ls[s + 1]? = some r) (hpw : (List.length (words (val ps))) ≤ 1000) (hqw : (List.length (words (val qs))) ≤ 1000) : CtrX Tryz.prog 80 [isPtr bw 0, isI ((s + 1 : Nat) : Int)] (lwM bw N gd gl gu ds ls us m n ps qs sw) (fun S M => S = isB (decide (0 ≤ cmpZ (zv n qs * (cf ds s * cf ds (s + 2) + cf r.2 s * cf r.2 s)) (zv m ps * (cf ds (s + 1) * cf ds (s + 1))))) ∧ M = lwM bw N gd gl gu ds ls us m n ps qs sw) := by
 refine CtrX.i Tryz.func80 rfl Tryz.ntmps80 fun w0 F0 => .w [0,1] rfl (.fact (Has.rngI (Has.t (t := 1) rfl)) fun lt1 => ?_)
 have hrC := hlr r (List.mem_of_getElem? hi)
 have hrB := hlb r (List.mem_of_getElem? hi) s
 have hrL : (r.2.map nz).length = N := by rw [List.length_map, hrC]
 have hiL : s + 1 < ls.length := by
  rcases Nat.lt_or_ge (s + 1) ls.length with g | g
  ·exact g
  ·rw [List.getElem?_eq_none g] at hi; cases hi
 have hd0 := hdb s
 have hd1 := hdb (s + 1)
 have hd2 := hdb (s + 2)
 have hpz := zv_nw m ps
 have hqz := zv_nw n qs
 have m1 := nz_mul (cf ds s) (cf ds (s + 2))
 have m2 := nz_mul (cf r.2 s) (cf r.2 s)
 have m3 := nz_add (cf ds s * cf ds (s + 2)) (cf r.2 s * cf r.2 s)
 have m4 := nz_mul (cf ds (s + 1)) (cf ds (s + 1))
 have m5 := nz_mul (zv n qs) (cf ds s * cf ds (s + 2) + cf r.2 s * cf r.2 s)
 have m6 := nz_mul (zv m ps) (cf ds (s + 1) * cf ds (s + 1))
 have hdL : (ds.map nz).length = N + 1 := by rw [List.length_map, hdl]
 refine .sr fun k1 => st (.as (.cB false)) rfl (nkQ k1 (.sr fun k2 => stM rfl (st (.nilc (.t rfl)) rfl (st (.fieldAddr (.t rfl) fld87_2 ty71) rfl (st (.load1 (.t rfl) (i := 0) rfl ty71 rfl) rfl (stM rfl (st (.ixGr sl71 ty22 (.t rfl) (.t rfl) (by omega)) rfl (st (.loadGM (.t rfl) (i := 2) rfl ty22 hi) rfl (stM rfl (st (.eq (.subI (.t rfl) (.cI 1 rfl) (by first | omega | assumption) (by first | omega | assumption)) ((show isI _ = isI ((s : Nat) : Int) from isI_eq (by omega)))) rfl (st (.ixGr sl22 ty33 (.t rfl) (.t rfl) (by omega)) rfl (st (.loadGK zc_len (.t rfl) (i := 4 + (s + 1)) (wkAt (pre := [_, _, _, _]) (lwL hi)) ty33 (getZ (i := s) (by omega))) rfl (.alloc [isB false, SlM isU []] zero33 (fun _ _ => ⟨rfl, nilM _ _, trivial⟩) rfl fun b1 => .store (.t rfl) (.t rfl) (i := 0) rfl ty33 rfl rfl (Ss' := [_, _]) rfl (M' := ((some _, cellM [_, _]) :: _ :: _ :: _ :: _ :: _)) rfl (nkQ k2 (.w [0,1,4,5] rfl (.sq fun k3 => .drhS (.cons_cons _ (.cons_cons _ (.cons_cons _ (.cons_cons _ (.cons_cons _ (List.Sublist.refl _)))))) (.m [] rfl (.so [18] rfl (.nilc (.t rfl)) (.so [19] rfl (.fieldAddr (.t rfl) fld87_1 ty22) (.so [20] rfl (.load1 (.t rfl) (i := 1) rfl ty22 rfl) (.m [] rfl (.so [22] rfl (.eq (.subI (.t rfl) (.cI 1 rfl) (by first | omega | assumption) (by first | omega | assumption)) ((show isI _ = isI ((s : Nat) : Int) from isI_eq (by omega)))) (.so [21,23] rfl (.ixGr sl22 ty33 (.t rfl) (.t rfl) (by omega)) ?_)))))))))))))))))))))))
 refine .so [24] rfl (.loadGK zc_len (.t rfl) (i := 2) rfl ty33 (getZ (i := s) (by omega))) (.m [] rfl (.so [26] rfl (.nilc (.t rfl)) (.so [27] rfl (.fieldAddr (.t rfl) fld87_1 ty22) (.so [28] rfl (.load1 (.t rfl) (i := 1) rfl ty22 rfl) (.m [] rfl (.so [30] rfl (.eq (.addI (.t rfl) (.cI 1 rfl) (by first | omega | assumption) (by first | omega | assumption)) ((show isI _ = isI ((s + 2 : Nat) : Int) from isI_eq (by omega)))) (.so [29,31] rfl (.ixGr sl22 ty33 (.t rfl) (.t rfl) (by omega)) ?_)))))))
 refine .so [32] rfl (.loadGK zc_len (.t rfl) (i := 2) rfl ty33 (getZ (i := s + 2) (by omega))) (.so [25,33] rfl (.eq (.call (zint_Mul (by first | omega | (rw [val_words]; omega)) (by first | omega | (rw [val_words]; omega))) (.cons (.t rfl) (.cons (.t rfl) .nil))) ((show isZ _ = isZ (cf ds s * cf ds (s + 2)) from isZ_eq (by (try simp only [zv_nz]); (try simp only [zv_nf]))))) ?_)
 refine .so [] rfl (.load (.t rfl) (i := 0) rfl ty33 rfl (Ss' := [_, _]) rfl) (.so [] rfl (.load (.t rfl) (i := 0) rfl ty33 rfl (Ss' := [_, _]) rfl) (.so [35,36] rfl (.eq (.call (zint_Mul (by first | omega | (rw [val_words]; omega)) (by first | omega | (rw [val_words]; omega))) (.cons (.t rfl) (.cons (.t rfl) .nil))) ((show isZ _ = isZ (cf r.2 s * cf r.2 s) from isZ_eq (by (try simp only [zv_nz]); (try simp only [zv_nf]))))) ?_))
 refine .so [34,37] rfl (.eq (.call (zint_Add (by first | omega | (rw [val_words]; omega)) (by first | omega | (rw [val_words]; omega))) (.cons (.t rfl) (.cons (.t rfl) .nil))) ((show isZ _ = isZ (cf ds s * cf ds (s + 2) + cf r.2 s * cf r.2 s) from isZ_eq (by (try simp only [zv_nz]); (try simp only [zv_nf]))))) ?_
 refine .als2 (n1 := 22) (ds := [6]) (zs := [[isB false, SlM isU []]]) rfl (.cons rfl rfl zero33 (fun _ _ => ⟨rfl, nilM _ _, trivial⟩) .nil) (.cons_cons _ (.cons_cons _ (.cons_cons _ (.cons_cons _ (.cons_cons _ (List.Sublist.refl _)))))) (Cs := [_]) rfl (.fn (n := 22) mixed rfl (fun bs hbs => ?_))
 obtain ⟨b2, rfl⟩ := len1 hbs
 refine .memEq (M' := (_ :: _ :: _ :: _ :: _ :: _ :: _)) rfl (.cv (Cv.wk (.k 0 rfl (.k 1 rfl (.k 4 rfl (.k 38 rfl (.cons (t := 6) (Has.op rfl) .nil)))))) (.store (.t rfl) (.t rfl) (i := 0) rfl ty33 rfl rfl (Ss' := [_, _]) rfl (M' := ((some _, cellM [_, _]) :: _ :: _ :: _ :: _ :: _ :: _)) rfl (nkQ k3 (.sq fun k4 => .dr (.m [] rfl (.so [39] rfl (.nilc (.t rfl)) (.so [40] rfl (.fieldAddr (.t rfl) fld87_5 ty33) (.so [41] rfl (.load (.t rfl) (i := 2) rfl ty33 rfl (Ss' := [_, _]) rfl) (.so [] rfl (.load (.t rfl) (i := 0) rfl ty33 rfl (Ss' := [_, _]) rfl) (.so [42,43] rfl (.eq (.call (zint_Mul (by first | omega | (rw [val_words]; omega)) (by first | omega | (rw [val_words]; omega))) (.cons (.t rfl) (.cons (.t rfl) .nil))) ((show isZ _ = isZ (zv n qs * (cf ds s * cf ds (s + 2) + cf r.2 s * cf r.2 s)) from isZ_eq (by (try simp only [zv_nz]); (try simp only [zv_nf]))))) ?_))))))))))
 refine .m [] rfl (.so [45] rfl (.nilc (.t rfl)) (.so [46] rfl (.fieldAddr (.t rfl) fld87_4 ty33) (.so [47] rfl (.load (.t rfl) (i := 2) rfl ty33 rfl (Ss' := [_, _]) rfl) (.m [] rfl (.so [49] rfl (.nilc (.t rfl)) (.so [50] rfl (.fieldAddr (.t rfl) fld87_1 ty22) (.so [51] rfl (.load1 (.t rfl) (i := 2) rfl ty22 rfl) (.m [] rfl (.so [52,53] rfl (.ixGr sl22 ty33 (.t rfl) (.t rfl) (by omega)) ?_)))))))))
 refine .so [54] rfl (.loadGK zc_len (.t rfl) (i := 3) rfl ty33 (getZ (i := s + 1) (by omega))) (.m [] rfl (.so [56] rfl (.nilc (.t rfl)) (.so [57] rfl (.fieldAddr (.t rfl) fld87_1 ty22) (.so [58] rfl (.load1 (.t rfl) (i := 2) rfl ty22 rfl) (.m [] rfl (.so [59,60] rfl (.ixGr sl22 ty33 (.t rfl) (.t rfl) (by omega)) ?_))))))
 refine .so [61] rfl (.loadGK zc_len (.t rfl) (i := 3) rfl ty33 (getZ (i := s + 1) (by omega))) (.so [55,62] rfl (.eq (.call (zint_Mul (by first | omega | (rw [val_words]; omega)) (by first | omega | (rw [val_words]; omega))) (.cons (.t rfl) (.cons (.t rfl) .nil))) ((show isZ _ = isZ (cf ds (s + 1) * cf ds (s + 1)) from isZ_eq (by (try simp only [zv_nz]); (try simp only [zv_nf]))))) ?_)
 refine .fn (n := 25) mixed (.w [4,44,48,63] rfl (st (.eq (.call (zint_Mul (by first | omega | (rw [val_words]; omega)) (by first | omega | (rw [val_words]; omega))) (.cons (.t rfl) (.cons (.t rfl) .nil))) ((show isZ _ = isZ (zv m ps * (cf ds (s + 1) * cf ds (s + 1))) from isZ_eq (by (try simp only [zv_nz]); (try simp only [zv_nf]))))) rfl ?_))
 refine st (.eq (.call (zint_Cmp (by first | omega | (rw [val_words]; omega)) (by first | omega | (rw [val_words]; omega))) (.cons (.t rfl) (.cons (.t rfl) .nil))) ((show isI _ = isI (cmpZ (zv n qs * (cf ds s * cf ds (s + 2) + cf r.2 s * cf r.2 s)) (zv m ps * (cf ds (s + 1) * cf ds (s + 1)))) from isI_eq (by (try simp only [zv_nz]); (try simp only [zv_nf]))))) rfl ?_
 refine st (.geI (.t rfl) (.cI 0 rfl)) rfl (stM rfl (nkQ k4 (.w [4] rfl (.ret (rtX1D (.cons _ (.cons _ (.cons_cons _ (.cons_cons _ (.cons_cons _ (.cons_cons _ (List.Sublist.refl _))))))) (.inl rfl) Tryz.results80 rfl (.tmp (.t rfl) .nil) (⟨rfl, rfl⟩))))))
theorem lll_exact {m n : Bool} {xs ys : List Nat} (hx : (List.length (words (val xs))) < 4294700000) (hy : (List.length (words (val ys))) < 4294700000) (h0 : zv n ys ≠ 0) (hd : zv n ys ∣ zv m xs) : Ctr Tryz.prog 95 [Flat [isB m, isWords xs], Flat [isB n, isWords ys]] (isZ ((zv m xs).tdiv (zv n ys))) := by
 refine Ctr.i Tryz.func95 rfl Tryz.ntmps95 fun w0 F0 => .w [0,1] rfl (.fact (Has.okZ (Has.t (t := 0) rfl)) fun okz0 => .fact (Has.okZ (Has.t (t := 1) rfl)) fun okz1 => ?_)
 have hE : zv n ys ≠ 0 ∧ (zv m xs).tmod (zv n ys) = 0 := ⟨h0, Int.tmod_eq_zero_of_dvd hd⟩
 refine .sr fun k1 => .box (.t rfl) rfl fun b1 => .box (.t rfl) rfl fun b2 => .alloc [isB false, SlM isU []] zero33 (fun _ _ => ⟨rfl, nilM _ _, trivial⟩) rfl fun b3 => nkQ k1 (.sr fun k2 => st (.load (.t rfl) (i := 2) rfl ty33 rfl (Ss' := [_, _]) rfl) rfl (st (.load (.t rfl) (i := 1) rfl ty33 rfl (Ss' := [_, _]) rfl) rfl (st (.call (zint_Exact (by first | omega | assumption) (by first | omega | assumption)) (.cons (.t rfl) (.cons (.t rfl) .nil))) rfl (stM rfl (st (.ext (.t rfl) rfl) rfl (st (.ext (.t rfl) rfl) rfl (.alloc [isB false, SlM isU []] zero33 (fun _ _ => ⟨rfl, nilM _ _, trivial⟩) rfl fun b4 => .store (.t rfl) (.t rfl) (i := 0) rfl ty33 rfl rfl (Ss' := [_, _]) rfl (M' := [(some _, cellM [_, _]), _, _, _]) rfl (stM rfl (nkQ k2 (.w [4,5] rfl (.sr fun k3 => st (.load (.t rfl) (i := 0) rfl ty33 rfl (Ss' := [_, _]) rfl) rfl (.store (.t rfl) (.t rfl) (i := 1) rfl ty33 rfl rfl (Ss' := [_, _]) rfl (M' := [_, (some _, cellM [_, _]), _, _]) rfl (nkQ k3 (.ret (rt1 (.inl rfl) Tryz.results95 rfl (.cell rfl (i := 1) rfl ty33 rfl ?_ .nil))))))))))))))))
 all_goals (exact isZ_eq (if_pos hE))
end Go.Proofs.YtlebmedapfncoaaGreat
namespace Go.Dt
abbrev MatF : Type := Nat → Nat → Int
def sm : Nat → (Nat → Int) → Int
 | 0, _ => 0
 | n + 1, f => sm n f + f n
theorem sm_congr {f g : Nat → Int} : ∀ {n : Nat}, (∀ i, i < n → f i = g i) → sm n f = sm n g
  | 0, _ => rfl
  | n + 1, h => by
    show sm n f + f n = sm n g + g n
    rw [sm_congr (n := n) fun i hi => h i (by omega), h n (by omega)]
theorem sm_zero {f : Nat → Int} {n : Nat} (h : ∀ i, i < n → f i = 0) : sm n f = 0 := by
 have e : sm n f = sm n (fun _ => 0) := sm_congr h
 rw [e]
 induction n with
 | zero => rfl
 | succ n ih => show sm n _ + 0 = 0; rw [ih (fun i hi => h i (by omega)) (sm_congr fun i hi => h i (by omega))]; rfl
theorem sm_lin (x y : Int) (f g : Nat → Int) : ∀ n : Nat, sm n (fun i => x * f i + y * g i) = x * sm n f + y * sm n g
  | 0 => by show (0 : Int) = x * 0 + y * 0; omega
  | n + 1 => by
    show sm n _ + (x * f n + y * g n) = x * (sm n f + f n) + y * (sm n g + g n)
    rw [sm_lin x y f g n, Int.mul_add, Int.mul_add]; omega
theorem sm_smul (x : Int) (f : Nat → Int) (n : Nat) : sm n (fun i => x * f i) = x * sm n f := by
 have h := sm_lin x 0 f f n
 rw [Int.zero_mul, Int.add_zero] at h
 rw [← h]
 exact sm_congr fun i _ => by rw [Int.zero_mul, Int.add_zero]
theorem sm_add (f g : Nat → Int) (n : Nat) : sm n (fun i => f i + g i) = sm n f + sm n g := by
 have h := sm_lin 1 1 f g n
 rw [Int.one_mul, Int.one_mul] at h
 rw [← h]
 exact sm_congr fun i _ => by rw [Int.one_mul, Int.one_mul]
theorem sm_one {f : Nat → Int} {n c : Nat} (hc : c < n) (h : ∀ i, i < n → i ≠ c → f i = 0) : sm n f = f c := by
  induction n with
  | zero => omega
  | succ n ih =>
    show sm n f + f n = f c
    by_cases e : c = n
    · subst e
      rw [sm_zero fun i hi => h i (by omega) (by omega)]; omega
    · rw [ih (by omega) fun i hi => h i (by omega), h n (by omega) (by omega)]; omega
theorem sm_two {f : Nat → Int} {n c : Nat} (hc : c + 1 < n) (h2 : f c + f (c + 1) = 0) (h : ∀ i, i < n → i ≠ c → i ≠ c + 1 → f i = 0) : sm n f = 0 := by
  induction n with
  | zero => omega
  | succ n ih =>
    show sm n f + f n = 0
    by_cases e : c + 1 = n
    · subst e
      rw [sm_one (c := c) (by omega) fun i hi hne => h i (by omega) hne (by omega)]; exact h2
    · rw [ih (by omega) fun i hi => h i (by omega), h n (by omega) (by omega) (by omega)]; rfl
theorem sm_swap (f : Nat → Nat → Int) (m : Nat) : ∀ n : Nat, sm n (fun i => sm m fun j => f i j) = sm m (fun j => sm n fun i => f i j)
  | 0 => (sm_zero fun _ _ => rfl).symm
  | n + 1 => by
    show sm n _ + sm m _ = sm m fun j => sm n (fun i => f i j) + f n j
    rw [sm_swap f m n, ← sm_add]
def sg (k : Nat) : Int := if k % 2 = 1 then -1 else 1
theorem sg_succ (k : Nat) : sg (k + 1) = - sg k := by
 unfold sg
 rcases Nat.mod_two_eq_zero_or_one k with h | h
 ·rw [if_pos (by omega), if_neg (by omega)]
 ·rw [if_neg (by omega), if_pos h]; rfl
def skip (k j : Nat) : Nat := if j < k then j else j + 1
def unskip (k j : Nat) : Nat := if j < k then j else j - 1
theorem skip_ne (k j : Nat) : skip k j ≠ k := by unfold skip; split <;> omega
theorem unskip_skip (k j : Nat) : unskip k (skip k j) = j := by unfold unskip skip; (repeat' split) <;> omega
theorem skip_unskip {k j : Nat} (h : j ≠ k) : skip k (unskip k j) = j := by unfold unskip skip; (repeat' split) <;> omega
theorem skip_lt {k j n : Nat} (h : j < n) : skip k j < n + 1 := by unfold skip; split <;> omega
theorem unskip_lt {k j n : Nat} (h : j < n + 1) (hk : k < n + 1) (hne : j ≠ k) : unskip k j < n := by unfold unskip; split <;> omega
theorem skip_eq {k j c : Nat} (h : c ≠ k) : skip k j = c ↔ j = unskip k c := ⟨fun e => by rw [← e, unskip_skip], fun e => by rw [e, skip_unskip h]⟩
def det : Nat → MatF → Int
 | 0, _ => 1
 | n + 1, A => sm (n + 1) fun k => sg k * (A 0 k * det n fun i j => A (i + 1) (skip k j))
theorem det_succ (n : Nat) (A : MatF) : det (n + 1) A = sm (n + 1) fun k => sg k * (A 0 k * det n fun i j => A (i + 1) (skip k j)) := rfl
theorem det_congr : ∀ {n : Nat} {A B : MatF}, (∀ i j, i < n → j < n → A i j = B i j) → det n A = det n B
  | 0, _, _, _ => rfl
  | n + 1, A, B, h => sm_congr fun k hk => by
    rw [h 0 k (by omega) hk, det_congr (n := n) fun i j hi hj => h (i + 1) (skip k j) (by omega) (skip_lt hj)]
def setc (A : MatF) (c : Nat) (v : Nat → Int) : MatF := fun i j => if j = c then v i else A i j
def setr (A : MatF) (r : Nat) (v : Nat → Int) : MatF := fun i j => if i = r then v j else A i j
theorem setc_min (A : MatF) (c : Nat) (v : Nat → Int) {k : Nat} (h : c ≠ k) : (fun i j => setc A c v (i + 1) (skip k j)) = setc (fun i j => A (i + 1) (skip k j)) (unskip k c) (fun i => v (i + 1)) := by
 funext i j
 unfold setc
 by_cases e : j = unskip k c
 ·rw [if_pos e, if_pos ((skip_eq h).2 e)]
 ·rw [if_neg e, if_neg fun e2 => e ((skip_eq h).1 e2)]
theorem setc_off (A : MatF) (k : Nat) (v : Nat → Int) : (fun i j => setc A k v (i + 1) (skip k j)) = fun i j => A (i + 1) (skip k j) := by
 funext i j
 exact if_neg (skip_ne k j)
theorem det_col (x y : Int) (u v : Nat → Int) : ∀ {n : Nat} (A : MatF) (c : Nat), c < n → det n (setc A c fun i => x * u i + y * v i) = x * det n (setc A c u) + y * det n (setc A c v)
  | 0, _, _, h => by omega
  | n + 1, A, c, h => by
    rw [det_succ, det_succ, det_succ, ← sm_lin]
    refine sm_congr fun k hk => ?_
    by_cases e : k = c
    · subst e
      rw [setc_off, setc_off, setc_off]
      have h1 : ∀ w : Nat → Int, setc A k w 0 k = w 0 := fun w => if_pos rfl
      rw [h1, h1, h1]
      generalize det n (fun i j => A (i + 1) (skip k j)) = d
      generalize sg k = s
      rw [Int.add_mul, Int.mul_add, Int.mul_assoc, Int.mul_assoc, Int.mul_left_comm s x, Int.mul_left_comm s y]
    · have hc : c ≠ k := fun e2 => e e2.symm
      rw [setc_min _ _ _ hc, setc_min _ _ _ hc, setc_min _ _ _ hc, det_col x y _ _ _ _ (unskip_lt h hk hc)]
      have h1 : ∀ w : Nat → Int, setc A c w 0 k = A 0 k := fun w => if_neg e
      rw [h1, h1, h1]
      generalize sg k = s
      generalize A 0 k = a
      rw [Int.mul_add, Int.mul_add, Int.mul_left_comm a x, Int.mul_left_comm a y, Int.mul_left_comm s x, Int.mul_left_comm s y]
theorem det_cols_eq : ∀ {n : Nat} (A : MatF) (c : Nat), c + 1 < n → (∀ i, i < n → A i c = A i (c + 1)) → det n A = 0
  | 0, _, _, h, _ => by omega
  | n + 1, A, c, h, hA => by
    rw [det_succ]
    refine sm_two h ?_ fun k hk h1 h2 => ?_
    · rw [← hA 0 (by omega), sg_succ]
      have e : det n (fun i j => A (i + 1) (skip c j)) = det n (fun i j => A (i + 1) (skip (c + 1) j)) := det_congr fun i j hi hj => by
        unfold skip
        by_cases e1 : j < c
        · rw [if_pos e1, if_pos (by omega)]
        · rw [if_neg e1]
          by_cases e2 : j < c + 1
          · rw [if_pos e2]
            obtain rfl : j = c := by omega
            exact (hA (i + 1) (by omega)).symm
          · rw [if_neg e2]
      rw [e, Int.neg_mul]; omega
    · have hu : unskip k (c + 1) = unskip k c + 1 := by unfold unskip; split <;> split <;> omega
      rw [det_cols_eq (n := n) _ (unskip k c) (by have := unskip_lt h hk (fun e => h2 e.symm); omega) fun i hi => ?_, Int.mul_zero, Int.mul_zero]
      rw [← hu, skip_unskip (fun e => h1 e.symm), skip_unskip (fun e => h2 e.symm)]
      exact hA (i + 1) (by omega)
def one : MatF := fun i j => if i = j then 1 else 0
theorem det_one : ∀ n : Nat, det n one = 1
  | 0 => rfl
  | n + 1 => by
    rw [det_succ, sm_one (c := 0) (by omega) fun k hk hne => ?_]
    · have e : det n (fun i j => one (i + 1) (skip 0 j)) = det n one := det_congr fun i j _ _ => by
        unfold one skip
        repeat' split
        all_goals omega
      rw [e, det_one n]; rfl
    · have e : one 0 k = 0 := if_neg (by omega)
      rw [e, Int.zero_mul, Int.mul_zero]
structure RowF (n : Nat) (F : MatF → Int) : Prop where
 congr : ∀ {A B : MatF}, (∀ i j, i < n → j < n → A i j = B i j) → F A = F B
 lin : ∀ (A : MatF) (r : Nat) (x y : Int) (u v : Nat → Int), r < n → F (setr A r fun j => x * u j + y * v j) = x * F (setr A r u) + y * F (setr A r v)
 alt : ∀ (A : MatF) (r : Nat), r + 1 < n → (∀ j, j < n → A r j = A (r + 1) j) → F A = 0
namespace RowF
variable {n : Nat} {F : MatF → Int}
theorem set_self (A : MatF) (r : Nat) : setr A r (A r) = A := by
 funext i j; unfold setr; split
 ·rename_i e; rw [e]
 ·rfl
theorem set_set (A : MatF) (r : Nat) (u v : Nat → Int) : setr (setr A r u) r v = setr A r v := by
 funext i j; unfold setr; split <;> rfl
theorem set_comm (A : MatF) {r s : Nat} (h : r ≠ s) (u v : Nat → Int) : setr (setr A r u) s v = setr (setr A s v) r u := by
 funext i j; unfold setr
 by_cases e1 : i = s
 ·rw [if_pos e1, if_neg (by omega), if_pos e1]
 ·rw [if_neg e1, if_neg e1]
theorem set_at (A : MatF) (r : Nat) (u : Nat → Int) : setr A r u r = u := by funext j; exact if_pos rfl
theorem set_ne (A : MatF) {r s : Nat} (h : s ≠ r) (u : Nat → Int) : setr A r u s = A s := by funext j; exact if_neg h
theorem zero (h : RowF n F) {A : MatF} {r : Nat} (hr : r < n) (hz : ∀ j, j < n → A r j = 0) : F A = 0 := by
 have e : F A = F (setr A r fun j => 0 * A r j + 0 * A r j) := h.congr fun i j _ hj => by
  unfold setr; split
  ·rename_i e; show _ = 0 * A r j + 0 * A r j; rw [e, hz j hj]; rfl
  ·rfl
 rw [e, h.lin A r 0 0 _ _ hr]; omega
theorem add (h : RowF n F) (A : MatF) {r : Nat} (hr : r < n) (u v : Nat → Int) : F (setr A r fun j => u j + v j) = F (setr A r u) + F (setr A r v) := by
 have e := h.lin A r 1 1 u v hr
 rw [Int.one_mul, Int.one_mul] at e
 rw [← e]
 congr 2; funext j; omega
theorem smul (h : RowF n F) (A : MatF) {r : Nat} (hr : r < n) (x : Int) (u : Nat → Int) : F (setr A r fun j => x * u j) = x * F (setr A r u) := by
 have e := h.lin A r x 0 u u hr
 rw [Int.zero_mul, Int.add_zero] at e
 rw [← e]
 congr 2; funext j; omega
theorem sum (h : RowF n F) (A : MatF) {r : Nat} (hr : r < n) (c : Nat → Int) (u : Nat → Nat → Int) : ∀ m : Nat, F (setr A r fun j => sm m fun k => c k * u k j) = sm m fun k => c k * F (setr A r (u k))
  | 0 => h.zero (A := setr A r _) hr fun j _ => by rw [set_at]; rfl
  | m + 1 => by
    show F (setr A r fun j => sm m (fun k => c k * u k j) + c m * u m j) = _
    rw [h.add A hr, sum h A hr c u m, h.smul A hr]; rfl
theorem two (h : RowF n F) (A : MatF) {r s : Nat} (hr : r < n) (hs : s < n) (hne : r ≠ s) (heq : ∀ u : Nat → Int, F (setr (setr A r u) s u) = 0) (u v : Nat → Int) : F (setr (setr A r u) s v) = - F (setr (setr A r v) s u) := by
 have e := heq fun j => u j + v j
 rw [h.add _ hs, set_comm _ hne, set_comm _ hne, h.add _ hr, h.add _ hr, ← set_comm _ hne, ← set_comm _ hne, ← set_comm _ hne, ← set_comm _ hne, heq u, heq v] at e
 omega
theorem swap1 (h : RowF n F) (A : MatF) {r : Nat} (hr : r + 1 < n) (u v : Nat → Int) : F (setr (setr A r u) (r + 1) v) = - F (setr (setr A r v) (r + 1) u) :=
 h.two A (by omega) hr (by omega) (fun u => h.alt _ r hr fun j _ => by rw [set_at, set_ne _ (by omega), set_at]) u v
theorem same (h : RowF n F) : ∀ (d : Nat) (A : MatF) (r : Nat), r + 1 + d < n → (∀ j, j < n → A r j = A (r + 1 + d) j) → F A = 0
  | 0, A, r, hr, hA => h.alt A r hr hA
  | d + 1, A, r, hr, hA => by
    have e : A = setr (setr A (r + 1 + d) (A (r + 1 + d))) (r + 1 + d + 1) (A (r + 1 + d + 1)) := by rw [set_self, set_self]
    rw [e, h.swap1 A (by omega), same h d _ r (by omega) fun j hj => ?_]
    · rfl
    · rw [set_ne _ (by omega), set_ne _ (by omega), set_ne _ (by omega), set_at, hA j hj]; rfl
theorem eqr (h : RowF n F) {A : MatF} {r s : Nat} (hr : r < n) (hs : s < n) (hne : r ≠ s) (hA : ∀ j, j < n → A r j = A s j) : F A = 0 := by
 rcases Nat.lt_or_gt_of_ne hne with hl | hl
 ·obtain ⟨d, rfl⟩ : ∃ d, s = r + 1 + d := ⟨s - r - 1, by omega⟩
  exact h.same d A r hs hA
 ·obtain ⟨d, rfl⟩ : ∃ d, r = s + 1 + d := ⟨r - s - 1, by omega⟩
  exact h.same d A s hr fun j hj => (hA j hj).symm
theorem swap (h : RowF n F) (A : MatF) {r s : Nat} (hr : r < n) (hs : s < n) (hne : r ≠ s) (u v : Nat → Int) : F (setr (setr A r u) s v) = - F (setr (setr A r v) s u) :=
 h.two A hr hs hne (fun u => h.eqr hr hs hne fun j _ => by rw [set_at, set_ne _ hne, set_at]) u v
theorem addrow (h : RowF n F) (A : MatF) {r s : Nat} (hr : r < n) (hs : s < n) (hne : r ≠ s) (x : Int) : F (setr A r fun j => A r j + x * A s j) = F A := by
 rw [h.add A hr, set_self, h.smul A hr, h.eqr hr hs hne (A := setr A r (A s)) fun j _ => by rw [set_at, set_ne _ (fun e => hne e.symm)]]; omega
def ins (k : Nat) (B : MatF) : MatF := fun i j => if i = 0 then (if j = k then 1 else 0) else if j = k then 0 else B (i - 1) (unskip k j)
theorem ins_zero (k : Nat) (B : MatF) (j : Nat) : ins k B 0 j = if j = k then 1 else 0 := rfl
theorem ins_succ (k : Nat) (B : MatF) (i j : Nat) : ins k B (i + 1) j = if j = k then 0 else B i (unskip k j) := rfl
theorem ins_set (k : Nat) (B : MatF) (r : Nat) (v : Nat → Int) : ins k (setr B r v) = setr (ins k B) (r + 1) (fun j => if j = k then 0 else v (unskip k j)) := by
  funext i j
  cases i with
  | zero => exact (if_neg (by omega)).symm
  | succ i =>
    show _ = if i + 1 = r + 1 then (if j = k then 0 else v (unskip k j)) else ins k B (i + 1) j
    rw [ins_succ, ins_succ]
    unfold setr
    by_cases e : i = r
    · rw [if_pos (c := i + 1 = r + 1) (by omega), if_pos e]
    · rw [if_neg (c := i + 1 = r + 1) (by omega), if_neg e]
theorem insF {F : MatF → Int} (h : RowF (n + 1) F) {k : Nat} (hk : k < n + 1) : RowF n fun B => F (ins k B) where
  congr {A B} e := h.congr fun i j hi hj => by
    cases i with
    | zero => rfl
    | succ i =>
      rw [ins_succ, ins_succ]
      by_cases h1 : j = k
      · rw [if_pos h1, if_pos h1]
      · rw [if_neg h1, if_neg h1]; exact e _ _ (by omega) (unskip_lt hj hk h1)
  lin A r x y u v hr := by
    simp only [ins_set]
    rw [← h.lin _ (r + 1) x y _ _ (by omega)]
    congr 2; funext j; split
    · omega
    · rfl
  alt A r hr e := h.alt _ (r + 1) (by omega) fun j hj => by
    rw [ins_succ, ins_succ]
    split
    · rfl
    · rename_i h1; exact e _ (unskip_lt hj hk h1)
theorem ins_one (h : RowF (n + 1) F) : ∀ k : Nat, k < n + 1 → F (ins k one) = sg k * F one
  | 0, _ => by
    have e : F (ins 0 one) = F one := h.congr fun i j _ _ => by
      unfold ins one unskip
      repeat' split
      all_goals omega
    rw [e]; show _ = 1 * _; omega
  | k + 1, hk => by
    have ih := ins_one h k (by omega)
    have e1 : ins k one = setr (setr (ins k one) 0 (ins k one 0)) (k + 1) (ins k one (k + 1)) := by rw [set_self, set_self]
    have e2 : F (ins (k + 1) one) = F (setr (setr (ins k one) 0 (ins k one (k + 1))) (k + 1) (ins k one 0)) := h.congr fun i j hi hj => by
      unfold setr
      by_cases hik : i = k + 1
      · rw [if_pos hik, hik, ins_zero, ins_succ]
        unfold one unskip
        repeat' split
        all_goals omega
      · rw [if_neg hik]
        cases i with
        | zero =>
          rw [if_pos rfl, ins_zero, ins_succ]
          unfold one unskip
          repeat' split
          all_goals omega
        | succ i =>
          rw [if_neg (by omega), ins_succ, ins_succ]
          unfold one unskip
          repeat' split
          all_goals omega
    have e3 : F (ins (k + 1) one) = - F (ins k one) := by rw [e2, h.swap _ (by omega) hk (by omega), ← e1]
    rw [e3, ih, sg_succ, Int.neg_mul]
def clrd (A : MatF) (k m : Nat) : MatF := fun i j => if i = 0 then (if j = k then 1 else 0) else if j = k ∧ i ≤ m then 0 else A i j
theorem clrd_F (h : RowF (n + 1) F) (A : MatF) {k : Nat} (hk : k < n + 1) : ∀ m : Nat, m ≤ n → F (clrd A k m) = F (clrd A k 0)
  | 0, _ => rfl
  | m + 1, hm => by
    rw [← clrd_F h A hk m (by omega), ← h.addrow (clrd A k m) (r := m + 1) (s := 0) (by omega) (by omega) (by omega) (- A (m + 1) k)]
    refine h.congr fun i j hi hj => ?_
    unfold setr
    by_cases e : i = m + 1
    · rw [if_pos e, e]
      show (if j = k ∧ m + 1 ≤ m + 1 then 0 else A (m + 1) j) = (if j = k ∧ m + 1 ≤ m then 0 else A (m + 1) j) + -A (m + 1) k * (if j = k then 1 else 0)
      by_cases h1 : j = k
      · rw [h1, if_pos ⟨rfl, Nat.le_refl _⟩, if_neg (by omega), if_pos rfl]; omega
      · rw [if_neg (by omega), if_neg (by omega), if_neg h1]; omega
    · rw [if_neg e]
      unfold clrd
      split
      · rfl
      · by_cases h1 : j = k ∧ i ≤ m
        · rw [if_pos h1, if_pos ⟨h1.1, by omega⟩]
        · rw [if_neg h1, if_neg (by omega)]
end RowF
open RowF
theorem RowF.uniq : ∀ {n : Nat} {F : MatF → Int}, RowF n F → ∀ A : MatF, F A = F one * det n A
  | 0, F, h, A => by
    rw [show det 0 A = 1 from rfl, Int.mul_one]
    exact h.congr fun i j hi => by omega
  | n + 1, F, h, A => by
    have e1 : F A = F (setr A 0 fun j => sm (n + 1) fun k => A 0 k * (if j = k then 1 else 0)) := h.congr fun i j hi hj => by
      unfold setr; split
      · rename_i e
        show _ = sm (n + 1) fun k => A 0 k * (if j = k then 1 else 0)
        rw [e, sm_one (c := j) hj fun k _ hne => by rw [if_neg (fun e => hne e.symm), Int.mul_zero], if_pos rfl, Int.mul_one]
      · rfl
    rw [e1, h.sum A (by omega) (fun k => A 0 k) (fun k j => if j = k then 1 else 0), det_succ, ← sm_smul]
    refine sm_congr fun k hk => ?_
    have e2 : F (setr A 0 fun j => if j = k then 1 else 0) = F (clrd A k 0) := h.congr fun i j _ _ => by
      unfold setr clrd; split
      · rfl
      · rw [if_neg (by omega)]
    have e3 : F (clrd A k n) = F (ins k fun i j => A (i + 1) (skip k j)) := h.congr fun i j hi hj => by
      unfold clrd ins
      split
      · rfl
      · rename_i h0
        by_cases h1 : j = k
        · rw [if_pos ⟨h1, by omega⟩, if_pos h1]
        · rw [if_neg (by omega), if_neg h1]
          show A i j = A (i - 1 + 1) (skip k (unskip k j))
          rw [skip_unskip h1, show i - 1 + 1 = i by omega]
    have e4 := RowF.uniq (h.insF hk) fun i j => A (i + 1) (skip k j)
    simp only [ins_one h k hk] at e4
    rw [e2, ← clrd_F h A hk n (Nat.le_refl _), e3, e4]
    generalize det n (fun i j => A (i + 1) (skip k j)) = d
    generalize A 0 k = a
    generalize sg k = s
    generalize F one = f
    rw [Int.mul_left_comm f s, Int.mul_left_comm f a, Int.mul_assoc, Int.mul_left_comm a s]
def tr (A : MatF) : MatF := fun i j => A j i
theorem detT_rowF (n : Nat) : RowF n fun A => det n (tr A) where
 congr e := det_congr fun i j hi hj => e j i hj hi
 lin A r x y u v hr := det_col x y u v (tr A) r hr
 alt A r hr e := det_cols_eq (tr A) r hr e
theorem det_tr (n : Nat) (A : MatF) : det n (tr A) = det n A := by
 have h := (detT_rowF n).uniq A
 have e : det n (tr one) = 1 := by
  rw [← det_one n]
  exact det_congr fun i j _ _ => by
   unfold tr one
   repeat' split
   all_goals omega
 rw [h, e, Int.one_mul]
theorem det_rowF (n : Nat) : RowF n (det n) := by
 have e : det n = fun A => det n (tr A) := funext fun A => (det_tr n A).symm
 rw [e]; exact detT_rowF n
end Go.Dt
namespace Go.Dt
open RowF
theorem sm_left (f : Nat → Int) : ∀ n : Nat, sm (n + 1) f = f 0 + sm n (fun i => f (i + 1))
  | 0 => by show (0 : Int) + f 0 = f 0 + 0; omega
  | n + 1 => by
    show sm (n + 1) f + f (n + 1) = f 0 + (sm n (fun i => f (i + 1)) + f (n + 1))
    rw [sm_left f n]; omega
def sub (A : MatF) (rs cs : List Nat) : MatF := fun i j => A (rs.getD i 0) (cs.getD j 0)
def mn (A : MatF) (rs cs : List Nat) : Int := det rs.length (sub A rs cs)
theorem det_cols_same {n : Nat} {A : MatF} {c d : Nat} (hc : c < n) (hd : d < n) (hne : c ≠ d) (h : ∀ i, i < n → A i c = A i d) : det n A = 0 := by
 rw [← det_tr]; exact (det_rowF n).eqr (A := tr A) hc hd hne h
theorem det_first {n : Nat} {N : MatF} (h : ∀ j, j < n → N 0 (j + 1) = 0) : det (n + 1) N = N 0 0 * det n (fun i j => N (i + 1) (j + 1)) := by
 rw [det_succ, sm_left, sm_zero fun j hj => by rw [h j hj, Int.zero_mul, Int.mul_zero]]
 have e : (fun i j => N (i + 1) (skip 0 j)) = fun i j => N (i + 1) (j + 1) := by
  funext i j; unfold skip; rw [if_neg (by omega)]
 rw [e]; show 1 * _ + 0 = _; omega
theorem getD_mem {l : List Nat} {j : Nat} (h : j < l.length) : l.getD j 0 ∈ l := by
 rw [List.getD, List.getElem?_eq_getElem h]; exact List.getElem_mem h
theorem mem_getD {l : List Nat} {k : Nat} (h : k ∈ l) : ∃ j, j < l.length ∧ l.getD j 0 = k := by
 obtain ⟨j, hj, e⟩ := List.mem_iff_getElem.1 h
 exact ⟨j, hj, by rw [List.getD, List.getElem?_eq_getElem hj]; exact e⟩
def ec (A : MatF) (rs cs : List Nat) (i r : Nat) : Int := sg (r + 1) * det rs.length (fun p q => A ((i :: rs).getD (skip (r + 1) q) 0) (cs.getD p 0))
theorem mn_exp (A : MatF) (rs cs : List Nat) (i k : Nat) : mn A (i :: rs) (k :: cs) = mn A rs cs * A i k + sm rs.length fun r => ec A rs cs i r * A (rs.getD r 0) k := by
 show det (rs.length + 1) _ = _
 rw [← det_tr, det_succ, sm_left]
 have e0 : det rs.length (fun p q => tr (sub A (i :: rs) (k :: cs)) (p + 1) (skip 0 q)) = mn A rs cs := by
  unfold mn
  rw [← det_tr (A := sub A rs cs)]
  refine congrArg _ ?_
  funext p q
  unfold skip
  rw [if_neg (by omega)]; rfl
 rw [e0]
 have e1 : sg 0 * (tr (sub A (i :: rs) (k :: cs)) 0 0 * mn A rs cs) = mn A rs cs * A i k := by
  show 1 * (A i k * _) = _
  rw [Int.one_mul, Int.mul_comm]
 rw [e1]
 refine congrArg _ (sm_congr fun r _ => ?_)
 show sg (r + 1) * (A (rs.getD r 0) k * det rs.length (fun p q => A ((i :: rs).getD (skip (r + 1) q) 0) (cs.getD p 0))) = _
 unfold ec
 rw [Int.mul_comm (A (rs.getD r 0) k), Int.mul_assoc]
theorem mn_col (A : MatF) {rs cs : List Nat} (hl : cs.length = rs.length) (i : Nat) {k : Nat} (hk : k ∈ cs) : mn A (i :: rs) (k :: cs) = 0 := by
 obtain ⟨j, hj, e⟩ := mem_getD hk
 refine det_cols_same (c := 0) (d := j + 1) (by show 0 < rs.length + 1; omega) (by show j + 1 < rs.length + 1; omega) (by omega) fun p _ => ?_
 show A _ k = A _ (cs.getD j 0)
 rw [e]
theorem RowF.comb {n : Nat} {F : MatF → Int} (h : RowF n F) (A : MatF) {r : Nat} (hr : r < n) (D : Int) (e : Nat → Int) (f : Nat → Nat) (m : Nat) (hf : ∀ p, p < m → f p < n ∧ f p ≠ r) :
  F (setr A r fun j => D * A r j + sm m fun p => e p * A (f p) j) = D * F A := by
 rw [h.add A hr, h.smul A hr, set_self, h.sum A hr e (fun p => A (f p)), sm_zero fun p hp => ?_]
 ·omega
 ·obtain ⟨h1, h2⟩ := hf p hp
  rw [h.eqr hr h1 (fun e => h2 e.symm) (A := setr A r (A (f p))) fun j _ => by rw [set_at, set_ne _ h2], Int.mul_zero]
theorem mn_two (A : MatF) {rs cs : List Nat} (hl : cs.length = rs.length) (i1 i2 k1 k2 : Nat) :
  mn A rs cs * (mn A rs cs * mn A (i1 :: i2 :: rs) (k1 :: k2 :: cs)) = mn A rs cs * (mn A (i1 :: rs) (k1 :: cs) * mn A (i2 :: rs) (k2 :: cs) - mn A (i1 :: rs) (k2 :: cs) * mn A (i2 :: rs) (k1 :: cs)) := by
 obtain ⟨t, ht⟩ : ∃ t, t = rs.length := ⟨_, rfl⟩
 obtain ⟨M, hM⟩ : ∃ M, M = sub A (i1 :: i2 :: rs) (k1 :: k2 :: cs) := ⟨_, rfl⟩
 obtain ⟨w, hw⟩ : ∃ w : Nat → Nat → Int, w = fun i j => mn A (i :: rs) ((k1 :: k2 :: cs).getD j 0 :: cs) := ⟨_, rfl⟩
 have hR := det_rowF (t + 2)
 have h1 : w i1 = fun j => mn A rs cs * M 0 j + sm t fun p => ec A rs cs i1 p * M (p + 2) j := by
  rw [hw, hM, ht]; funext j; exact mn_exp A rs cs i1 _
 have h2 : w i2 = fun j => mn A rs cs * M 1 j + sm t fun p => ec A rs cs i2 p * M (p + 2) j := by
  rw [hw, hM, ht]; funext j; exact mn_exp A rs cs i2 _
 have g1 : det (t + 2) (setr M 0 (w i1)) = mn A rs cs * det (t + 2) M := by
  rw [h1]; exact hR.comb M (r := 0) (by omega) (mn A rs cs) (ec A rs cs i1) (fun p => p + 2) t (fun p hp => ⟨by omega, by omega⟩)
 have g2 : det (t + 2) (setr (setr M 0 (w i1)) 1 (w i2)) = mn A rs cs * det (t + 2) (setr M 0 (w i1)) := by
  have e : w i2 = fun j => mn A rs cs * setr M 0 (w i1) 1 j + sm t fun p => ec A rs cs i2 p * setr M 0 (w i1) (p + 2) j := by
   rw [h2]; funext j
   rw [set_ne M (by omega)]
   refine congrArg _ (sm_congr fun p _ => ?_)
   rw [set_ne M (by omega)]
  rw [congrArg (setr (setr M 0 (w i1)) 1) e]
  exact hR.comb (setr M 0 (w i1)) (r := 1) (by omega) (mn A rs cs) (ec A rs cs i2) (fun p => p + 2) t (fun p hp => ⟨by omega, by omega⟩)
 have hz : ∀ i j, j < t → w i (j + 2) = 0 := fun i j hj => by
  rw [hw]; exact mn_col A hl i (getD_mem (by omega))
 have e3 : mn A (i1 :: i2 :: rs) (k1 :: k2 :: cs) = det (t + 2) M := by rw [hM, ht]; rfl
 have e4 : ∀ i, w i 0 = mn A (i :: rs) (k1 :: cs) := fun i => by rw [hw]; rfl
 have e5 : ∀ i, w i 1 = mn A (i :: rs) (k2 :: cs) := fun i => by rw [hw]; rfl
 rw [e3, ← g1, ← g2, ← e4, ← e5, ← e5, ← e4, det_succ, sm_left, sm_left, sm_zero fun j hj => ?_]
 ·have d0 : det (t + 1) (fun i j => setr (setr M 0 (w i1)) 1 (w i2) (i + 1) (skip 0 j)) = w i2 1 * mn A rs cs := by
   rw [det_first fun j hj => ?_]
   ·have : (fun i j => setr (setr M 0 (w i1)) 1 (w i2) (i + 1 + 1) (skip 0 (j + 1))) = sub A rs cs := by
     rw [hM]; rfl
    rw [this, ht]; rfl
   ·exact hz i2 j hj
  have d1 : det (t + 1) (fun i j => setr (setr M 0 (w i1)) 1 (w i2) (i + 1) (skip 1 j)) = w i2 0 * mn A rs cs := by
   have s1 : ∀ j, skip 1 (j + 1) = j + 2 := fun j => by unfold skip; rw [if_neg (by omega)]
   rw [det_first fun j hj => ?_]
   ·have : (fun i j => setr (setr M 0 (w i1)) 1 (w i2) (i + 1 + 1) (skip 1 (j + 1))) = sub A rs cs := by
     funext i j
     rw [s1, hM]; rfl
    rw [this, ht]; rfl
   ·show w i2 (skip 1 (j + 1)) = 0
    rw [s1]; exact hz i2 j hj
  show sg 0 * (setr (setr M 0 (w i1)) 1 (w i2) 0 0 * _) + (sg 1 * (setr (setr M 0 (w i1)) 1 (w i2) 0 1 * _) + 0) = _
  rw [d0, show (0 + 1 : Nat) = 1 from rfl, d1]
  show 1 * (w i1 0 * (w i2 1 * mn A rs cs)) + (-1 * (w i1 1 * (w i2 0 * mn A rs cs)) + 0) = mn A rs cs * (w i1 0 * w i2 1 - w i1 1 * w i2 0)
  rw [Int.mul_sub, ← Int.mul_assoc (w i1 0), ← Int.mul_assoc (w i1 1), Int.mul_comm (mn A rs cs), Int.mul_comm (mn A rs cs)]
  omega
 ·show sg (j + 1 + 1) * (w i1 (j + 2) * _) = 0
  rw [hz i1 j hj, Int.zero_mul, Int.mul_zero]
theorem mn_step (A : MatF) {rs cs : List Nat} (hl : cs.length = rs.length) (h0 : mn A rs cs ≠ 0) (i1 i2 k1 k2 : Nat) :
  mn A (i1 :: rs) (k1 :: cs) * mn A (i2 :: rs) (k2 :: cs) - mn A (i1 :: rs) (k2 :: cs) * mn A (i2 :: rs) (k1 :: cs) = mn A rs cs * mn A (i1 :: i2 :: rs) (k1 :: k2 :: cs) :=
 (Int.eq_of_mul_eq_mul_left h0 (mn_two A hl i1 i2 k1 k2)).symm
end Go.Dt
namespace Go.Hp
open Go.Dt
/-! ### a row's first number that isn't 0 -/
def fc : Nat → (Nat → Int) → Nat
 | 0, _ => 0
 | n + 1, f => if fc n f < n then fc n f else if f n = 0 then n + 1 else n
theorem fc_spec (f : Nat → Int) : ∀ C : Nat, fc C f ≤ C ∧ (∀ k, k < fc C f → f k = 0) ∧ (fc C f < C → f (fc C f) ≠ 0)
  | 0 => ⟨Nat.le_refl _, fun k hk => absurd hk (Nat.not_lt_zero _), fun h => absurd h (Nat.not_lt_zero _)⟩
  | n + 1 => by
    obtain ⟨h1, h2, h3⟩ := fc_spec f n
    have e : fc (n + 1) f = if fc n f < n then fc n f else if f n = 0 then n + 1 else n := rfl
    by_cases h : fc n f < n
    · rw [e, if_pos h]; exact ⟨by omega, h2, fun _ => h3 h⟩
    · have hn : fc n f = n := by omega
      rw [hn] at h2
      by_cases h0 : f n = 0
      · rw [e, if_neg h, if_pos h0]
        refine ⟨Nat.le_refl _, fun k hk => ?_, fun h => by omega⟩
        rcases Nat.lt_or_ge k n with h4 | h4
        · exact h2 k h4
        · rw [show k = n by omega]; exact h0
      · rw [e, if_neg h, if_neg h0]
        exact ⟨by omega, h2, fun _ => h0⟩
theorem fc_le (f : Nat → Int) (C : Nat) : fc C f ≤ C := (fc_spec f C).1
theorem fc_zero {f : Nat → Int} {C k : Nat} (h : k < fc C f) : f k = 0 := (fc_spec f C).2.1 k h
theorem fc_ne {f : Nat → Int} {C : Nat} (h : fc C f < C) : f (fc C f) ≠ 0 := (fc_spec f C).2.2 h
theorem fc_at {f : Nat → Int} {C c : Nat} (hc : c < C) (h0 : ∀ k, k < c → f k = 0) (h : f c ≠ 0) : fc C f = c := by
 rcases Nat.lt_trichotomy (fc C f) c with h1 | h1 | h1
 ·exact absurd (h0 _ h1) (fc_ne (by omega))
 ·exact h1
 ·exact absurd (fc_zero h1) h
theorem fc_all {f : Nat → Int} {C : Nat} (h : ∀ k, k < C → f k = 0) : fc C f = C := by
 rcases Nat.lt_or_ge (fc C f) C with h1 | h1
 ·exact absurd (h _ h1) (fc_ne h1)
 ·have := fc_le f C; omega
theorem fc_congr {f g : Nat → Int} {C : Nat} (h : ∀ k, k < C → f k = g k) : fc C f = fc C g := by
 rcases Nat.lt_or_ge (fc C g) C with h1 | h1
 ·refine fc_at h1 (fun k hk => by rw [h k (by omega)]; exact fc_zero hk) ?_
  rw [h _ h1]; exact fc_ne h1
 ·have hg := fc_le g C
  have e : fc C g = C := by omega
  rw [e]
  exact fc_all fun k hk => by rw [h k hk]; exact fc_zero (C := C) (by omega)
/-! ### what rows span -/
def SpZ (R W : Nat) (A : MatF) (v : Nat → Int) : Prop := ∃ c : Nat → Int, ∀ k, k < W → v k = sm R fun i => c i * A i k
theorem sm_pick1 {R i : Nat} (f : Nat → Int) (hi : i < R) : (sm R fun j => (if j = i then 1 else 0) * f j) = f i := by
 rw [sm_one (c := i) hi (fun j _ hj => by simp [hj])]; simp
theorem SpZ.row {R W : Nat} (A : MatF) {i : Nat} (hi : i < R) : SpZ R W A (A i) := ⟨fun j => if j = i then 1 else 0, fun k _ => (sm_pick1 (fun j => A j k) hi).symm⟩
theorem SpZ.congr {R W : Nat} {A : MatF} {u v : Nat → Int} (h : SpZ R W A u) (e : ∀ k, k < W → v k = u k) : SpZ R W A v := by
 obtain ⟨c, hc⟩ := h
 exact ⟨c, fun k hk => (e k hk).trans (hc k hk)⟩
theorem SpZ.comb {R W : Nat} {A : MatF} {u v : Nat → Int} (x y : Int) (h : SpZ R W A u) (k : SpZ R W A v) : SpZ R W A fun j => x * u j + y * v j := by
 obtain ⟨c, hc⟩ := h
 obtain ⟨d, hd⟩ := k
 refine ⟨fun i => x * c i + y * d i, fun j hj => ?_⟩
 show x * u j + y * v j = _
 rw [hc j hj, hd j hj, ← sm_lin]
 exact sm_congr fun i _ => by grind
theorem SpZ.zero {R W : Nat} (A : MatF) : SpZ R W A fun _ => 0 := ⟨fun _ => 0, fun k _ => by rw [sm_zero fun i _ => Int.zero_mul _]⟩
theorem SpZ.sum {R W : Nat} {A : MatF} (c : Nat → Int) (u : Nat → Nat → Int) : ∀ m : Nat, (∀ i, i < m → SpZ R W A (u i)) → SpZ R W A fun k => sm m fun i => c i * u i k
 | 0, _ => SpZ.zero A
 | m + 1, h => ((SpZ.sum c u m fun i hi => h i (by omega)).comb 1 (c m) (h m (by omega))).congr fun k _ => by show sm m _ + _ = _; rw [Int.one_mul]
theorem SpZ.trans {R R' W : Nat} {A B : MatF} {v : Nat → Int} (h : SpZ R W A v) (hA : ∀ i, i < R → SpZ R' W B (A i)) : SpZ R' W B v := by
 obtain ⟨c, hc⟩ := h
 exact (SpZ.sum c A R hA).congr hc
theorem SpZ.mono {R W W' : Nat} {A : MatF} {v : Nat → Int} (h : SpZ R W A v) (hW : W' ≤ W) : SpZ R W' A v := by
 obtain ⟨c, hc⟩ := h
 exact ⟨c, fun k hk => hc k (by omega)⟩
def Eqv (R R' W : Nat) (A B : MatF) : Prop := (∀ i, i < R → SpZ R' W B (A i)) ∧ ∀ i, i < R' → SpZ R W A (B i)
theorem Eqv.refl (R W : Nat) (A : MatF) : Eqv R R W A A := ⟨fun _ h => SpZ.row A h, fun _ h => SpZ.row A h⟩
theorem Eqv.symm {R R' W : Nat} {A B : MatF} (h : Eqv R R' W A B) : Eqv R' R W B A := ⟨h.2, h.1⟩
theorem Eqv.trans {R R' R'' W : Nat} {A B D : MatF} (h : Eqv R R' W A B) (k : Eqv R' R'' W B D) : Eqv R R'' W A D := ⟨fun i hi => (h.1 i hi).trans k.1, fun i hi => (k.2 i hi).trans h.2⟩
theorem Eqv.mono {R R' W W' : Nat} {A B : MatF} (h : Eqv R R' W A B) (hW : W' ≤ W) : Eqv R R' W' A B := ⟨fun i hi => (h.1 i hi).mono hW, fun i hi => (h.2 i hi).mono hW⟩
theorem Eqv.of_eq {R W : Nat} {A B : MatF} (h : ∀ i k, i < R → k < W → A i k = B i k) : Eqv R R W A B :=
 ⟨fun i hi => (SpZ.row B hi).congr fun k hk => h i k hi hk, fun i hi => (SpZ.row A hi).congr fun k hk => (h i k hi hk).symm⟩
/-! ### Hermite's form -/
def HermF (R C : Nat) (A : MatF) : Prop := ∀ i, i < R → fc C (A i) < C → (0 < i → fc C (A (i - 1)) < fc C (A i)) ∧ 0 < A i (fc C (A i)) ∧ ∀ r, r < i → 0 ≤ A r (fc C (A i)) ∧ A r (fc C (A i)) < A i (fc C (A i))
theorem HermF.congr {R C : Nat} {A B : MatF} (h : HermF R C A) (e : ∀ i k, i < R → k < C → B i k = A i k) : HermF R C B := fun i hi hc => by
 have e1 : ∀ j, j < R → fc C (B j) = fc C (A j) := fun j hj => fc_congr fun k hk => e j k hj hk
 rw [e1 i hi] at hc
 obtain ⟨h1, h2, h3⟩ := h i hi hc
 rw [e1 i hi]
 refine ⟨fun h0 => by rw [e1 (i - 1) (by omega)]; exact h1 h0, by rw [e i _ hi hc]; exact h2, fun r hr => ?_⟩
 rw [e r _ (by omega) hc, e i _ hi hc]; exact h3 r hr
theorem HermF.up {R C : Nat} {A : MatF} (h : HermF R C A) {i : Nat} : ∀ {j : Nat}, i < j → j < R → fc C (A j) < C → fc C (A i) < fc C (A j)
  | j + 1, hij, hj, hc => by
    have h1 := (h (j + 1) hj hc).1 (by omega)
    rw [Nat.add_sub_cancel] at h1
    rcases Nat.lt_or_ge i j with h2 | h2
    · have := HermF.up h h2 (by omega) (by omega : fc C (A j) < C)
      omega
    · rw [show i = j by omega]; exact h1
theorem HermF.later {R C : Nat} {A : MatF} (h : HermF R C A) {i j k : Nat} (hij : i < j) (hj : j < R) (hi : fc C (A i) < C) (hk : k ≤ fc C (A i)) : A j k = 0 := by
 have := fc_le (A j) C
 rcases Nat.lt_or_ge (fc C (A j)) C with h1 | h1
 ·have := h.up hij hj h1
  exact fc_zero (C := C) (by omega)
 ·exact fc_zero (C := C) (by omega)
theorem first_of {p : Nat → Prop} : ∀ n, (∃ i, i < n ∧ p i) → ∃ i, i < n ∧ p i ∧ ∀ j, j < i → ¬ p j
  | 0, ⟨i, hi, _⟩ => absurd hi (Nat.not_lt_zero _)
  | n + 1, h => by
    by_cases h1 : ∃ i, i < n ∧ p i
    · obtain ⟨i, h2, h3, h4⟩ := first_of n h1
      exact ⟨i, by omega, h3, h4⟩
    · obtain ⟨i, hi, hp⟩ := h
      have : i = n := by
        rcases Nat.lt_or_ge i n with h2 | h2
        · exact absurd ⟨i, h2, hp⟩ h1
        · omega
      subst this
      exact ⟨i, by omega, hp, fun j hj hpj => h1 ⟨j, hj, hpj⟩⟩
theorem HermF.key {R C : Nat} {A : MatF} (h : HermF R C A) {v : Nat → Int} (hv : SpZ R C A v) {c : Nat} (hc : c < C) (h0 : ∀ k, k < c → v k = 0) (hn : v c ≠ 0) : ∃ i, i < R ∧ fc C (A i) = c ∧ A i c ∣ v c := by
 obtain ⟨a, ha⟩ := hv
 have hex : ∃ i, i < R ∧ (a i ≠ 0 ∧ fc C (A i) < C) := by
  refine Classical.byContradiction fun hno => hn ?_
  rw [ha c hc]
  refine sm_zero fun i hi => ?_
  by_cases h1 : a i = 0
  ·rw [h1, Int.zero_mul]
  ·have h2 : ¬ fc C (A i) < C := fun h2 => hno ⟨i, hi, h1, h2⟩
   rw [fc_zero (f := A i) (C := C) (k := c) (by omega), Int.mul_zero]
 obtain ⟨i, hi, ⟨ha0, hfi⟩, hmin⟩ := first_of R hex
 have hval : ∀ k, k ≤ fc C (A i) → v k = a i * A i k := fun k hk => by
  rw [ha k (by omega)]
  refine sm_one hi fun j hj hne => ?_
  rcases Nat.lt_or_ge j i with h1 | h1
  ·have h2 := hmin j h1
   by_cases h3 : a j = 0
   ·rw [h3, Int.zero_mul]
   ·have h4 : ¬ fc C (A j) < C := fun h4 => h2 ⟨h3, h4⟩
    rw [fc_zero (f := A j) (C := C) (k := k) (by omega), Int.mul_zero]
  ·rw [h.later (show i < j by omega) hj hfi hk, Int.mul_zero]
 have hp := hval _ (Nat.le_refl _)
 have hpne : v (fc C (A i)) ≠ 0 := by
  rw [hp]; exact Int.mul_ne_zero ha0 (fc_ne hfi)
 have hfc : fc C (A i) = c := by
  rcases Nat.lt_trichotomy (fc C (A i)) c with h1 | h1 | h1
  ·exact absurd (h0 _ h1) hpne
  ·exact h1
  ·exact absurd (by rw [hval c (by omega), fc_zero h1, Int.mul_zero]) hn
 subst hfc
 exact ⟨i, hi, rfl, ⟨a i, by rw [hp, Int.mul_comm]⟩⟩
theorem HermF.inj {R C : Nat} {A : MatF} (h : HermF R C A) {i j : Nat} (hi : i < R) (hj : j < R) (hc : fc C (A i) < C) (e : fc C (A i) = fc C (A j)) : i = j := by
 rcases Nat.lt_trichotomy i j with h1 | h1 | h1
 ·have := h.up h1 hj (by omega); omega
 ·exact h1
 ·have := h.up h1 hi hc; omega
theorem row_key {R C : Nat} {B : MatF} (hB : HermF R C B) {v : Nat → Int} (hv : SpZ R C B v) (hc : fc C v < C) : ∃ j, j < R ∧ fc C (B j) = fc C v ∧ B j (fc C v) ∣ v (fc C v) := hB.key hv hc (fun k hk => fc_zero hk) (fc_ne hc)
theorem dvd_eq {x y : Int} (hx : 0 < x) (hy : 0 < y) (h : x ∣ y) (k : y ∣ x) : x = y := by
 have h1 := Int.le_of_dvd hy h
 have h2 := Int.le_of_dvd hx k
 omega
theorem form_fc {R R' C : Nat} {A B : MatF} (hA : HermF R C A) (hB : HermF R' C B) (h : Eqv R R' C A B) : ∀ i, (i < R → fc C (A i) < C → i < R' ∧ fc C (B i) = fc C (A i)) ∧ (i < R' → fc C (B i) < C → i < R ∧ fc C (A i) = fc C (B i)) := by
  intro i
  induction i using Nat.strongRecOn with
  | ind i ih =>
    have half : ∀ {R R' : Nat} {A B : MatF}, HermF R C A → HermF R' C B → Eqv R R' C A B → (∀ m, m < i → (m < R → fc C (A m) < C → m < R' ∧ fc C (B m) = fc C (A m)) ∧ (m < R' → fc C (B m) < C → m < R ∧ fc C (A m) = fc C (B m))) → i < R → fc C (A i) < C → i < R' ∧ fc C (B i) = fc C (A i) := by
      intro R R' A B hA hB h ih hi hc
      obtain ⟨j, hj, hje, _⟩ := row_key hB (h.1 i hi) hc
      rcases Nat.lt_trichotomy j i with h1 | h1 | h1
      · exfalso
        have h2 := (ih j h1).2 hj (by omega)
        have h3 := hA.up h1 hi hc
        omega
      · subst h1; exact ⟨hj, hje⟩
      · exfalso
        have h2 := hB.up h1 hj (by omega)
        have hbi : fc C (B i) < C := by omega
        obtain ⟨m, hm, hme, _⟩ := row_key hA (h.2 i (by omega)) hbi
        rcases Nat.lt_or_ge m i with h3 | h3
        · have h4 := (ih m h3).1 hm (by omega)
          have h5 := hB.up h3 (by omega) hbi
          omega
        · rcases Nat.lt_or_ge i m with h4 | h4
          · have h5 := hA.up h4 hm (by omega)
            omega
          · rw [show m = i by omega] at hme; omega
    exact ⟨half hA hB h ih, half hB hA h.symm fun m hm => ⟨(ih m hm).2, (ih m hm).1⟩⟩
theorem form_pv {R R' C : Nat} {A B : MatF} (hA : HermF R C A) (hB : HermF R' C B) (h : Eqv R R' C A B) {i : Nat} (hi : i < R) (hc : fc C (A i) < C) : B i (fc C (A i)) = A i (fc C (A i)) := by
 obtain ⟨hi', he⟩ := (form_fc hA hB h i).1 hi hc
 obtain ⟨j, hj, hje, hjd⟩ := row_key hB (h.1 i hi) hc
 obtain ⟨m, hm, hme, hmd⟩ := row_key hA (h.2 i hi') (by omega)
 have hj2 : j = i := hB.inj hj hi' (by omega) (by omega)
 have hm2 : m = i := hA.inj hm hi (by omega) (by omega)
 subst hj2; subst hm2
 rw [he] at hmd
 have p1 := (hA m hm hc).2.1
 have p2 := (hB m hj (by omega)).2.1
 rw [he] at p2
 exact dvd_eq p2 p1 hjd hmd
theorem form_row {R R' C : Nat} {A B : MatF} (hA : HermF R C A) (hB : HermF R' C B) (h : Eqv R R' C A B) {i : Nat} (hi : i < R) (hc : fc C (A i) < C) : ∀ k, k < C → B i k = A i k := by
 obtain ⟨hi', he⟩ := (form_fc hA hB h i).1 hi hc
 have hp := form_pv hA hB h hi hc
 have hd : SpZ R C A fun k => 1 * B i k + (-1) * A i k := (h.2 i hi').comb 1 (-1) (SpZ.row A hi)
 refine Classical.byContradiction fun hno => ?_
 have hne : fc C (fun k => 1 * B i k + (-1) * A i k) < C := by
  rcases Nat.lt_or_ge (fc C (fun k => 1 * B i k + (-1) * A i k)) C with h1 | h1
  ·exact h1
  ·refine absurd (fun k hk => ?_) hno
   have := fc_zero (f := fun k => 1 * B i k + (-1) * A i k) (C := C) (k := k) (by omega)
   have this : 1 * B i k + -1 * A i k = 0 := this
   omega
 obtain ⟨m, hm, hme, hmd⟩ := row_key hA hd hne
 generalize hcd : fc C (fun k => 1 * B i k + (-1) * A i k) = c at *
 have hdc : 1 * B i c + (-1) * A i c ≠ 0 := by
  have := fc_ne (f := fun k => 1 * B i k + (-1) * A i k) (C := C) (by omega)
  rw [hcd] at this; exact this
 have hgt : fc C (A i) < c := by
  rcases Nat.lt_trichotomy (fc C (A i)) c with h1 | h1 | h1
  ·exact h1
  ·subst h1; omega
  ·have e1 := fc_zero (f := A i) h1
   have e2 := fc_zero (f := B i) (C := C) (k := c) (by omega)
   omega
 have him : i < m := by
  rcases Nat.lt_or_ge i m with h1 | h1
  ·exact h1
  ·rcases Nat.lt_or_ge m i with h2 | h2
   ·have := hA.up h2 hi hc; omega
   ·rw [show m = i by omega] at hme; omega
 have hmc : fc C (A m) < C := by omega
 have a1 := (hA m hm hmc).2.2 i him
 obtain ⟨hm', hme'⟩ := (form_fc hA hB h m).1 hm hmc
 have a2 := (hB m hm' (by omega)).2.2 i him
 have a3 := form_pv hA hB h hm hmc
 rw [hme'] at a2
 rw [hme] at a1 a2 a3
 rw [a3] at a2
 obtain ⟨q, hq⟩ := hmd
 have hpos : 0 < A m c := by omega
 have : q = 0 := by
  refine Classical.byContradiction fun hq0 => ?_
  have h1 : A m c ≤ (A m c * q).natAbs := by
   rw [Int.natAbs_mul]
   have : 1 ≤ q.natAbs := by omega
   have := Nat.mul_le_mul_left (A m c).natAbs this
   omega
  omega
 rw [this, Int.mul_zero] at hq
 exact hdc hq
end Go.Hp
namespace Go.Dt
open RowF
def ip (n : Nat) (u v : Nat → Int) : Int := sm n fun k => u k * v k
theorem ip_comm (n : Nat) (u v : Nat → Int) : ip n u v = ip n v u := sm_congr fun _ _ => Int.mul_comm _ _
theorem ip_congr {n : Nat} {u u' v : Nat → Int} (h : ∀ k, k < n → u k = u' k) : ip n u v = ip n u' v := sm_congr fun k hk => by rw [h k hk]
theorem ip_comb (n m : Nat) (D : Int) (u v : Nat → Int) (e : Nat → Int) (U : Nat → Nat → Int) : ip n (fun k => D * u k + sm m fun r => e r * U r k) v = D * ip n u v + sm m fun r => e r * ip n (U r) v := by
 unfold ip
 have h1 : (sm n fun k => (D * u k + sm m fun r => e r * U r k) * v k) = sm n fun k => D * (u k * v k) + sm m fun r => e r * (U r k * v k) := sm_congr fun k _ => by
  rw [Int.add_mul, Int.mul_assoc]
  refine congrArg _ ?_
  rw [Int.mul_comm, ← sm_smul]
  exact sm_congr fun r _ => by rw [Int.mul_comm (v k), Int.mul_assoc]
 rw [h1, sm_add, sm_smul, sm_swap]
 refine congrArg _ (sm_congr fun r _ => ?_)
 rw [sm_smul]
theorem sm_nonneg {f : Nat → Int} : ∀ {n : Nat}, (∀ i, i < n → 0 ≤ f i) → 0 ≤ sm n f
 | 0, _ => Int.le_refl _
 | n + 1, h => Int.add_nonneg (sm_nonneg fun i hi => h i (by omega)) (h n (by omega))
theorem sq_nonneg (x : Int) : 0 ≤ x * x := by
 rcases Int.le_total 0 x with h | h
 ·exact Int.mul_nonneg h h
 ·exact Int.mul_nonneg_of_nonpos_of_nonpos h h
theorem ip_nonneg (n : Nat) (u : Nat → Int) : 0 ≤ ip n u u := sm_nonneg fun _ _ => sq_nonneg _
theorem ip_zero {u : Nat → Int} : ∀ {n : Nat}, ip n u u = 0 → ∀ k, k < n → u k = 0
  | n + 1, h, k, hk => by
    have h1 : ip n u u + u n * u n = 0 := h
    have h2 := ip_nonneg n u
    have h3 := sq_nonneg (u n)
    rcases Nat.lt_succ_iff_lt_or_eq.1 hk with h4 | h4
    · exact ip_zero (n := n) (by omega) k h4
    · rw [h4]
      have h5 : u n * u n = 0 := by omega
      rcases Int.mul_eq_zero.1 h5 with h6 | h6 <;> exact h6
def gram (n : Nat) (A : MatF) : MatF := fun i j => ip n (A i) (A j)
def rl : Nat → List Nat
 | 0 => []
 | t + 1 => t :: rl t
theorem rl_len : ∀ t, (rl t).length = t
 | 0 => rfl
 | t + 1 => by show (rl t).length + 1 = t + 1; rw [rl_len t]
theorem rl_mem {t j : Nat} : j ∈ rl t ↔ j < t := by
  induction t with
  | zero => simp [rl]
  | succ t ih =>
    show j ∈ t :: rl t ↔ _
    rw [List.mem_cons, ih]; omega
theorem rl_at {t i : Nat} (h : i < t) : (rl t).getD i 0 = t - 1 - i := by
  induction t generalizing i with
  | zero => omega
  | succ t ih =>
    cases i with
    | zero => rfl
    | succ i => show (rl t).getD i 0 = _; rw [ih (by omega)]; omega
def gd (n : Nat) (A : MatF) (t : Nat) : Int := mn (gram n A) (rl t) (rl t)
def gw (n : Nat) (A : MatF) (t : Nat) : Nat → Int := fun k => gd n A t * A t k + sm t fun r => ec (gram n A) (rl t) (rl t) t r * A ((rl t).getD r 0) k
theorem gw_row (n : Nat) (A : MatF) (t j : Nat) : ip n (gw n A t) (A j) = mn (gram n A) (t :: rl t) (j :: rl t) := by
 rw [mn_exp, rl_len]
 exact ip_comb n t (gd n A t) (A t) (A j) (fun r => ec (gram n A) (rl t) (rl t) t r) (fun r => A ((rl t).getD r 0))
theorem gw_low (n : Nat) (A : MatF) {t j : Nat} (h : j < t) : ip n (gw n A t) (A j) = 0 := by
 rw [gw_row]; exact mn_col _ rfl _ (rl_mem.2 h)
theorem gw_self (n : Nat) (A : MatF) (t : Nat) : ip n (gw n A t) (A t) = gd n A (t + 1) := gw_row n A t t
theorem gw_sq (n : Nat) (A : MatF) (t : Nat) : ip n (gw n A t) (gw n A t) = gd n A t * gd n A (t + 1) := by
 have h := ip_comb n t (gd n A t) (A t) (gw n A t) (fun r => ec (gram n A) (rl t) (rl t) t r) (fun r => A ((rl t).getD r 0))
 have h2 : ip n (gw n A t) (gw n A t) = ip n (fun k => gd n A t * A t k + sm t fun r => ec (gram n A) (rl t) (rl t) t r * A ((rl t).getD r 0) k) (gw n A t) := rfl
 rw [h2, h, ip_comm n (A t), gw_self, sm_zero fun r hr => ?_]
 ·omega
 ·rw [ip_comm n (A _), gw_low n A (rl_mem.1 (getD_mem (by rw [rl_len]; exact hr))), Int.mul_zero]
end Go.Dt
namespace Go.Ll
open Go.Dt Go.Hp
theorem ip_add (n : Nat) (x y : Int) (u v z : Nat → Int) : ip n (fun k => x * u k + y * v k) z = x * ip n u z + y * ip n v z := by
 unfold ip
 rw [← sm_lin]
 exact sm_congr fun k _ => by grind
theorem ip_span {n t : Nat} {A : MatF} {v z : Nat → Int} (h : SpZ t n A v) (hz : ∀ r, r < t → ip n (A r) z = 0) : ip n v z = 0 := by
 obtain ⟨c, hc⟩ := h
 rw [ip_congr (u' := fun k => 0 * (0 : Int) + sm t fun r => c r * A r k) fun k hk => by rw [hc k hk]; omega]
 rw [ip_comb n t 0 (fun _ => 0) z c A, Int.zero_mul, Int.zero_add]
 exact sm_zero fun r hr => by rw [hz r hr, Int.mul_zero]
theorem span_zero {n t : Nat} {A : MatF} {v : Nat → Int} (h : SpZ t n A v) (hz : ∀ r, r < t → ip n v (A r) = 0) : ∀ k, k < n → v k = 0 :=
 ip_zero (ip_span h fun r hr => by rw [ip_comm]; exact hz r hr)
structure OD (n m : Nat) (A : MatF) (d : Nat → Int) (w : MatF) : Prop where
 d0 : d 0 = 1
 pos : ∀ t, t ≤ m → 0 < d t
 sp : ∀ t, t < m → SpZ t n A fun k => 1 * w t k + (-(d t)) * A t k
 ort : ∀ t j, t < m → j < t → ip n (w t) (A j) = 0
 nx : ∀ t, t < m → ip n (w t) (A t) = d (t + 1)
variable {n m : Nat} {A : MatF} {d : Nat → Int} {w : MatF}
theorem ip_diff (n : Nat) (u v z : Nat → Int) : ip n (fun k => u k - v k) z = ip n u z - ip n v z := by
 have := ip_add n 1 (-1) u v z
 rw [ip_congr (u' := fun k => u k - v k) fun k _ => by omega] at this
 omega
theorem ip_diff' (n : Nat) (c : Int) (u v z : Nat → Int) : ip n (fun k => u k - c * v k) z = ip n u z - c * ip n v z := by
 have := ip_add n 1 (-c) u v z
 rw [ip_congr (u' := fun k => u k - c * v k) fun k _ => by grind] at this
 rw [this]; grind
theorem OD.uniq {d' : Nat → Int} {w' : MatF} (h : OD n m A d w) (h' : OD n m A d' w') : ∀ t, t ≤ m → d t = d' t ∧ ∀ s, s < t → ∀ k, k < n → w s k = w' s k
  | 0, _ => ⟨h.d0.trans h'.d0.symm, fun s hs => absurd hs (Nat.not_lt_zero _)⟩
  | t + 1, ht => by
    obtain ⟨e, ew⟩ := OD.uniq h h' t (by omega)
    have hw : ∀ k, k < n → w t k = w' t k := fun k hk => by
      have h1 := (h.sp t (by omega)).comb 1 (-1) (h'.sp t (by omega))
      have h2 : SpZ t n A fun k => w t k - w' t k := h1.congr fun k _ => by rw [e]; grind
      have h3 := span_zero h2 (fun r hr => by rw [ip_diff, h.ort t r (by omega) hr, h'.ort t r (by omega) hr]; rfl) k hk
      omega
    refine ⟨?_, fun s hs k hk => ?_⟩
    · rw [← h.nx t (by omega), ← h'.nx t (by omega)]; exact ip_congr hw
    · rcases Nat.lt_or_ge s t with g | g
      · exact ew s g k hk
      · obtain rfl : s = t := by omega
        exact hw k hk
theorem OD.made (n m : Nat) (A : MatF) (h : ∀ t, t ≤ m → 0 < gd n A t) : OD n m A (gd n A) (gw n A) where
 d0 := by show mn _ (rl 0) (rl 0) = 1; rfl
 pos := h
 sp := fun t _ => by
  refine SpZ.congr (u := fun k => sm t fun r => ec (gram n A) (rl t) (rl t) t r * A ((rl t).getD r 0) k) (SpZ.sum _ (fun r => A ((rl t).getD r 0)) t fun r hr => ?_) fun k _ => ?_
  ·refine SpZ.row A ?_
   rw [rl_at hr]; omega
  ·unfold gw; grind
 ort := fun t j _ hj => gw_low n A hj
 nx := fun t _ => gw_self n A t
abbrev lo (n : Nat) (A w : MatF) (i j : Nat) : Int := ip n (w j) (A i)
def lsM (A : MatF) (i k : Nat) (c : Int) : MatF := fun r => if r = i then fun j => A i j - c * A k j else A r
theorem lsM_span {i k t : Nat} {c : Int} (hk : k < i) (ht : i < t) : ∀ r, r < t → SpZ t n (lsM A i k c) (A r) := fun r hr => by
 by_cases e : r = i
 ·subst e
  refine ((SpZ.row (R := t) (W := n) (lsM A r k c) hr).comb 1 c (SpZ.row (lsM A r k c) (show k < t by omega))).congr fun j _ => ?_
  unfold lsM
  rw [if_pos rfl, if_neg (show ¬ k = r by omega)]
  omega
 ·exact (SpZ.row (lsM A i k c) hr).congr fun j _ => by unfold lsM; rw [if_neg e]
theorem lsM_low {i k t : Nat} {c : Int} (ht : t ≤ i) : ∀ r, r < t → SpZ t n (lsM A i k c) (A r) := fun r hr =>
 (SpZ.row (lsM A i k c) hr).congr fun j _ => by unfold lsM; rw [if_neg (show ¬ r = i by omega)]
theorem OD.less (h : OD n m A d w) {i k : Nat} (hk : k < i) (c : Int) : OD n m (lsM A i k c) d w where
 d0 := h.d0
 pos := h.pos
 sp := fun t ht => by
  by_cases e : t = i
  ·subst e
   have h1 := (h.sp t ht).trans (lsM_low (A := A) (k := k) (c := c) (Nat.le_refl _))
   refine (h1.comb 1 (d t * c) (SpZ.row (lsM A t k c) hk)).congr fun j _ => ?_
   unfold lsM
   rw [if_pos rfl, if_neg (show ¬ k = t by omega)]
   grind
  ·have h1 : SpZ t n (lsM A i k c) fun k => 1 * w t k + (-(d t)) * A t k := (h.sp t ht).trans (by
    rcases Nat.lt_or_ge i t with g | g
    ·exact lsM_span hk g
    ·exact lsM_low g)
   exact h1.congr fun j _ => by unfold lsM; rw [if_neg e]
 ort := fun t j ht hj => by
  unfold lsM
  by_cases e : j = i
  ·subst e
   rw [if_pos rfl, ip_comm, ip_diff' n c]
   rw [ip_comm n (A j), ip_comm n (A k), h.ort t j ht hj, h.ort t k ht (by omega)]; omega
  ·rw [if_neg e]; exact h.ort t j ht hj
 nx := fun t ht => by
  unfold lsM
  by_cases e : t = i
  ·subst e
   rw [if_pos rfl, ip_comm, ip_diff' n c, ip_comm n (A t), ip_comm n (A k), h.nx t ht, h.ort t k ht hk]; omega
  ·rw [if_neg e]; exact h.nx t ht
theorem lo_less {i k j : Nat} (c : Int) : lo n (lsM A i k c) w i j = lo n A w i j - c * lo n A w k j := by
 unfold lo lsM
 rw [if_pos rfl, ip_comm, ip_diff' n c, ip_comm n (A i), ip_comm n (A k)]
theorem lo_less_ne {i k j r : Nat} (c : Int) (h : r ≠ i) : lo n (lsM A i k c) w r j = lo n A w r j := by
 unfold lo lsM; rw [if_neg h]
/-! ### a row and the one ahead in each other's places -/
theorem gw_span (n : Nat) (A : MatF) (t : Nat) : SpZ t n A fun k => 1 * gw n A t k + (-(gd n A t)) * A t k := by
 refine SpZ.congr (u := fun k => sm t fun r => ec (gram n A) (rl t) (rl t) t r * A ((rl t).getD r 0) k) (SpZ.sum _ (fun r => A ((rl t).getD r 0)) t fun r hr => ?_) fun k _ => ?_
 ·refine SpZ.row A ?_
  rw [rl_at hr]; omega
 ·unfold gw; grind
theorem gd_congr {B : MatF} {t : Nat} (h : ∀ r, r < t → A r = B r) : gd n A t = gd n B t := by
 unfold gd mn
 refine det_congr fun i j hi hj => ?_
 rw [rl_len] at hi hj
 unfold sub gram
 rw [rl_at hi, rl_at hj, h _ (by omega), h _ (by omega)]
theorem SpZ.last {t : Nat} {v : Nat → Int} (h : SpZ (t + 1) n A v) : ∃ c : Int, SpZ t n A fun k => 1 * v k + (-c) * A t k := by
 obtain ⟨c, hc⟩ := h
 refine ⟨c t, c, fun k hk => ?_⟩
 show 1 * v k + (-(c t)) * A t k = _
 rw [hc k hk]
 show 1 * (sm t (fun i => c i * A i k) + c t * A t k) + (-(c t)) * A t k = _
 grind
theorem SpZ.more {t t' : Nat} {v : Nat → Int} (h : SpZ t n A v) (ht : t ≤ t') : SpZ t' n A v := h.trans fun i hi => SpZ.row A (by omega)
def swM (A : MatF) (s : Nat) : MatF := fun r => if r = s + 1 then A s else if r = s then A (s + 1) else A r
theorem swM_s (A : MatF) (s : Nat) : swM A s s = A (s + 1) := by unfold swM; rw [if_neg (by omega), if_pos rfl]
theorem swM_t (A : MatF) (s : Nat) : swM A s (s + 1) = A s := by unfold swM; rw [if_pos rfl]
theorem swM_ne (A : MatF) {s r : Nat} (h : r ≠ s) (h' : r ≠ s + 1) : swM A s r = A r := by unfold swM; rw [if_neg h', if_neg h]
theorem OD.low (h : OD n m A d w) {t j : Nat} (ht : t < m) (hj : j < t) : ip n (w t) (w j) = 0 := by
 have h1 := h.sp j (by omega)
 have h2 : SpZ t n A (w j) := ((SpZ.more h1 (show j ≤ t by omega)).comb 1 (d j) (SpZ.row A hj)).congr fun k _ => by grind
 rw [ip_comm]
 exact ip_span h2 fun r hr => by rw [ip_comm]; exact h.ort t r ht hr
theorem OD.head (h : OD n m A d w) {s : Nat} (hs : s + 1 < m) : SpZ s n A fun k => 1 * w (s + 1) k + (-1) * (d (s + 1) * A (s + 1) k - lo n A w (s + 1) s * A s k) := by
 obtain ⟨c, hc⟩ := SpZ.last (h.sp (s + 1) hs)
 have h0 := h.low hs (Nat.lt_succ_self s)
 have e := ip_span (z := w s) hc fun r hr => by rw [ip_comm]; exact h.ort s r (by omega) hr
 have e1 := ip_add n 1 (-c) (fun k => 1 * w (s + 1) k + (-(d (s + 1))) * A (s + 1) k) (A s) (w s)
 rw [e, ip_add n 1 (-(d (s + 1))) (w (s + 1)) (A (s + 1)) (w s), h0, ip_comm n (A s), h.nx s (by omega), ip_comm n (A (s + 1))] at e1
 have hp := h.pos (s + 1) (by omega)
 have hl : c = -(lo n A w (s + 1) s) := by
  have : d (s + 1) * (c + lo n A w (s + 1) s) = 0 := by
   show d (s + 1) * (c + ip n (w s) (A (s + 1))) = 0
   grind
  rcases Int.mul_eq_zero.1 this with g | g <;> omega
 refine hc.congr fun k _ => ?_
 rw [hl]; grind
theorem swM_span {t s : Nat} (ht : s + 1 < t ∨ t ≤ s) : ∀ r, r < t → SpZ t n (swM A s) (A r) := fun r hr => by
 by_cases e1 : r = s
 ·subst e1
  exact (SpZ.row (swM A r) (show r + 1 < t by omega)).congr fun k _ => by rw [swM_t]
 ·by_cases e2 : r = s + 1
  ·subst e2
   exact (SpZ.row (swM A s) (show s < t by omega)).congr fun k _ => by rw [swM_s]
  ·exact (SpZ.row (swM A s) hr).congr fun k _ => by rw [swM_ne A e1 e2]
theorem OD.swap (h : OD n m A d w) (hm : ∀ t, t ≤ m → gd n A t = d t) {s : Nat} (hs : s + 1 < m) : ∃ (e : Int) (W W2 : Nat → Int), d (s + 1) * e = d s * d (s + 2) + lo n A w (s + 1) s * lo n A w (s + 1) s ∧
  (∀ j, j < n → d (s + 1) * W j = d s * w (s + 1) j + lo n A w (s + 1) s * w s j) ∧ (∀ j, j < n → d (s + 1) * W2 j = d (s + 2) * w s j + (-(lo n A w (s + 1) s)) * w (s + 1) j) ∧
  OD n m (swM A s) (fun t => if t = s + 1 then e else d t) (fun t => if t = s then W else if t = s + 1 then W2 else w t) := by
 obtain ⟨l, hl⟩ : ∃ l, l = lo n A w (s + 1) s := ⟨_, rfl⟩
 obtain ⟨W, hW⟩ : ∃ W, W = gw n (swM A s) s := ⟨_, rfl⟩
 obtain ⟨W2, hW2⟩ : ∃ W2, W2 = gw n (swM A s) (s + 1) := ⟨_, rfl⟩
 have hds := h.pos s (by omega)
 have hd1 := h.pos (s + 1) (by omega)
 have hd2 := h.pos (s + 2) (by omega)
 have hg : gd n (swM A s) s = d s := by rw [← hm s (by omega)]; exact gd_congr fun r hr => swM_ne A (by omega) (by omega)
 have hhead := h.head hs
 rw [← hl] at hhead
 have hlow : ∀ r, r < s → ip n W (A r) = 0 := fun r hr => by
  have := gw_low n (swM A s) hr
  rwa [← hW, swM_ne A (by omega) (by omega)] at this
 -- the first
 have hWs : SpZ s n A fun k => 1 * W k + (-(d s)) * A (s + 1) k := by
  have := gw_span n (swM A s) s
  rw [← hW, hg, swM_s] at this
  exact this.trans fun r hr => (SpZ.row A hr).congr fun k _ => by rw [swM_ne A (by omega) (by omega)]
 have hws := h.sp s (by omega)
 have hX : ∀ j, j < n → d (s + 1) * W j = d s * w (s + 1) j + l * w s j := by
  have x1 := ((hWs.comb (d (s + 1)) (-(d s)) hhead).comb 1 (-l) hws)
  have x2 : SpZ s n A fun k => d (s + 1) * W k - (d s * w (s + 1) k + l * w s k) := x1.congr fun k _ => by grind
  have x3 := span_zero x2 fun r hr => by
   rw [ip_diff, ip_add, h.ort (s + 1) r (by omega) (by omega), h.ort s r (by omega) hr]
   have := ip_add n (d (s + 1)) 0 W W (A r)
   rw [hlow r hr] at this
   rw [ip_congr (u' := fun k => d (s + 1) * W k + 0 * W k) fun k _ => by omega, this]; omega
  intro j hj
  have := x3 j hj
  omega
 obtain ⟨e, he⟩ : ∃ e, e = ip n W (A (s + 1)) := ⟨_, rfl⟩
 have hip : ∀ z : Nat → Int, d (s + 1) * ip n W z = d s * ip n (w (s + 1)) z + l * ip n (w s) z := fun z => by
  rw [← ip_add]
  have := ip_add n (d (s + 1)) 0 W W z
  rw [show d (s + 1) * ip n W z = d (s + 1) * ip n W z + 0 * ip n W z by omega, ← this]
  exact ip_congr fun k hk => by rw [← hX k hk]; omega
 have hde : d (s + 1) * e = d s * d (s + 2) + l * l := by
  rw [he, hip, h.nx (s + 1) (by omega)]
  show _ + l * lo n A w (s + 1) s = _
  rw [← hl]
 have he0 : 0 < e := by
  have h1 := Int.mul_pos hds hd2
  have h2 := sq_nonneg l
  rcases Int.lt_or_le 0 e with g | g
  ·exact g
  ·have := Int.mul_le_mul_of_nonneg_left g (show (0 : Int) ≤ d (s + 1) by omega)
   rw [Int.mul_zero] at this; omega
 have hge : gd n (swM A s) (s + 1) = e := by rw [he, ← gw_self, ← hW, swM_s]
 -- the second
 have hlow2 : ∀ r, r < s + 1 → ip n W2 (swM A s r) = 0 := fun r hr => by rw [hW2]; exact gw_low n (swM A s) hr
 have hup : ∀ v : Nat → Int, SpZ s n A v → SpZ (s + 1) n (swM A s) v := fun v hv => hv.trans fun r hr => (SpZ.row (swM A s) (show r < s + 1 by omega)).congr fun k _ => by rw [swM_ne A (by omega) (by omega)]
 have hnew : SpZ (s + 1) n (swM A s) (A (s + 1)) := (SpZ.row (swM A s) (show s < s + 1 by omega)).congr fun k _ => by rw [swM_s]
 have hX2 : ∀ j, j < n → d (s + 1) * W2 j = d (s + 2) * w s j + (-l) * w (s + 1) j := by
  have x0 := gw_span n (swM A s) (s + 1)
  rw [← hW2, hge, swM_t] at x0
  have x1 := (x0.comb (d (s + 1)) (-(d (s + 2))) (hup _ hws)).comb 1 l (hup _ hhead)
  have x2 : SpZ (s + 1) n (swM A s) fun k => d (s + 1) * W2 k - (d (s + 2) * w s k + (-l) * w (s + 1) k) := (x1.comb 1 (l * d (s + 1)) hnew).congr fun k _ => by
   have : e * d (s + 1) = d s * d (s + 2) + l * l := by rw [← hde, Int.mul_comm]
   grind
  have x3 := span_zero x2 fun r hr => by
   have a1 := ip_add n (d (s + 1)) 0 W2 W2 (swM A s r)
   rw [hlow2 r hr] at a1
   rw [ip_diff, ip_add, ip_congr (u' := fun k => d (s + 1) * W2 k + 0 * W2 k) fun k _ => by omega, a1]
   by_cases g : r = s
   ·subst g
    rw [swM_s, h.nx (r + 1) (by omega)]
    have : ip n (w r) (A (r + 1)) = l := hl.symm
    rw [this]; grind
   ·rw [swM_ne A g (by omega), h.ort (s + 1) r (by omega) (by omega), h.ort s r (by omega) (by omega)]; omega
  intro j hj
  have := x3 j hj
  omega
 have hip2 : ∀ z : Nat → Int, d (s + 1) * ip n W2 z = d (s + 2) * ip n (w s) z + (-l) * ip n (w (s + 1)) z := fun z => by
  rw [← ip_add]
  have := ip_add n (d (s + 1)) 0 W2 W2 z
  rw [show d (s + 1) * ip n W2 z = d (s + 1) * ip n W2 z + 0 * ip n W2 z by omega, ← this]
  exact ip_congr fun k hk => by rw [← hX2 k hk]; omega
 refine ⟨e, W, W2, by rw [← hl]; exact hde, by rw [← hl]; exact hX, by rw [← hl]; exact hX2, ?_⟩
 refine { d0 := ?_, pos := fun t ht => ?_, sp := fun t ht => ?_, ort := fun t j ht hj => ?_, nx := fun t ht => ?_ }
 ·show (if 0 = s + 1 then e else d 0) = 1
  rw [if_neg (by omega)]; exact h.d0
 ·show 0 < if t = s + 1 then e else d t
  split
  ·exact he0
  ·exact h.pos t ht
 ·by_cases g1 : t = s
  ·subst g1
   simp only [if_true, if_neg (show ¬ t = t + 1 by omega), swM_s]
   exact hWs.trans fun r hr => (SpZ.row (swM A t) hr).congr fun k _ => by rw [swM_ne A (by omega) (by omega)]
  ·by_cases g2 : t = s + 1
   ·subst g2
    simp only [if_true, if_neg g1, swM_t]
    have x0 := gw_span n (swM A s) (s + 1)
    rw [← hW2, hge, swM_t] at x0
    exact x0
   ·simp only [if_neg g1, if_neg g2, swM_ne A g1 g2]
    exact (h.sp t ht).trans (swM_span (by omega))
 ·by_cases g1 : t = s
  ·subst g1
   simp only [if_true, swM_ne A (show j ≠ t by omega) (show j ≠ t + 1 by omega)]
   exact hlow j hj
  ·by_cases g2 : t = s + 1
   ·subst g2
    simp only [if_true, if_neg g1]
    exact hlow2 j hj
   ·simp only [if_neg g1, if_neg g2]
    by_cases g3 : j = s
    ·subst g3; rw [swM_s]; exact h.ort t _ ht (by omega)
    ·by_cases g4 : j = s + 1
     ·subst g4; rw [swM_t]; exact h.ort t _ ht (by omega)
     ·rw [swM_ne A g3 g4]; exact h.ort t j ht hj
 ·by_cases g1 : t = s
  ·subst g1
   simp only [if_true, swM_s]
   exact he.symm
  ·by_cases g2 : t = s + 1
   ·subst g2
    simp only [if_true, if_neg g1, swM_t, if_neg (show ¬ s + 1 + 1 = s + 1 by omega)]
    have := hip2 (A s)
    rw [h.nx s (by omega), h.ort (s + 1) s (by omega) (by omega)] at this
    have h5 : d (s + 1) * (ip n W2 (A s) - d (s + 2)) = 0 := by grind
    rcases Int.mul_eq_zero.1 h5 with g | g
    ·omega
    ·show ip n W2 (A s) = d (s + 2); omega
   ·simp only [if_neg g1, if_neg g2, swM_ne A g1 g2, if_neg (show ¬ t + 1 = s + 1 by omega)]
    exact h.nx t ht
end Go.Ll
namespace Go.Ll
open Go.Dt Go.Hp
variable {n m : Nat} {A : MatF} {d : Nat → Int} {w : MatF}
theorem OD.swap_lo (h : OD n m A d w) (hm : ∀ t, t ≤ m → gd n A t = d t) {s : Nat} (hs : s + 1 < m) : ∃ (e : Int) (w' : MatF), d (s + 1) * e = d s * d (s + 2) + lo n A w (s + 1) s * lo n A w (s + 1) s ∧ 0 < e ∧
  OD n m (swM A s) (fun t => if t = s + 1 then e else d t) w' ∧ lo n (swM A s) w' (s + 1) s = lo n A w (s + 1) s ∧
  (∀ j, j < s → lo n (swM A s) w' (s + 1) j = lo n A w s j ∧ lo n (swM A s) w' s j = lo n A w (s + 1) j) ∧
  (∀ i j, i ≠ s → i ≠ s + 1 → j ≠ s → j ≠ s + 1 → lo n (swM A s) w' i j = lo n A w i j) ∧
  ∀ i, i ≠ s → i ≠ s + 1 → d (s + 1) * lo n (swM A s) w' i (s + 1) = d (s + 2) * lo n A w i s - lo n A w (s + 1) s * lo n A w i (s + 1) ∧ d (s + 2) * lo n (swM A s) w' i s = e * lo n A w i (s + 1) + lo n A w (s + 1) s * lo n (swM A s) w' i (s + 1) := by
 obtain ⟨e, W, W2, h1, h2, h3, h4⟩ := h.swap hm hs
 have hd0 := h.pos s (by omega)
 have hd1 := h.pos (s + 1) (by omega)
 have hd2 := h.pos (s + 2) (by omega)
 have he : 0 < e := by have := h4.pos (s + 1) (by omega); simpa using this
 have hip : ∀ (V : Nat → Int) (a x y : Int) (p q z : Nat → Int), (∀ j, j < n → a * V j = x * p j + y * q j) → a * ip n V z = x * ip n p z + y * ip n q z := fun V a x y p q z hV => by
  rw [← ip_add]
  have := ip_add n a 0 V V z
  rw [show a * ip n V z = a * ip n V z + 0 * ip n V z by omega, ← this]
  exact ip_congr fun k hk => by rw [← hV k hk]; omega
 refine ⟨e, _, h1, he, h4, ?_, fun j hj => ⟨?_, ?_⟩, fun i j i1 i2 j1 j2 => ?_, fun i i1 i2 => ?_⟩
 ·unfold lo
  simp only [if_true, swM_t]
  have := hip W _ _ _ _ _ (A s) h2
  rw [h.ort (s + 1) s (by omega) (by omega), h.nx s (by omega)] at this
  have h5 : d (s + 1) * (ip n W (A s) - ip n (w s) (A (s + 1))) = 0 := by
   have e1 : lo n A w (s + 1) s = ip n (w s) (A (s + 1)) := rfl
   rw [e1] at this
   grind
  rcases Int.mul_eq_zero.1 h5 with g | g <;> omega
 ·unfold lo; simp only [if_neg (show ¬ j = s by omega), if_neg (show ¬ j = s + 1 by omega), swM_t]
 ·unfold lo; simp only [if_neg (show ¬ j = s by omega), if_neg (show ¬ j = s + 1 by omega), swM_s]
 ·unfold lo; simp only [if_neg j1, if_neg j2, swM_ne A i1 i2]
 ·have e1 : lo n (swM A s) (fun t => if t = s then W else if t = s + 1 then W2 else w t) i (s + 1) = ip n W2 (A i) := by
   unfold lo; simp only [if_true, if_neg (show ¬ s + 1 = s by omega), swM_ne A i1 i2]
  have e2 : lo n (swM A s) (fun t => if t = s then W else if t = s + 1 then W2 else w t) i s = ip n W (A i) := by
   unfold lo; simp only [if_true, swM_ne A i1 i2]
  rw [e1, e2]
  have x1 : d (s + 1) * ip n W2 (A i) = d (s + 2) * lo n A w i s + (-(lo n A w (s + 1) s)) * lo n A w i (s + 1) := hip W2 _ _ _ _ _ (A i) h3
  have x2 : d (s + 1) * ip n W (A i) = d s * lo n A w i (s + 1) + lo n A w (s + 1) s * lo n A w i s := hip W _ _ _ _ _ (A i) h2
  generalize ip n W2 (A i) = P2 at *
  generalize ip n W (A i) = P1 at *
  generalize lo n A w i s = a at *
  generalize lo n A w i (s + 1) = b at *
  generalize lo n A w (s + 1) s = l at *
  refine ⟨by rw [x1]; grind, ?_⟩
  have h5 : d (s + 1) * (d (s + 2) * P1 - (e * b + l * P2)) = 0 := by
   have y1 : d (s + 1) * (d (s + 2) * P1) = d (s + 2) * (d s * b + l * a) := by rw [← x2]; grind
   have y2 : d (s + 1) * (l * P2) = l * (d (s + 2) * a + -l * b) := by rw [← x1]; grind
   have y3 : d (s + 1) * (e * b) = (d s * d (s + 2) + l * l) * b := by rw [← h1]; grind
   grind
  rcases Int.mul_eq_zero.1 h5 with g | g <;> omega
theorem OD.gd (h : OD n m A d w) : ∀ t, t ≤ m → gd n A t = d t
  | 0, _ => h.d0.symm
  | t + 1, ht => by
    have e := OD.gd h t (by omega)
    have x1 := (gw_span n A t).comb 1 (-1) (h.sp t (by omega))
    have x2 : SpZ t n A fun k => gw n A t k - w t k := x1.congr fun k _ => by rw [e]; grind
    have x3 := span_zero x2 fun r hr => by rw [ip_diff, h.ort t r (by omega) hr, gw_low n A hr]; rfl
    rw [← gw_self, ← h.nx t (by omega)]
    exact ip_congr fun k hk => by have := x3 k hk; omega
/-! ### sizes -/
theorem cauchy (n : Nat) (u v : Nat → Int) : ip n u v * ip n u v ≤ ip n u u * ip n v v := by
 have hv := ip_nonneg n v
 rcases Int.lt_or_le 0 (ip n v v) with g | g
 ·have x0 : ∀ a b : Int, 0 ≤ a * (a * ip n u u + (-b) * ip n u v) + (-b) * (a * ip n u v + (-b) * ip n v v) := fun a b => by
   have x1 := ip_nonneg n fun k => a * u k + (-b) * v k
   rw [ip_add n a (-b) u v (fun k => a * u k + (-b) * v k), ip_comm n u (fun k => a * u k + (-b) * v k), ip_comm n v (fun k => a * u k + (-b) * v k), ip_add n a (-b) u v u, ip_add n a (-b) u v v, ip_comm n v u] at x1
   exact x1
  have x2 : 0 ≤ ip n v v * (ip n u u * ip n v v - ip n u v * ip n u v) := by
   have x1 := x0 (ip n v v) (ip n u v)
   generalize ip n u v = b at *
   generalize ip n v v = a at *
   generalize ip n u u = c at *
   have : a * (a * c + -b * b) + -b * (a * b + -b * a) = a * (c * a - b * b) := by grind
   omega
  rcases Int.lt_or_le (ip n u u * ip n v v - ip n u v * ip n u v) 0 with k | k
  ·have := Int.mul_lt_mul_of_pos_left k g
   rw [Int.mul_zero] at this; omega
  ·omega
 ·have h0 := ip_zero (show ip n v v = 0 by omega)
  have : ip n u v = 0 := by rw [ip_comm, ip_congr (u' := fun _ => 0) h0]; exact sm_zero fun _ _ => Int.zero_mul _
  rw [this, show ip n v v = 0 by omega]; omega
theorem OD.sq (h : OD n m A d w) {t : Nat} (ht : t < m) : ip n (w t) (w t) = d t * d (t + 1) := by
 have h1 := h.sp t ht
 have e := ip_span (z := w t) h1 fun r hr => by rw [ip_comm]; exact h.ort t r ht hr
 rw [ip_add, ip_comm n (A t), h.nx t ht] at e
 generalize ip n (w t) (w t) = x at *
 grind
theorem OD.lo_le (h : OD n m A d w) {i j : Nat} (hj : j < m) : lo n A w i j * lo n A w i j ≤ d j * d (j + 1) * ip n (A i) (A i) := by
 rw [← h.sq hj]; exact cauchy n (w j) (A i)
end Go.Ll
namespace Go.Ll
open Go.Dt Go.Hp
variable {n m : Nat} {A : MatF} {d : Nat → Int} {w : MatF}
def pP (d : Nat → Int) : Nat → Int
 | 0 => 1
 | t + 1 => d t * d (t + 1) * pP d t
def vP (n : Nat) (A : MatF) (d : Nat → Int) (w : MatF) (i : Nat) : Nat → Nat → Int
 | 0 => A i
 | t + 1 => fun k => (d t * d (t + 1)) * vP n A d w i t k + (-(pP d t * lo n A w i t)) * w t k
theorem vP_w (h : OD n m A d w) (i : Nat) : ∀ t s, t ≤ s → s < m → ip n (vP n A d w i t) (w s) = pP d t * lo n A w i s
  | 0, s, _, _ => by show ip n (A i) (w s) = 1 * ip n (w s) (A i); rw [ip_comm]; omega
  | t + 1, s, hs, hm => by
    show ip n (fun k => (d t * d (t + 1)) * vP n A d w i t k + (-(pP d t * lo n A w i t)) * w t k) (w s) = d t * d (t + 1) * pP d t * _
    rw [ip_add, vP_w h i t s (by omega) hm, ip_comm n (w t), h.low hm (by omega)]
    grind
theorem vP_sp (h : OD n m A d w) (i : Nat) : ∀ t, t ≤ m → SpZ t n A fun k => 1 * vP n A d w i t k + (-(pP d t)) * A i k
  | 0, _ => ⟨fun _ => 0, fun k _ => by show 1 * A i k + (-(1 : Int)) * A i k = 0; omega⟩
  | t + 1, ht => by
    have h1 := SpZ.more (vP_sp h i t (by omega)) (Nat.le_succ t)
    have h2 : SpZ (t + 1) n A (w t) := ((SpZ.more (h.sp t (by omega)) (Nat.le_succ t)).comb 1 (d t) (SpZ.row A (Nat.lt_succ_self t))).congr fun k _ => by grind
    refine (h1.comb (d t * d (t + 1)) (-(pP d t * lo n A w i t)) h2).congr fun k _ => ?_
    show 1 * ((d t * d (t + 1)) * vP n A d w i t k + (-(pP d t * lo n A w i t)) * w t k) + (-(d t * d (t + 1) * pP d t)) * A i k = _
    grind
theorem vP_ort (h : OD n m A d w) (i : Nat) : ∀ t r, t ≤ m → r < t → ip n (vP n A d w i t) (A r) = 0
  | 0, r, _, hr => absurd hr (Nat.not_lt_zero _)
  | t + 1, r, ht, hr => by
    show ip n (fun k => (d t * d (t + 1)) * vP n A d w i t k + (-(pP d t * lo n A w i t)) * w t k) (A r) = 0
    rw [ip_add]
    rcases Nat.lt_or_ge r t with g | g
    · rw [vP_ort h i t r (by omega) g, h.ort t r (by omega) g]; omega
    · obtain rfl : r = t := by omega
      have e := ip_span (z := vP n A d w i r) (h.sp r (by omega)) fun q hq => by rw [ip_comm]; exact vP_ort h i r q (by omega) hq
      rw [ip_add, ip_comm n (w r), vP_w h i r r (Nat.le_refl _) (by omega), ip_comm n (A r)] at e
      rw [h.nx r (by omega)]
      generalize ip n (vP n A d w i r) (A r) = x at *
      generalize lo n A w i r = l at *
      grind
theorem vP_sq (h : OD n m A d w) (i : Nat) {t : Nat} (ht : t < m) : ip n (vP n A d w i (t + 1)) (vP n A d w i (t + 1)) + (d t * d (t + 1)) * (pP d t * pP d t * (lo n A w i t * lo n A w i t)) = (d t * d (t + 1)) * (d t * d (t + 1)) * ip n (vP n A d w i t) (vP n A d w i t) := by
 have e : ∀ z, ip n (vP n A d w i (t + 1)) z = (d t * d (t + 1)) * ip n (vP n A d w i t) z + (-(pP d t * lo n A w i t)) * ip n (w t) z := fun z => ip_add n _ _ _ _ z
 have a1 := vP_w h i t t (Nat.le_refl _) ht
 have a2 := h.sq ht
 rw [e, ip_comm n (vP n A d w i t) (vP n A d w i (t + 1)), ip_comm n (w t) (vP n A d w i (t + 1)), e, e, ip_comm n (w t) (vP n A d w i t), a1, a2]
 generalize ip n (vP n A d w i t) (vP n A d w i t) = x
 generalize lo n A w i t = l
 generalize d t * d (t + 1) = D
 generalize pP d t = p
 grind
theorem vP_top (h : OD n m A d w) {i : Nat} (hi : i < m) : d i * ip n (vP n A d w i i) (vP n A d w i i) = pP d i * pP d i * d (i + 1) := by
 have x1 := ((vP_sp h i i (by omega)).comb (d i) (-(pP d i)) (h.sp i hi))
 have x2 : SpZ i n A fun k => d i * vP n A d w i i k + (-(pP d i)) * w i k := x1.congr fun k _ => by grind
 have x3 := span_zero x2 fun r hr => by rw [ip_add, vP_ort h i i r (by omega) hr, h.ort i r hi hr]; omega
 have a1 := vP_w h i i i (Nat.le_refl _) hi
 have a2 := ip_add n (d i) (-(pP d i)) (vP n A d w i i) (w i) (vP n A d w i i)
 have a3 : ip n (fun k => d i * vP n A d w i i k + (-(pP d i)) * w i k) (vP n A d w i i) = 0 := by
  rw [ip_congr (u' := fun _ => 0) x3]; exact sm_zero fun _ _ => Int.zero_mul _
 rw [a3, ip_comm n (w i), a1] at a2
 have a4 : lo n A w i i = d (i + 1) := h.nx i hi
 rw [a4] at a2
 grind
theorem red_go (h : OD n m A d w) {i : Nat} (hi : i < m) {D : Int} (hD : ∀ t, t ≤ m → d t ≤ D) (hr : ∀ j, j < i → lo n A w i j * lo n A w i j ≤ d (j + 1) * d (j + 1)) : ∀ q t, t + q = i → ip n (vP n A d w i t) (vP n A d w i t) ≤ pP d t * pP d t * (((q + 1 : Nat) : Int) * D)
  | 0, t, e => by
    obtain rfl : t = i := by omega
    have x1 := vP_top h hi
    have hp := h.pos t (by omega)
    have hn := ip_nonneg n (vP n A d w t t)
    have h2 : pP d t * pP d t * d (t + 1) ≤ pP d t * pP d t * D := Int.mul_le_mul_of_nonneg_left (hD (t + 1) hi) (sq_nonneg _)
    have h3 : 1 * ip n (vP n A d w t t) (vP n A d w t t) ≤ d t * ip n (vP n A d w t t) (vP n A d w t t) := Int.mul_le_mul_of_nonneg_right (by omega) hn
    rw [show (((0 + 1 : Nat) : Int)) * D = D by show 1 * D = D; omega]
    omega
  | q + 1, t, e => by
    have ih := red_go h hi hD hr q (t + 1) (by omega)
    have x1 := vP_sq h i (t := t) (by omega)
    have h0 := h.pos t (by omega)
    have h1 := h.pos (t + 1) (by omega)
    have hlo := hr t (by omega)
    have hDt := hD (t + 1) (by omega)
    have hpp := sq_nonneg (pP d t)
    have b1 : d (t + 1) * d (t + 1) ≤ d t * d (t + 1) * D := by
      have c1 : 1 * d (t + 1) ≤ d t * d (t + 1) := Int.mul_le_mul_of_nonneg_right (by omega) (by omega)
      have c2 : d (t + 1) * d (t + 1) ≤ d t * d (t + 1) * d (t + 1) := Int.mul_le_mul_of_nonneg_right (by omega) (by omega)
      have c3 : d t * d (t + 1) * d (t + 1) ≤ d t * d (t + 1) * D := Int.mul_le_mul_of_nonneg_left hDt (Int.le_of_lt (Int.mul_pos h0 h1))
      omega
    have hE := Int.mul_pos h0 h1
    show _ ≤ _
    have ePP : pP d (t + 1) = d t * d (t + 1) * pP d t := rfl
    rw [ePP] at ih
    generalize d t * d (t + 1) = E at *
    generalize ip n (vP n A d w i t) (vP n A d w i t) = x at *
    generalize ip n (vP n A d w i (t + 1)) (vP n A d w i (t + 1)) = y at *
    generalize lo n A w i t * lo n A w i t = l2 at *
    have b2 : pP d t * pP d t * l2 ≤ pP d t * pP d t * (E * D) := Int.mul_le_mul_of_nonneg_left (by omega) hpp
    generalize pP d t = p at *
    have b3 : E * (p * p * l2) ≤ E * (p * p * (E * D)) := Int.mul_le_mul_of_nonneg_left b2 (by omega)
    have b4 : E * E * x ≤ E * E * (p * p * (((q + 1 + 1 : Nat) : Int) * D)) := by
      have z1 : E * E * (p * p * (((q + 1 + 1 : Nat) : Int) * D)) = E * p * (E * p) * (((q + 1 : Nat) : Int) * D) + E * (p * p * (E * D)) := by
        rw [show ((q + 1 + 1 : Nat) : Int) = ((q + 1 : Nat) : Int) + 1 by omega]; grind
      omega
    exact Int.le_of_mul_le_mul_left b4 (Int.mul_pos hE hE)
theorem OD.short (h : OD n m A d w) {i : Nat} (hi : i < m) {D : Int} (hD : ∀ t, t ≤ m → d t ≤ D) (hr : ∀ j, j < i → lo n A w i j * lo n A w i j ≤ d (j + 1) * d (j + 1)) : ip n (A i) (A i) ≤ ((i + 1 : Nat) : Int) * D := by
 have := red_go h hi hD hr i 0 (by omega)
 have e : pP d 0 * pP d 0 * (((i + 1 : Nat) : Int) * D) = ((i + 1 : Nat) : Int) * D := by show 1 * 1 * _ = _; omega
 rw [e] at this
 exact this
end Go.Ll
namespace Go.Ll
open Go.Dt Go.Hp Go.Pz Go.En Go.Nt
def mL (L : List (List Int)) : MatF := fun i j => cf (L.getD i []) j
def uB (R : Nat) (U : List (List Int)) (B : MatF) : MatF := fun i k => sm R fun r => mL U i r * B r k
theorem mL_set {L : List (List Int)} {i : Nat} {r : List Int} (hi : i < L.length) (t j : Nat) : mL (L.set i r) t j = if t = i then cf r j else mL L t j := by
 unfold mL
 rw [List.getD_eq_getElem?_getD]
 by_cases e : t = i
 ·subst e; rw [List.getElem?_set_self hi, if_pos rfl]; rfl
 ·rw [List.getElem?_set_ne (by omega), if_neg e, List.getD_eq_getElem?_getD]
theorem mL_at {L : List (List Int)} {i : Nat} {r : List Int} (h : L[i]? = some r) (j : Nat) : mL L i j = cf r j := by
 unfold mL; rw [List.getD_eq_getElem?_getD, h]; rfl
structure LI (n R : Nat) (B : MatF) (ds : List Int) (L U : List (List Int)) (w : MatF) : Prop where
 hL : L.length = R
 hU : U.length = R
 od : OD n R (uB R U B) (cf ds) w
 hlo : ∀ i j, i < R → j < i → mL L i j = lo n (uB R U B) w i j
variable {n R : Nat} {B : MatF} {ds : List Int} {L U : List (List Int)} {w : MatF}
theorem uB_less {i k : Nat} {q qk : List Int} {c : Int} (hi : U[i]? = some q) (hk : U[k]? = some qk) : uB R (U.set i (lesU R q qk c)) B = lsM (uB R U B) i k c := by
 have hil : i < U.length := by
  rcases Nat.lt_or_ge i U.length with g | g
  ·exact g
  ·rw [List.getElem?_eq_none g] at hi; cases hi
 funext t j
 unfold lsM
 by_cases e : t = i
 ·subst e
  rw [if_pos rfl]
  show (sm R fun r => mL (U.set t (lesU R q qk c)) t r * B r j) = (sm R fun r => mL U t r * B r j) - c * sm R fun r => mL U k r * B r j
  have h1 := sm_lin 1 (-c) (fun r => mL U t r * B r j) (fun r => mL U k r * B r j) R
  have h2 : (sm R fun r => mL (U.set t (lesU R q qk c)) t r * B r j) = sm R fun r => 1 * (mL U t r * B r j) + (-c) * (mL U k r * B r j) := sm_congr fun r hr => by
   rw [mL_set hil, if_pos rfl, mL_at hi, mL_at hk]
   unfold lesU
   rw [stL_cf hr, if_pos hr]
   grind
  rw [h2, h1]; grind
 ·rw [if_neg e]
  exact sm_congr fun r _ => by rw [mL_set hil, if_neg e]
theorem LI.less (h : LI n R B ds L U w) {i k : Nat} {r rk q qk : List Int} {c : Int} (hi : L[i]? = some r) (hrk : L[k]? = some rk) (hq : U[i]? = some q) (hqk : U[k]? = some qk) (hr : r.length = R) (hki : k < i) :
  LI n R B ds (L.set i (lesL R k r rk c (cf r k - c * cf ds (k + 1)))) (U.set i (lesU R q qk c)) w := by
 have hil : i < L.length := by
  rcases Nat.lt_or_ge i L.length with g | g
  ·exact g
  ·rw [List.getElem?_eq_none g] at hi; cases hi
 have hiR : i < R := by rw [← h.hL]; exact hil
 refine ⟨by rw [List.length_set]; exact h.hL, by rw [List.length_set]; exact h.hU, ?_, fun t j ht hj => ?_⟩
 ·rw [uB_less hq hqk]; exact h.od.less hki c
 ·rw [uB_less hq hqk, mL_set hil]
  by_cases e : t = i
  ·subst e
   rw [if_pos rfl, lo_less]
   have h1 := h.hlo t j ht hj
   rw [mL_at hi] at h1
   unfold lesL
   rw [stL_cf (by omega), ← h1]
   by_cases g : j < k
   ·have h2 := h.hlo k j (by omega) g
    rw [mL_at hrk] at h2
    rw [if_pos g, ← h2, cf_set_ne (by omega)]
   ·rw [if_neg g]
    by_cases g2 : j = k
    ·subst g2
     have h3 : lo n (uB R U B) w j j = cf ds (j + 1) := h.od.nx j (by omega)
     rw [h3]
     unfold cf
     rw [List.getD_eq_getElem?_getD, List.getElem?_set_self (by omega)]; rfl
    ·have h3 : lo n (uB R U B) w k j = 0 := h.od.ort j k (by omega) (by omega)
     rw [h3, cf_set_ne (by omega)]; omega
  ·rw [if_neg e, lo_less_ne c e]; exact h.hlo t j ht hj
theorem rnd_small (x : Int) {d : Int} (h : 0 < d) : -d ≤ 2 * (x - rndZ x d * d) ∧ 2 * (x - rndZ x d * d) < d := by
 unfold rndZ
 have h1 := Int.mul_ediv_add_emod (x + x + d) (d + d)
 have h2 := Int.emod_nonneg (x + x + d) (show d + d ≠ 0 by omega)
 have h3 := Int.emod_lt_of_pos (x + x + d) (show 0 < d + d by omega)
 generalize (x + x + d) / (d + d) = c at *
 generalize (x + x + d) % (d + d) = r at *
 have e : 2 * (x - c * d) = x + x - (d + d) * c := by grind
 omega
theorem sm_small {x d : Int} (h : smZ x d = true) (hd : 0 < d) : x * x ≤ d * d := by
 unfold smZ at h
 have h1 : cmpZ (((x + x).natAbs : Nat) : Int) d ≤ 0 := of_decide_eq_true h
 have h2 : (((x + x).natAbs : Nat) : Int) ≤ d := by
  rcases Int.lt_or_le d (((x + x).natAbs : Nat) : Int) with g | g
  ·exfalso
   unfold cmpZ at h1
   have := (sgn_pos ((((x + x).natAbs : Nat) : Int) - d)).2 (by omega)
   first | omega | (split at h1 <;> omega)
  ·exact g
 have h3 : -d ≤ x ∧ x ≤ d := by omega
 have := Int.mul_nonneg (show 0 ≤ d - x by omega) (show 0 ≤ d + x by omega)
 grind
theorem cf_upd {l : List Int} {k : Nat} (x : Int) (h : k < l.length) : cf (l.set k x) = fun t => if t = k then x else cf l t := by
 funext t
 by_cases e : t = k
 ·subst e
  rw [if_pos rfl]
  unfold cf
  rw [List.getD_eq_getElem?_getD, List.getElem?_set_self h]; rfl
 ·rw [if_neg e, cf_set_ne (by omega)]
theorem uB_swap {s : Nat} {q0 q1 : List Int} (h0 : U[s]? = some q0) (h1 : U[s + 1]? = some q1) : uB R ((U.set (s + 1) q0).set s q1) B = swM (uB R U B) s := by
 have hl : s + 1 < U.length := by
  rcases Nat.lt_or_ge (s + 1) U.length with g | g
  ·exact g
  ·rw [List.getElem?_eq_none g] at h1; cases h1
 funext t j
 unfold swM
 by_cases e1 : t = s + 1
 ·subst e1
  rw [if_pos rfl]
  exact sm_congr fun r _ => by rw [mL_set (by rw [List.length_set]; omega), if_neg (by omega), mL_set hl, if_pos rfl, mL_at h0]
 ·rw [if_neg e1]
  by_cases e2 : t = s
  ·subst e2
   rw [if_pos rfl]
   exact sm_congr fun r _ => by rw [mL_set (by rw [List.length_set]; omega), if_pos rfl, mL_at h1]
  ·rw [if_neg e2]
   exact sm_congr fun r _ => by rw [mL_set (by rw [List.length_set]; omega), if_neg e2, mL_set hl, if_neg e1]
theorem LI.swap (h : LI n R B ds L U w) (hd : ds.length = R + 1) {s : Nat} (hs : s + 1 < R) {q0 q1 : List Int} (h0 : U[s]? = some q0) (h1 : U[s + 1]? = some q1) :
    ∃ (e : Int) (w' : MatF) (X Y : Nat → Int), 0 < e ∧ cf ds (s + 1) * e = cf ds s * cf ds (s + 2) + mL L (s + 1) s * mL L (s + 1) s ∧
      (∀ i, s + 1 < i → i < R → cf ds (s + 1) * X i = cf ds (s + 2) * mL L i s - mL L (s + 1) s * mL L i (s + 1) ∧ cf ds (s + 2) * Y i = e * mL L i (s + 1) + mL L (s + 1) s * X i) ∧
      ∀ L' : List (List Int), L'.length = R → mL L' (s + 1) s = mL L (s + 1) s → (∀ j, j < s → mL L' (s + 1) j = mL L s j ∧ mL L' s j = mL L (s + 1) j) →
        (∀ i j, i ≠ s → i ≠ s + 1 → j ≠ s → j ≠ s + 1 → mL L' i j = mL L i j) → (∀ i, s + 1 < i → i < R → mL L' i (s + 1) = X i ∧ mL L' i s = Y i) →
        LI n R B (ds.set (s + 1) e) L' ((U.set (s + 1) q0).set s q1) w' := by
  obtain ⟨e, w', g1, g2, g3, g4, g5, g6, g7⟩ := h.od.swap_lo h.od.gd hs
  have hls := h.hlo (s + 1) s hs (Nat.lt_succ_self s)
  refine ⟨e, w', fun i => lo n (swM (uB R U B) s) w' i (s + 1), fun i => lo n (swM (uB R U B) s) w' i s, g2, by rw [hls]; exact g1, fun i i1 i2 => ?_, fun L' l1 l2 l3 l4 l5 => ?_⟩
  · rw [hls, h.hlo i s i2 (by omega), h.hlo i (s + 1) i2 i1]
    exact g7 i (by omega) (by omega)
  · refine ⟨l1, by rw [List.length_set, List.length_set]; exact h.hU, ?_, fun i j hi hj => ?_⟩
    · rw [uB_swap h0 h1, cf_upd e (by omega)]; exact g3
    · rw [uB_swap h0 h1]
      by_cases e1 : i = s + 1
      · subst e1
        by_cases e2 : j = s
        · subst e2; rw [l2, g4]; exact hls
        · have hjs : j < s := by omega
          rw [(l3 j hjs).1, (g5 j hjs).1]; exact h.hlo s j (by omega) hjs
      · by_cases e2 : i = s
        · subst e2
          rw [(l3 j hj).2, (g5 j hj).2]; exact h.hlo (i + 1) j hs (by omega)
        · by_cases e3 : j = s
          · subst e3; exact (l5 i (by omega) hi).2
          · by_cases e4 : j = s + 1
            · subst e4; exact (l5 i hj hi).1
            · rw [l4 i j e2 e1 e3 e4, g6 i j e2 e1 e3 e4]; exact h.hlo i j hi hj
end Go.Ll
namespace Go.Ll
open Go.Dt Go.Hp Go.Pz Go.En Go.Nt
variable {n m : Nat} {A : MatF} {d : Nat → Int} {w : MatF}
theorem sq_two (a b : Int) : (a + b) * (a + b) ≤ 2 * (a * a) + 2 * (b * b) := by
 have := sq_nonneg (a - b)
 grind
theorem sq_mul (a b : Int) : a * a * (b * b) = a * b * (a * b) := by grind
theorem rnd_sq (x : Int) {d : Int} (h : 0 < d) : rndZ x d * rndZ x d ≤ 2 * (x * x) + 2 := by
 obtain ⟨c, hc⟩ : ∃ c, c = rndZ x d := ⟨_, rfl⟩
 have h1 := rnd_small x h
 rw [← hc] at h1 ⊢
 obtain ⟨r, hr⟩ : ∃ r, r = x - c * d := ⟨_, rfl⟩
 rw [← hr] at h1
 have h2 : r * r ≤ d * d := by
  have := Int.mul_nonneg (show 0 ≤ d - r by omega) (show 0 ≤ d + r by omega)
  grind
 have h3 : c * d * (c * d) ≤ 2 * (x * x) + 2 * (r * r) := by
  have := sq_two x (-r)
  have e : x + -r = c * d := by omega
  rw [e] at this
  have e2 : -r * -r = r * r := by grind
  omega
 have hx := sq_nonneg x
 have hdd : 1 ≤ d * d := by have := Int.mul_pos h h; omega
 have h4 : c * c * (d * d) ≤ (2 * (x * x) + 2) * (d * d) := by
  rw [sq_mul]
  have h5 : 2 * (x * x) * 1 ≤ 2 * (x * x) * (d * d) := Int.mul_le_mul_of_nonneg_left hdd (by omega)
  have e : (2 * (x * x) + 2) * (d * d) = 2 * (x * x) * (d * d) + 2 * (d * d) := by grind
  omega
 exact Int.le_of_mul_le_mul_right h4 (by omega)
theorem ip_less (n : Nat) (c : Int) (u v : Nat → Int) : ip n (fun k => u k - c * v k) (fun k => u k - c * v k) ≤ 2 * ip n u u + 2 * (c * c) * ip n v v := by
 have h1 := ip_nonneg n fun k => 1 * u k + c * v k
 rw [ip_add n 1 c u v (fun k => 1 * u k + c * v k), ip_comm n u (fun k => 1 * u k + c * v k), ip_comm n v (fun k => 1 * u k + c * v k), ip_add n 1 c u v u, ip_add n 1 c u v v, ip_comm n v u] at h1
 have h2 : ip n (fun k => u k - c * v k) (fun k => u k - c * v k) = ip n u u - 2 * c * ip n u v + c * c * ip n v v := by
  rw [ip_diff' n c u v (fun k => u k - c * v k), ip_comm n u (fun k => u k - c * v k), ip_comm n v (fun k => u k - c * v k), ip_diff' n c u v u, ip_diff' n c u v v, ip_comm n v u]
  grind
 rw [h2]
 grind
theorem OD.grow (h : OD n m A d w) {i k : Nat} (hki : k < i) (hi : i < m) {D N X : Int} (hD : ∀ t, t ≤ m → d t ≤ D) (hN : ip n (A k) (A k) ≤ N) (hX : ip n (A i) (A i) ≤ X) (hN1 : 1 ≤ N) (hX1 : 1 ≤ X) :
  ip n (lsM A i k (rndZ (lo n A w i k) (d (k + 1))) i) (lsM A i k (rndZ (lo n A w i k) (d (k + 1))) i) ≤ 10 * (D * D * N) * X := by
 obtain ⟨c, hc⟩ : ∃ c, c = rndZ (lo n A w i k) (d (k + 1)) := ⟨_, rfl⟩
 have hd0 := h.pos k (by omega)
 have hd1 := h.pos (k + 1) (by omega)
 have h1 := rnd_sq (lo n A w i k) hd1
 have h2 := h.lo_le (i := i) (j := k) (by omega)
 rw [← hc] at h1 ⊢
 have hD1 : 1 ≤ D := by have := hD k (by omega); omega
 have h3 : d k * d (k + 1) ≤ D * D := Int.le_trans (Int.mul_le_mul_of_nonneg_right (hD k (by omega)) (by omega)) (Int.mul_le_mul_of_nonneg_left (hD (k + 1) (by omega)) (by omega))
 have hnn := ip_nonneg n (A i)
 have hDD : 1 ≤ D * D := by have : 1 * D ≤ D * D := Int.mul_le_mul_of_nonneg_right hD1 (by omega); omega
 have h4 : d k * d (k + 1) * ip n (A i) (A i) ≤ D * D * X := Int.le_trans (Int.mul_le_mul_of_nonneg_right h3 hnn) (Int.mul_le_mul_of_nonneg_left hX (by omega))
 have h5 := ip_less n c (A i) (A k)
 have e : lsM A i k c i = fun j => A i j - c * A k j := by unfold lsM; rw [if_pos rfl]
 rw [e]
 have hcc := sq_nonneg c
 have h6 : c * c * ip n (A k) (A k) ≤ c * c * N := Int.mul_le_mul_of_nonneg_left hN hcc
 generalize lo n A w i k * lo n A w i k = l2 at *
 have h7 : c * c * N ≤ (2 * (D * D * X) + 2) * N := Int.mul_le_mul_of_nonneg_right (by omega) (by omega)
 have hXN : X ≤ X * N := by have : X * 1 ≤ X * N := Int.mul_le_mul_of_nonneg_left hN1 (by omega); omega
 have hNX : N ≤ X * N := by have : 1 * N ≤ X * N := Int.mul_le_mul_of_nonneg_right hX1 (by omega); omega
 have hXN0 : 0 ≤ X * N := by omega
 have hDXN : X * N ≤ D * D * (X * N) := by have : 1 * (X * N) ≤ D * D * (X * N) := Int.mul_le_mul_of_nonneg_right hDD hXN0; omega
 have e1 : (2 * (D * D * X) + 2) * N = 2 * (D * D * (X * N)) + 2 * N := by grind
 have e2 : 10 * (D * D * N) * X = 10 * (D * D * (X * N)) := by grind
 have e3 : 2 * (c * c) * ip n (A k) (A k) = 2 * (c * c * ip n (A k) (A k)) := by grind
 rw [e2]
 rw [e1] at h7
 omega
end Go.Ll
namespace Go.Ll
open Go.Dt Go.Hp Go.Pz Go.En Go.Nt
structure RJ (n R : Nat) (B : MatF) (D N : Int) (ds : List Int) (L U : List (List Int)) (w : MatF) (k j : Nat) : Prop where
 li : LI n R B ds L U w
 hd : ∀ t, t ≤ R → cf ds t ≤ D
 hN : ((R : Nat) : Int) * D ≤ N
 hN1 : 1 ≤ N
 red : ∀ i t, i < k → i < R → t < i → mL L i t * mL L i t ≤ cf ds (t + 1) * cf ds (t + 1)
 sm : k < R → ∀ t, j ≤ t → t < k → mL L k t * mL L k t ≤ cf ds (t + 1) * cf ds (t + 1)
 nrm : ∀ i, i < R → i ≠ k → ip n (uB R U B i) (uB R U B i) ≤ N
 cand : k < R → ip n (uB R U B k) (uB R U B k) ≤ N * (10 * (D * D * N)) ^ (R - j)
variable {n R : Nat} {B : MatF} {D N : Int} {ds : List Int} {L U : List (List Int)} {w : MatF} {k j : Nat}
theorem RJ.d1 (h : RJ n R B D N ds L U w k j) : 1 ≤ D := by have h1 := h.li.od.pos 0 (by omega); have h2 := h.hd 0 (by omega); omega
theorem RJ.f1 (h : RJ n R B D N ds L U w k j) : 1 ≤ 10 * (D * D * N) := by
 have h1 := h.d1
 have h2 := Int.mul_pos (Int.mul_pos (show 0 < D by omega) (show 0 < D by omega)) (show 0 < N by have := h.hN1; omega)
 omega
theorem pow_ge {F : Int} (h : 1 ≤ F) : ∀ m : Nat, 1 ≤ F ^ m
  | 0 => by rw [Int.pow_zero]; omega
  | m + 1 => by
    have h1 := pow_ge h m
    have h2 : 1 * F ≤ F ^ m * F := Int.mul_le_mul_of_nonneg_right h1 (by omega)
    rw [Int.pow_succ]; omega
theorem RJ.n_le (h : RJ n R B D N ds L U w k j) (m : Nat) : N ≤ N * (10 * (D * D * N)) ^ m := by
 have h1 := pow_ge h.f1 m
 have h2 := h.hN1
 have h3 : N * 1 ≤ N * (10 * (D * D * N)) ^ m := Int.mul_le_mul_of_nonneg_left h1 (by omega)
 omega
theorem RJ.up (h : RJ n R B D N ds L U w k j) (m : Nat) : N * (10 * (D * D * N)) ^ m ≤ N * (10 * (D * D * N)) ^ (m + 1) := by
 have h1 := h.n_le m
 have h2 := h.f1
 have h4 := h.hN1
 generalize 10 * (D * D * N) = F at *
 rw [Int.pow_succ, ← Int.mul_assoc N]
 generalize N * F ^ m = x at *
 have h3 : x * 1 ≤ x * F := Int.mul_le_mul_of_nonneg_left h2 (by omega)
 omega
theorem RJ.stay (h : RJ n R B D N ds L U w k (j + 1)) (hj : j < k) (hk : k < R) {r : List Int} (hr : L[k]? = some r) (hs : smZ (cf r j) (cf ds (j + 1)) = true) : RJ n R B D N ds L U w k j := by
 refine { h with sm := fun _ t h1 h2 => ?_, cand := fun _ => ?_ }
 ·rcases Nat.lt_or_ge j t with g | g
  ·exact h.sm hk t g h2
  ·obtain rfl : t = j := by omega
   rw [mL_at hr]
   exact sm_small hs (h.li.od.pos (t + 1) (by omega))
 ·have := h.up (R - (j + 1))
  rw [show R - (j + 1) + 1 = R - j by omega] at this
  exact Int.le_trans (h.cand hk) this
theorem RJ.less (h : RJ n R B D N ds L U w k (j + 1)) (hj : j < k) (hk : k < R) {r rk q qk : List Int} (hr : L[k]? = some r) (hrk : L[j]? = some rk) (hq : U[k]? = some q) (hqk : U[j]? = some qk) (hrR : r.length = R) :
  RJ n R B D N ds (L.set k (lesL R j r rk (rndZ (cf r j) (cf ds (j + 1))) (cf r j - rndZ (cf r j) (cf ds (j + 1)) * cf ds (j + 1)))) (U.set k (lesU R q qk (rndZ (cf r j) (cf ds (j + 1))))) w k j := by
 have hl : k < L.length := by rw [h.li.hL]; exact hk
 have hdj := h.li.od.pos (j + 1) (by omega)
 refine { li := h.li.less hr hrk hq hqk hrR hj, hd := h.hd, hN := h.hN, hN1 := h.hN1, red := fun i t h1 h2 h3 => ?_, sm := fun _ t h1 h2 => ?_, nrm := fun i h1 h2 => ?_, cand := fun _ => ?_ }
 ·rw [mL_set hl, if_neg (by omega)]; exact h.red i t h1 h2 h3
 ·rw [mL_set hl, if_pos rfl]
  unfold lesL
  rw [stL_cf (by omega), if_neg (by omega)]
  rcases Nat.lt_or_ge j t with g | g
  ·have := h.sm hk t g h2
   rw [mL_at hr] at this
   rw [cf_set_ne (by omega)]; exact this
  ·obtain rfl : t = j := by omega
   have e : cf (r.set t (cf r t - rndZ (cf r t) (cf ds (t + 1)) * cf ds (t + 1))) t = cf r t - rndZ (cf r t) (cf ds (t + 1)) * cf ds (t + 1) := by
    rw [cf_upd _ (by omega)]; exact if_pos rfl
   rw [e]
   have h4 := rnd_small (cf r t) hdj
   generalize cf r t - rndZ (cf r t) (cf ds (t + 1)) * cf ds (t + 1) = x at *
   generalize cf ds (t + 1) = d at *
   have := Int.mul_nonneg (show 0 ≤ d - x by omega) (show 0 ≤ d + x by omega)
   grind
 ·rw [uB_less hq hqk]
  unfold lsM
  rw [if_neg h2]; exact h.nrm i h1 h2
 ·have e1 := h.li.hlo k j hk hj
  rw [mL_at hr] at e1
  have := h.li.od.grow hj hk h.hd (h.nrm j (by omega) (by omega)) (h.cand hk) h.hN1 (by have := h.n_le (R - (j + 1)); have := h.hN1; omega)
  rw [← e1] at this
  rw [uB_less hq hqk]
  refine Int.le_trans this (Int.le_of_eq ?_)
  rw [show R - j = R - (j + 1) + 1 by omega, Int.pow_succ]
  grind
theorem RJ.next (h : RJ n R B D N ds L U w k 0) (hk : k < R) : RJ n R B D N ds L U w (k + 1) (k + 1) := by
 have hs : ip n (uB R U B k) (uB R U B k) ≤ N := by
  have h1 := h.li.od.short hk h.hd fun t ht => by rw [← h.li.hlo k t hk ht]; exact h.sm hk t (Nat.zero_le _) ht
  have h2 : ((k + 1 : Nat) : Int) * D ≤ ((R : Nat) : Int) * D := Int.mul_le_mul_of_nonneg_right (by omega) (by have := h.d1; omega)
  have := h.hN
  omega
 refine { h with red := fun i t h1 h2 h3 => ?_, sm := fun _ t h1 h2 => absurd h2 (by omega), nrm := fun i h1 h2 => ?_, cand := fun h1 => ?_ }
 ·rcases Nat.lt_or_ge i k with g | g
  ·exact h.red i t g h2 h3
  ·obtain rfl : i = k := by omega
   exact h.sm hk t (Nat.zero_le _) h3
 ·by_cases e : i = k
  ·subst e; exact hs
  ·exact h.nrm i h1 e
 ·exact Int.le_trans (h.nrm (k + 1) h1 (by omega)) (h.n_le _)
theorem RJ.swap {s : Nat} (h : RJ n R B D N ds L U w (s + 1) s) (hd : ds.length = R + 1) (hs : s + 1 < R) {q0 q1 : List Int} (h0 : U[s]? = some q0) (h1 : U[s + 1]? = some q1) :
    ∃ (e : Int) (X Y : Nat → Int), 0 < e ∧ cf ds (s + 1) * e = cf ds s * cf ds (s + 2) + mL L (s + 1) s * mL L (s + 1) s ∧
      (∀ i, s + 1 < i → i < R → cf ds (s + 1) * X i = cf ds (s + 2) * mL L i s - mL L (s + 1) s * mL L i (s + 1) ∧ cf ds (s + 2) * Y i = e * mL L i (s + 1) + mL L (s + 1) s * X i) ∧
      (e < cf ds (s + 1) → ∀ L' : List (List Int), L'.length = R → mL L' (s + 1) s = mL L (s + 1) s → (∀ j, j < s → mL L' (s + 1) j = mL L s j ∧ mL L' s j = mL L (s + 1) j) →
        (∀ i j, i ≠ s → i ≠ s + 1 → j ≠ s → j ≠ s + 1 → mL L' i j = mL L i j) → (∀ i, s + 1 < i → i < R → mL L' i (s + 1) = X i ∧ mL L' i s = Y i) →
        ∃ w', RJ n R B D N (ds.set (s + 1) e) L' ((U.set (s + 1) q0).set s q1) w' (max 1 s) (max 1 s)) := by
  obtain ⟨e, w', X, Y, g1, g2, g3, g4⟩ := h.li.swap hd hs h0 h1
  refine ⟨e, X, Y, g1, g2, g3, fun he L' l1 l2 l3 l4 l5 => ⟨w', ?_⟩⟩
  have hli := g4 L' l1 l2 l3 l4 l5
  have hD1 := h.d1
  have hcf := cf_upd (l := ds) e (show s + 1 < ds.length by omega)
  have hdd : ∀ t, t ≤ R → cf (ds.set (s + 1) e) t ≤ D := fun t ht => by
    rw [hcf]
    show (if t = s + 1 then e else cf ds t) ≤ D
    split
    · have := h.hd (s + 1) (by omega); omega
    · exact h.hd t ht
  have hRD : D ≤ ((R : Nat) : Int) * D := by
    have : 1 * D ≤ ((R : Nat) : Int) * D := Int.mul_le_mul_of_nonneg_right (by omega) (by omega)
    omega
  have hN := h.hN
  have hA := uB_swap (R := R) (B := B) h0 h1
  have hn0 : ip n (uB R U B s) (uB R U B s) ≤ N := h.nrm s (by omega) (by omega)
  refine { li := hli, hd := hdd, hN := h.hN, hN1 := h.hN1, red := fun i t i1 i2 i3 => ?_, sm := fun _ t t1 t2 => absurd t2 (by omega), nrm := fun i i1 i2 => ?_, cand := fun i1 => ?_ }
  · have hts : i < s := by omega
    rw [l4 i t (by omega) (by omega) (by omega) (by omega), hcf]
    show _ ≤ (if t + 1 = s + 1 then e else cf ds (t + 1)) * (if t + 1 = s + 1 then e else cf ds (t + 1))
    rw [if_neg (by omega)]
    exact h.red i t (by omega) i2 i3
  · by_cases e1 : i = s + 1
    · subst e1; rw [hA, swM_t]; exact hn0
    · by_cases e2 : i = s
      · obtain rfl : s = 0 := by omega
        subst e2
        have x := hli.od.short (i := 0) (by omega) hdd fun j hj => absurd hj (Nat.not_lt_zero _)
        have : ((0 + 1 : Nat) : Int) * D = D := by show 1 * D = D; omega
        omega
      · rw [hA, swM_ne _ e2 e1]; exact h.nrm i i1 e1
  · rcases Nat.eq_zero_or_pos s with e1 | e1
    · subst e1
      have : max 1 0 = 0 + 1 := rfl
      rw [this, hA, swM_t]
      exact Int.le_trans hn0 (h.n_le _)
    · rw [Nat.max_eq_right (show 1 ≤ s by omega), hA, swM_s]
      exact h.cand hs
theorem RJ.lo_sq (h : RJ n R B D N ds L U w k j) {i t : Nat} (hi : i < R) (ht : t < i) : mL L i t * mL L i t ≤ D * D * (N * (10 * (D * D * N)) ^ R) := by
 have hD1 := h.d1
 have e := h.li.hlo i t hi ht
 have h1 := h.li.od.lo_le (i := i) (j := t) (by omega)
 rw [← e] at h1
 have d0 := h.li.od.pos t (by omega)
 have d1 := h.li.od.pos (t + 1) (by omega)
 have h3 : cf ds t * cf ds (t + 1) ≤ D * D := Int.le_trans (Int.mul_le_mul_of_nonneg_right (h.hd t (by omega)) (by omega)) (Int.mul_le_mul_of_nonneg_left (h.hd (t + 1) (by omega)) (by omega))
 have hx : ip n (uB R U B i) (uB R U B i) ≤ N * (10 * (D * D * N)) ^ R := by
  by_cases g : i = k
  ·subst g
   refine Int.le_trans (h.cand hi) ?_
   have : ∀ m, N * (10 * (D * D * N)) ^ (R - j) ≤ N * (10 * (D * D * N)) ^ (R - j + m) := fun m => by
    induction m with
    | zero => exact Int.le_refl _
    | succ m ih => exact Int.le_trans ih (h.up (R - j + m))
   have := this (R - (R - j))
   rwa [show R - j + (R - (R - j)) = R by omega] at this
  ·exact Int.le_trans (h.nrm i hi g) (h.n_le _)
 have hnn := ip_nonneg n (uB R U B i)
 have hDD := Int.mul_pos (show 0 < D by omega) (show 0 < D by omega)
 exact Int.le_trans h1 (Int.le_trans (Int.mul_le_mul_of_nonneg_right h3 hnn) (Int.mul_le_mul_of_nonneg_left hx (by omega)))
end Go.Ll
namespace Go.Ll
open Go.Dt Go.Hp Go.Pz Go.En Go.Nt
variable {n R : Nat} {B : MatF} {U : List (List Int)}
theorem sm_abs {f : Nat → Int} {M : Int} (hM : 0 ≤ M) : ∀ m : Nat, (∀ s, s < m → -M ≤ f s ∧ f s ≤ M) → -((m : Int) * M) ≤ Dt.sm m f ∧ Dt.sm m f ≤ (m : Int) * M
  | 0, _ => by
    show -(((0 : Nat) : Int) * M) ≤ 0 ∧ (0 : Int) ≤ ((0 : Nat) : Int) * M
    rw [show (((0 : Nat) : Int)) * M = 0 from Int.zero_mul _]; omega
  | m + 1, h => by
    have h1 := sm_abs hM m fun s hs => h s (by omega)
    have h2 := h m (by omega)
    show -(((m + 1 : Nat) : Int) * M) ≤ Dt.sm m f + f m ∧ Dt.sm m f + f m ≤ ((m + 1 : Nat) : Int) * M
    have e : ((m + 1 : Nat) : Int) * M = (m : Int) * M + M := by rw [show ((m + 1 : Nat) : Int) = (m : Int) + 1 by omega, Int.add_mul]; omega
    omega
theorem u_eq {d : Nat → Int} {w : MatF} (h : OD n R B d w) (i : Nat) {r : Nat} (hr : r < R) : d (r + 1) * mL U i r = ip n (w r) (uB R U B i) - Dt.sm R fun s => if r < s then mL U i s * ip n (w r) (B s) else 0 := by
 have e1 : ip n (w r) (uB R U B i) = Dt.sm R fun s => mL U i s * ip n (w r) (B s) := by
  rw [ip_comm, ip_congr (u' := fun k => 0 * (0 : Int) + Dt.sm R fun s => mL U i s * B s k) fun k _ => by show uB R U B i k = _; unfold uB; omega]
  rw [ip_comb n R 0 (fun _ => 0) (w r) (fun s => mL U i s) B, Int.zero_mul, Int.zero_add]
  exact sm_congr fun s _ => by rw [ip_comm]
 have e2 : (Dt.sm R fun s => mL U i s * ip n (w r) (B s)) = (Dt.sm R fun s => (if s = r then 1 else 0) * (fun q => mL U i q * ip n (w r) (B q)) s) + Dt.sm R fun s => if r < s then mL U i s * ip n (w r) (B s) else 0 := by
  rw [← sm_add]
  refine sm_congr fun s hs => ?_
  show _ = (if s = r then 1 else 0) * (mL U i s * ip n (w r) (B s)) + if r < s then mL U i s * ip n (w r) (B s) else 0
  by_cases g : s = r
  ·rw [if_pos g, if_neg (by omega)]; omega
  ·rw [if_neg g]
   by_cases g2 : r < s
   ·rw [if_pos g2]; omega
   ·rw [if_neg g2, h.ort r s hr (by omega)]; omega
 rw [e1, e2, sm_pick1 (fun q => mL U i q * ip n (w r) (B q)) hr, h.nx r hr, Int.mul_comm]
 omega
theorem u_bound {d : Nat → Int} {w : MatF} (h : OD n R B d w) {i : Nat} {Q : Int} (hQ : 1 ≤ Q) (hw : ∀ r, r < R → -Q ≤ ip n (w r) (uB R U B i) ∧ ip n (w r) (uB R U B i) ≤ Q) (hl : ∀ s r, r < s → s < R → -Q ≤ ip n (w r) (B s) ∧ ip n (w r) (B s) ≤ Q) :
    ∀ (N r : Nat), R - r ≤ N → r < R → -((Q * ((R : Int) + 1)) ^ N) ≤ mL U i r ∧ mL U i r ≤ (Q * ((R : Int) + 1)) ^ N
  | 0, r, h1, h2 => by omega
  | N + 1, r, h1, h2 => by
    obtain ⟨T, hT⟩ : ∃ T, T = Q * ((R : Int) + 1) := ⟨_, rfl⟩
    have hT1 : 1 ≤ T := by
      rw [hT]
      have : Q * 1 ≤ Q * ((R : Int) + 1) := Int.mul_le_mul_of_nonneg_left (by omega) (by omega)
      omega
    have hp := pow_ge hT1 N
    have ih : ∀ s, r < s → s < R → -(T ^ N) ≤ mL U i s ∧ mL U i s ≤ T ^ N := fun s hs hR => by
      have := u_bound h hQ hw hl N s (by omega) hR
      rw [← hT] at this; exact this
    have hs := sm_abs (f := fun s => if r < s then mL U i s * ip n (w r) (B s) else 0) (M := T ^ N * Q) (Int.mul_nonneg (by omega) (by omega)) R fun s hs => by
      show _ ≤ (if r < s then mL U i s * ip n (w r) (B s) else 0) ∧ (if r < s then mL U i s * ip n (w r) (B s) else 0) ≤ _
      have hpq : 0 ≤ T ^ N * Q := Int.mul_nonneg (by omega) (by omega)
      by_cases g : r < s
      · rw [if_pos g]
        have a := ih s g hs
        have b := hl s r g hs
        generalize mL U i s = x at *
        generalize ip n (w r) (B s) = y at *
        generalize T ^ N = p at *
        have c1 := Int.mul_nonneg (show 0 ≤ p - x by omega) (show 0 ≤ Q - y by omega)
        have c2 := Int.mul_nonneg (show 0 ≤ p + x by omega) (show 0 ≤ Q + y by omega)
        have c3 := Int.mul_nonneg (show 0 ≤ p - x by omega) (show 0 ≤ Q + y by omega)
        have c4 := Int.mul_nonneg (show 0 ≤ p + x by omega) (show 0 ≤ Q - y by omega)
        constructor
        · grind
        · grind
      · rw [if_neg g]; omega
    have he := u_eq (U := U) h i h2
    have hw1 := hw r h2
    have hd := h.pos (r + 1) (by omega)
    rw [← hT]
    generalize (Dt.sm R fun s => if r < s then mL U i s * ip n (w r) (B s) else 0) = S at *
    generalize ip n (w r) (uB R U B i) = a at *
    generalize mL U i r = u at *
    have hb : Q + (R : Int) * (T ^ N * Q) ≤ T ^ (N + 1) := by
      rw [Int.pow_succ]
      generalize T ^ N = p at *
      have c1 : 1 * Q ≤ p * Q := Int.mul_le_mul_of_nonneg_right hp (by omega)
      have c2 : p * T = p * Q + (R : Int) * (p * Q) := by rw [hT]; grind
      omega
    generalize T ^ (N + 1) = Z at *
    have hdu : -Z ≤ d (r + 1) * u ∧ d (r + 1) * u ≤ Z := by omega
    generalize d (r + 1) = D at *
    rcases Int.lt_or_le u 0 with g | g
    · have : D * u ≤ 1 * u := by
        have := Int.mul_le_mul_of_nonpos_right (show 1 ≤ D by omega) (show u ≤ 0 by omega)
        exact this
      omega
    · have : 1 * u ≤ D * u := Int.mul_le_mul_of_nonneg_right (by omega) g
      omega
end Go.Ll
namespace Go.Ll
open Go.Dt Go.Hp Go.Pz Go.En Go.Nt
theorem cmp_neg {x y : Int} (h : ¬ 0 ≤ cmpZ x y) : x < y := by
 unfold cmpZ at h
 rcases Int.lt_or_le x y with g | g
 ·exact g
 ·exfalso
  rw [if_neg (by omega)] at h
  split at h <;> omega
theorem stands_no {p q d e a : Int} (hq : 0 < q) (hpq : p < q) (hd : 0 < d) (ha : d * e = a) (h : ¬ 0 ≤ cmpZ (q * a) (p * (d * d))) : e < d := by
 have h1 := cmp_neg h
 rw [← ha] at h1
 have h2 : p * (d * d) ≤ q * (d * d) := Int.mul_le_mul_of_nonneg_right (by omega) (Int.le_of_lt (Int.mul_pos hd hd))
 rcases Int.lt_or_le e d with g | g
 ·exact g
 ·exfalso
  have h3 : d * d ≤ d * e := Int.mul_le_mul_of_nonneg_left g (by omega)
  have h4 : q * (d * d) ≤ q * (d * e) := Int.mul_le_mul_of_nonneg_left h3 (by omega)
  omega
end Go.Ll
namespace Go.En
open Go.Nt Go.Pz Go.Mz
theorem some_lt {β : Type} {l : List β} {i : Nat} {a : β} (h : l[i]? = some a) : i < l.length := by
 rcases Nat.lt_or_ge i l.length with g | g
 ·exact g
 ·rw [List.getElem?_eq_none g] at h; cases h
def swT (N s j : Nat) (ls us : List Row) (r0 r1 : Row) : List Row := (ls ++ us).set s (r0.1, stL N (cf r0.2) (cf r1.2) j) |>.set (s + 1) (r1.1, stL N (cf r1.2) (cf r0.2) j)
variable {N s j : Nat} {ls us : List Row} {r0 r1 : Row}
theorem swT_0 (h0 : ls[s]? = some r0) (h1 : ls[s + 1]? = some r1) (l0 : r0.2.length = N) (l1 : r1.2.length = N) : ls ++ us = swT N s 0 ls us r0 r1 := by
 unfold swT
 rw [stL_zero _ l0, stL_zero _ l1]
 have a := lwL (us := us) h0
 have b := lwL (us := us) h1
 rw [← set_eq a rfl]
 exact set_eq b rfl
theorem swT_len : (swT N s j ls us r0 r1).length = ls.length + us.length := by unfold swT; rw [List.length_set, List.length_set, List.length_append]
theorem swT_s (h1 : ls[s + 1]? = some r1) : (swT N s j ls us r0 r1)[s]? = some (r0.1, stL N (cf r0.2) (cf r1.2) j) := by
 have := some_lt h1
 unfold swT
 rw [List.getElem?_set_ne (by omega), List.getElem?_set_self (by rw [List.length_append]; omega)]
theorem swT_t (h1 : ls[s + 1]? = some r1) : (swT N s j ls us r0 r1)[s + 1]? = some (r1.1, stL N (cf r1.2) (cf r0.2) j) := by
 have := some_lt h1
 unfold swT
 rw [List.getElem?_set_self (by rw [List.length_set, List.length_append]; omega)]
theorem swT_ne {i : Nat} (e1 : i ≠ s) (e2 : i ≠ s + 1) : (swT N s j ls us r0 r1)[i]? = (ls ++ us)[i]? := by
 unfold swT
 rw [List.getElem?_set_ne (by omega), List.getElem?_set_ne (by omega)]
theorem swT_step (hj : j < N) (h1 : ls[s + 1]? = some r1) : ((swT N s j ls us r0 r1).set (s + 1) (r1.1, (stL N (cf r1.2) (cf r0.2) j).set j (cf r0.2 j))).set s (r0.1, (stL N (cf r0.2) (cf r1.2) j).set j (cf r1.2 j)) = swT N s (j + 1) ls us r0 r1 := by
 have hl := some_lt h1
 rw [stL_set hj, stL_set hj]
 refine List.ext_getElem? fun i => ?_
 by_cases e1 : i = s
 ·subst e1
  rw [List.getElem?_set_self (by rw [List.length_set, swT_len]; omega), swT_s h1]
 ·rw [List.getElem?_set_ne (by omega)]
  by_cases e2 : i = s + 1
  ·subst e2
   rw [List.getElem?_set_self (by rw [swT_len]; omega), swT_t h1]
  ·rw [List.getElem?_set_ne (by omega), swT_ne e1 e2, swT_ne e1 e2]
def swX (s i : Nat) (X Y : Nat → Int) (T : List Row) : List Row := T.mapIdx fun t r => if s + 1 < t ∧ t < i then (r.1, (r.2.set (s + 1) (X t)).set s (Y t)) else r
variable {i : Nat} {X Y : Nat → Int} {T : List Row}
theorem swX_get (t : Nat) : (swX s i X Y T)[t]? = (T[t]?).map fun r => if s + 1 < t ∧ t < i then (r.1, (r.2.set (s + 1) (X t)).set s (Y t)) else r := by
 unfold swX; rw [List.getElem?_mapIdx]
theorem swX_0 (h : i ≤ s + 2) : swX s i X Y T = T := by
 refine List.ext_getElem? fun t => ?_
 rw [swX_get]
 cases T[t]? with
 | none => rfl
 | some r => show some (if _ then _ else r) = some r; rw [if_neg (by omega)]
theorem swX_at {r : Row} {t : Nat} (h : T[t]? = some r) (ht : i ≤ t ∨ t ≤ s + 1) : (swX s i X Y T)[t]? = some r := by
 rw [swX_get, h]; show some (if _ then _ else r) = some r; rw [if_neg (by omega)]
theorem swX_len : (swX s i X Y T).length = T.length := by unfold swX; rw [List.length_mapIdx]
theorem swX_step {r : Row} (h : T[i]? = some r) (hi : s + 1 < i) : (swX s i X Y T).set i (r.1, (r.2.set (s + 1) (X i)).set s (Y i)) = swX s (i + 1) X Y T := by
  refine List.ext_getElem? fun t => ?_
  by_cases e : t = i
  · subst e
    rw [List.getElem?_set_self (by rw [swX_len]; exact some_lt h), swX_get, h]
    show _ = some (if _ then _ else r)
    rw [if_pos (by omega)]
  · rw [List.getElem?_set_ne (by omega), swX_get, swX_get]
    cases T[t]? with
    | none => rfl
    | some q =>
      show some (if _ then _ else q) = some (if _ then _ else q)
      by_cases g : s + 1 < t ∧ t < i
      · rw [if_pos g, if_pos (by omega)]
      · rw [if_neg g, if_neg (by omega)]
theorem OKY.subI {E : Env} {P : Program} {Γ : Ctx} {M : Mem} {x y : Operand} {T T' : TypeId} {ty : TypeId} {pos : String} {after : Array Edge} {d : Option Tmp} {i j : Int} (hx : Has E Γ M x (isI i)) (hy : Has E Γ M y (isI j)) (h1 : -9223372036854775808 ≤ i - j) (h2 : i - j < 9223372036854775808) : OKY E P Γ M ⟨d, .binOp .sub T x y T', ty, pos, after, none⟩ (isI (i - j)) := fun a w F s => by
 refine ⟨.int .i64 (i - j), fun w' => ?_, isI_of h1 h2 w F⟩
 have g1 := evI hx a w F s
 have g2 := evI hy a w F s
 have g3 := run_sub (P := P) (T := T) .i64 i j w'
 simp only [execOp, g1, g2]
 simp [go_sem, g3]
 exact wrap_i64 h1 h2
theorem tail6 {a b c d e f : Option Nat × MP} {rs rs' : List Row} (h : rs = rs') : (a :: b :: c :: d :: e :: f :: rs.map rowM : Mem) = a :: b :: c :: d :: e :: f :: rs'.map rowM := h ▸ rfl
theorem swX_fin (hll : ls.length = N) (h0 : ls[s]? = some r0) (h1 : ls[s + 1]? = some r1) (l0 : r0.2.length = N) (l1 : r1.2.length = N) : ∃ ls' : List Row, ls' ++ us = swX s N X Y (swT N s j ls us r0 r1) ∧ ls'.length = ls.length ∧ ls'.map rowV = ls.map rowV := by
  have hs := some_lt h1
  have hlen : (swX s N X Y (swT N s j ls us r0 r1)).length = ls.length + us.length := by rw [swX_len, swT_len]
  refine ⟨(swX s N X Y (swT N s j ls us r0 r1)).take N, ?_, by rw [List.length_take, hlen]; omega, ?_⟩
  · have e : us = (swX s N X Y (swT N s j ls us r0 r1)).drop N := by
      refine List.ext_getElem? fun t => ?_
      rw [List.getElem?_drop, swX_get, swT_ne (by omega) (by omega), List.getElem?_append_right (by omega), show N + t - ls.length = t by omega]
      cases us[t]? with
      | none => rfl
      | some r => show some r = some (if _ then _ else r); rw [if_neg (by omega)]
    conv => lhs; rw [e]
    have e2 : (swX s N X Y (swT N s j ls ((swX s N X Y (swT N s j ls us r0 r1)).drop N) r0 r1)).take N = (swX s N X Y (swT N s j ls us r0 r1)).take N := by rw [← e]
    rw [e2]
    exact List.take_append_drop _ _
  · refine List.ext_getElem? fun t => ?_
    rw [List.getElem?_map, List.getElem?_map, List.getElem?_take]
    rcases Nat.lt_or_ge t N with g | g
    · rw [if_pos g, swX_get]
      by_cases e1 : t = s
      · subst e1
        rw [swT_s h1, h0]
        show some (rowV (if _ then _ else _)) = some (rowV r0)
        rw [if_neg (by omega)]
        show some (isGr r0.1 ((stL N (cf r0.2) (cf r1.2) j).map nz).length) = some (isGr r0.1 (r0.2.map nz).length)
        rw [List.length_map, List.length_map, stL_len, l0]
      · by_cases e2 : t = s + 1
        · subst e2
          rw [swT_t h1, h1]
          show some (rowV (if _ then _ else _)) = some (rowV r1)
          rw [if_neg (by omega)]
          show some (isGr r1.1 ((stL N (cf r1.2) (cf r0.2) j).map nz).length) = some (isGr r1.1 (r1.2.map nz).length)
          rw [List.length_map, List.length_map, stL_len, l1]
        · rw [swT_ne e1 e2, List.getElem?_append_left (by omega)]
          cases ls[t]? with
          | none => rfl
          | some r =>
            show some (rowV (if _ then _ else r)) = some (rowV r)
            split
            · show some (isGr r.1 ((((r.2.set (s + 1) (X t)).set s (Y t))).map nz).length) = some (isGr r.1 (r.2.map nz).length)
              rw [List.length_map, List.length_map, List.length_set, List.length_set]
            · rfl
    · rw [if_neg (by omega), List.getElem?_eq_none (by omega)]
      try rfl
theorem lwS_fin {bw M k : Nat} {gd : Gr (Bool × List Nat)} {gl gu : Gr Row} {ds : List Int} {ls ls' us' T : List Row} {nu : Nat} {m n : Bool} {ps qs : List Nat} {z e : Int} (hu : us'.length = nu) (e2 : ls'.length = ls.length) (e3 : ls'.map rowV = ls.map rowV) (e1 : ls' ++ us' = T) :
  ((some bw, cellM [isI (M : Int), isGr gd (ds.map nz).length, isGr gl ls.length, isGr gu nu, isB m, isWords ps, isB n, isWords qs, isI z]) :: grMK zc gd ((ds.map nz).set k (nz e)) :: grM rowV gl ls :: grM rowV gu us' :: T.map rowM : Mem) = lwM bw M gd gl gu (ds.set k e) ls' us' m n ps qs z := by
 subst hu
 subst e1
 have h1 : (ds.map nz).set k (nz e) = (ds.set k e).map nz := List.map_set.symm
 have h2 : grM rowV gl ls = grM rowV gl ls' := by unfold grM; rw [List.map_append, List.map_append, e3]
 have h3 : (ds.map nz).length = ((ds.set k e).map nz).length := by rw [List.length_map, List.length_map, List.length_set]
 rw [h1, h2, h3, ← e2]
end Go.En
namespace Go.Ll
open Go.Dt Go.Hp Go.Pz Go.En Go.Nt
variable {N s : Nat} {ls us ls' us' : List Row} {r0 r1 : Row} {X Y : Nat → Int}
theorem mL_map {i : Nat} {r : Row} (h : ls[i]? = some r) (j : Nat) : mL (ls.map Prod.snd) i j = cf r.2 j := mL_at (by rw [List.getElem?_map, h]; rfl) j
theorem swX_row (e1 : ls' ++ us' = swX s N X Y (swT N s s ls us r0 r1)) (e2 : ls'.length = N) {i : Nat} (hi : i < N) : ls'[i]? = (swX s N X Y (swT N s s ls us r0 r1))[i]? := by
 rw [← e1, List.getElem?_append_left (by omega)]
theorem swX_conds (hll : ls.length = N) (h0 : ls[s]? = some r0) (h1 : ls[s + 1]? = some r1) (hlr : ∀ r ∈ ls, r.2.length = N) (e1 : ls' ++ us' = swX s N X Y (swT N s s ls us r0 r1)) (e2 : ls'.length = N) :
  mL (ls'.map Prod.snd) (s + 1) s = mL (ls.map Prod.snd) (s + 1) s ∧ (∀ j, j < s → mL (ls'.map Prod.snd) (s + 1) j = mL (ls.map Prod.snd) s j ∧ mL (ls'.map Prod.snd) s j = mL (ls.map Prod.snd) (s + 1) j) ∧
   (∀ i j, i ≠ s → i ≠ s + 1 → j ≠ s → j ≠ s + 1 → mL (ls'.map Prod.snd) i j = mL (ls.map Prod.snd) i j) ∧ ∀ i, s + 1 < i → i < N → mL (ls'.map Prod.snd) i (s + 1) = X i ∧ mL (ls'.map Prod.snd) i s = Y i := by
 have hs := some_lt h1
 have a0 : ls'[s]? = some (r0.1, stL N (cf r0.2) (cf r1.2) s) := by rw [swX_row e1 e2 (by omega)]; exact swX_at (swT_s h1) (.inr (by omega))
 have a1 : ls'[s + 1]? = some (r1.1, stL N (cf r1.2) (cf r0.2) s) := by rw [swX_row e1 e2 (by omega)]; exact swX_at (swT_t h1) (.inr (by omega))
 refine ⟨?_, fun j hj => ⟨?_, ?_⟩, fun i j i1 i2 j1 j2 => ?_, fun i i1 i2 => ?_⟩
 ·rw [mL_map a1, mL_map h1]; show cf (stL N (cf r1.2) (cf r0.2) s) s = _; rw [stL_cf (by omega), if_neg (by omega)]
 ·rw [mL_map a1, mL_map h0]; show cf (stL N (cf r1.2) (cf r0.2) s) j = _; rw [stL_cf (by omega), if_pos hj]
 ·rw [mL_map a0, mL_map h1]; show cf (stL N (cf r0.2) (cf r1.2) s) j = _; rw [stL_cf (by omega), if_pos hj]
 ·rcases Nat.lt_or_ge i N with g | g
  ·obtain ⟨r, hr⟩ : ∃ r, ls[i]? = some r := ⟨_, List.getElem?_eq_getElem (by omega)⟩
   have hT : (swT N s s ls us r0 r1)[i]? = some r := (swT_ne i1 i2).trans (lwL hr)
   have hx : ls'[i]? = some (if s + 1 < i ∧ i < N then (r.1, (r.2.set (s + 1) (X i)).set s (Y i)) else r) := by rw [swX_row e1 e2 g, swX_get, hT]; rfl
   rw [mL_map hx, mL_map hr]
   split
   ·show cf ((r.2.set (s + 1) (X i)).set s (Y i)) j = _
    rw [cf_set_ne (by omega), cf_set_ne (by omega)]
   ·rfl
  ·unfold mL
   rw [List.getD_eq_getElem?_getD, List.getD_eq_getElem?_getD, List.getElem?_eq_none (by rw [List.length_map]; omega), List.getElem?_eq_none (by rw [List.length_map]; omega)]
 ·obtain ⟨r, hr⟩ : ∃ r, ls[i]? = some r := ⟨_, List.getElem?_eq_getElem (by omega)⟩
  have hl := hlr r (List.mem_of_getElem? hr)
  have hT : (swT N s s ls us r0 r1)[i]? = some r := (swT_ne (by omega) (by omega)).trans (lwL hr)
  have hx : ls'[i]? = some (r.1, (r.2.set (s + 1) (X i)).set s (Y i)) := by
   rw [swX_row e1 e2 i2, swX_get, hT]
   show some (if _ then _ else r) = _
   rw [if_pos ⟨i1, i2⟩]
  rw [mL_map hx, mL_map hx]
  refine ⟨?_, ?_⟩
  ·show cf ((r.2.set (s + 1) (X i)).set s (Y i)) (s + 1) = _
   rw [cf_set_ne (by omega), cf_upd _ (by omega)]; exact if_pos rfl
  ·show cf ((r.2.set (s + 1) (X i)).set s (Y i)) s = _
   rw [cf_upd _ (by rw [List.length_set]; omega)]; exact if_pos rfl
end Go.Ll
namespace Go.Ll
open Go.Dt Go.Hp Go.Pz Go.En Go.Nt
def ZD (R : Nat) (L : List (List Int)) : Prop := ∀ i j, i < R → i ≤ j → mL L i j = 0
theorem cf_out {l : List Int} {j : Nat} (h : l.length ≤ j) : cf l j = 0 := by
 unfold cf; rw [List.getD_eq_getElem?_getD, List.getElem?_eq_none h]; rfl
theorem ZD.less {R : Nat} {L : List (List Int)} (h : ZD R L) {i k : Nat} {r rk : List Int} {c x : Int} (hi : L[i]? = some r) (hki : k < i) : ZD R (L.set i (lesL R k r rk c x)) := fun t j ht hj => by
 rw [mL_set (some_lt hi)]
 by_cases e : t = i
 ·subst e
  rw [if_pos rfl]
  have h0 := h t j ht hj
  rw [mL_at hi] at h0
  rcases Nat.lt_or_ge j R with g | g
  ·unfold lesL
   rw [stL_cf g, if_neg (by omega), cf_set_ne (by omega)]; exact h0
  ·unfold lesL
   exact cf_out (by rw [stL_len]; exact g)
 ·rw [if_neg e]; exact h t j ht hj
end Go.Ll
namespace Go.Ll
open Go.Dt Go.Hp Go.Pz Go.En Go.Nt Go.Mz
def StB (p q : Int) (ds : List Int) (L : List (List Int)) (s : Nat) : Prop := 0 ≤ cmpZ (q * (cf ds s * cf ds (s + 2) + mL L (s + 1) s * mL L (s + 1) s)) (p * (cf ds (s + 1) * cf ds (s + 1)))
inductive LR (n R : Nat) (B : MatF) (D N p q : Int) (ds0 : List Int) (L0 U0 : List (List Int)) : Nat → List Int → List (List Int) → List (List Int) → Nat → Prop
 | start : LR n R B D N p q ds0 L0 U0 0 ds0 L0 U0 1
 | less {c k j : Nat} {ds : List Int} {L U : List (List Int)} {w : MatF} {r rk u uk : List Int} (h : LR n R B D N p q ds0 L0 U0 c ds L U k) (hj : RJ n R B D N ds L U w k (j + 1)) (hjk : j < k) (hk : k < R) (hr : L[k]? = some r) (hrk : L[j]? = some rk) (hu : U[k]? = some u) (huk : U[j]? = some uk) (hrR : r.length = R) :
   LR n R B D N p q ds0 L0 U0 c ds (L.set k (lesL R j r rk (rndZ (cf r j) (cf ds (j + 1))) (cf r j - rndZ (cf r j) (cf ds (j + 1)) * cf ds (j + 1)))) (U.set k (lesU R u uk (rndZ (cf r j) (cf ds (j + 1))))) k
 | swap {c s : Nat} {ds : List Int} {L U L' : List (List Int)} {w w' : MatF} {e : Int} {u0 u1 : List Int} (h : LR n R B D N p q ds0 L0 U0 c ds L U (s + 1)) (hj : RJ n R B D N ds L U w (s + 1) s) (hs : s + 1 < R) (h0 : U[s]? = some u0) (h1 : U[s + 1]? = some u1) (hn : ¬ StB p q ds L s) (he0 : 0 < e) (he : e < cf ds (s + 1)) (hde : cf ds (s + 1) * e = cf ds s * cf ds (s + 2) + mL L (s + 1) s * mL L (s + 1) s)
   (hl : ∀ i j, i < s → mL L' i j = mL L i j) (hj' : RJ n R B D N (ds.set (s + 1) e) L' ((U.set (s + 1) u0).set s u1) w' (max 1 s) (max 1 s)) (hd : ds.length = R + 1) :
   LR n R B D N p q ds0 L0 U0 (c + 1) (ds.set (s + 1) e) L' ((U.set (s + 1) u0).set s u1) (max 1 s)
 | next {c k : Nat} {ds : List Int} {L U : List (List Int)} {w : MatF} (h : LR n R B D N p q ds0 L0 U0 c ds L U k) (hj : RJ n R B D N ds L U w k 0) (hk : k < R) (hst : ∀ s, k = s + 1 → StB p q ds L s) : LR n R B D N p q ds0 L0 U0 c ds L U (k + 1)
structure SZ (n R K : Nat) (B : MatF) (D N Q : Int) (d0 : Nat → Int) (w0 : MatF) : Prop where
 od : OD n R B d0 w0
 hd0 : ∀ t, t ≤ R → d0 t ≤ D
 hB : ∀ i, i < R → ip n (B i) (B i) ≤ N
 hQ1 : 1 ≤ Q
 hQ : D * D * (N * (10 * (D * D * N)) ^ R) ≤ Q * Q
 hK : (List.length (words ((Q * ((R : Int) + 1)) ^ (R + 1)).natAbs)) ≤ K
variable {n R K : Nat} {B : MatF} {D N Q p q : Int} {d0 : Nat → Int} {w0 w : MatF} {ds ds0 : List Int} {L U L0 U0 : List (List Int)} {k j c : Nat}
theorem le_of_sq {x Q : Int} (hQ : 0 ≤ Q) (h : x * x ≤ Q * Q) : -Q ≤ x ∧ x ≤ Q := by
 constructor
 ·rcases Int.lt_or_le x (-Q) with g | g
  ·exfalso
   have h1 := Int.mul_pos (show 0 < -Q - x by omega) (show 0 < Q - x by omega)
   grind
  ·exact g
 ·rcases Int.lt_or_le Q x with g | g
  ·exfalso
   have h1 := Int.mul_pos (show 0 < x - Q by omega) (show 0 < x + Q by omega)
   grind
  ·exact g
theorem SZ.T1 (z : SZ n R K B D N Q d0 w0) : 1 ≤ Q * ((R : Int) + 1) ∧ Q ≤ Q * ((R : Int) + 1) := by
 have := z.hQ1
 have h : Q * 1 ≤ Q * ((R : Int) + 1) := Int.mul_le_mul_of_nonneg_left (by omega) (by omega)
 omega
theorem pow_up {T : Int} (h : 1 ≤ T) (a : Nat) : ∀ m : Nat, T ^ a ≤ T ^ (a + m)
  | 0 => Int.le_refl _
  | m + 1 => by
    have h1 := pow_up h a m
    have h2 := pow_ge h (a + m)
    have h3 : T ^ (a + m) * 1 ≤ T ^ (a + m) * T := Int.mul_le_mul_of_nonneg_left h (by omega)
    rw [show a + (m + 1) = a + m + 1 by omega, Int.pow_succ]; omega
theorem SZ.nwT (z : SZ n R K B D N Q d0 w0) {x : Int} {m : Nat} (hm : m ≤ R + 1) (h1 : -((Q * ((R : Int) + 1)) ^ m) ≤ x) (h2 : x ≤ (Q * ((R : Int) + 1)) ^ m) : (List.length (words x.natAbs)) ≤ K := by
 refine Nat.le_trans (nw_mono ?_) z.hK
 have h3 := pow_up z.T1.1 m (R + 1 - m)
 rw [show m + (R + 1 - m) = R + 1 by omega] at h3
 have h4 := pow_ge z.T1.1 (R + 1)
 omega
theorem SZ.nwQ (z : SZ n R K B D N Q d0 w0) {x : Int} (h1 : -Q ≤ x) (h2 : x ≤ Q) : (List.length (words x.natAbs)) ≤ K := by
 have := z.T1.2
 refine z.nwT (m := 1) (by omega) ?_ ?_ <;> (rw [show (Q * ((R : Int) + 1)) ^ 1 = Q * ((R : Int) + 1) from Int.pow_one _]; omega)
theorem RJ.nk (h : RJ n R B D N ds L U w k j) {i : Nat} (hi : i < R) : ip n (uB R U B i) (uB R U B i) ≤ N * (10 * (D * D * N)) ^ R := by
 by_cases g : i = k
 ·subst g
  refine Int.le_trans (h.cand hi) ?_
  have : ∀ m, N * (10 * (D * D * N)) ^ (R - j) ≤ N * (10 * (D * D * N)) ^ (R - j + m) := fun m => by
   induction m with
   | zero => exact Int.le_refl _
   | succ m ih => exact Int.le_trans ih (h.up (R - j + m))
  have := this (R - (R - j))
  rwa [show R - j + (R - (R - j)) = R by omega] at this
 ·exact Int.le_trans (h.nrm i hi g) (h.n_le _)
theorem RJ.d_nw (h : RJ n R B D N ds L U w k j) (z : SZ n R K B D N Q d0 w0) (hd : ds.length = R + 1) : Bd ds K := fun i => by
 rcases Nat.lt_or_ge i (R + 1) with g | g
 ·have h1 := h.li.od.pos i (by omega)
  have h2 := h.hd i (by omega)
  have hD := h.d1
  have hq := z.hQ
  have hn : 1 ≤ N * (10 * (D * D * N)) ^ R := by have := h.n_le R; have := h.hN1; omega
  have h3 : D * D * 1 ≤ D * D * (N * (10 * (D * D * N)) ^ R) := Int.mul_le_mul_of_nonneg_left hn (Int.le_of_lt (Int.mul_pos (by omega) (by omega)))
  have hQ := z.hQ1
  have := (le_of_sq (show 0 ≤ Q by omega) (show D * D ≤ Q * Q by omega)).2
  exact z.nwQ (by omega) (by omega)
 ·rw [cf_out (by omega), Int.natAbs_zero, words_zero]; exact Nat.zero_le _
theorem RJ.l_nw (h : RJ n R B D N ds L U w k j) (z : SZ n R K B D N Q d0 w0) (zd : ZD R L) {r : List Int} (hr : r ∈ L) : Bd r K := fun t => by
 obtain ⟨i, hi⟩ := List.getElem?_of_mem hr
 have hiL := some_lt hi
 rw [h.li.hL] at hiL
 rw [← mL_at hi]
 rcases Nat.lt_or_ge t i with g | g
 ·have h1 := h.lo_sq hiL g
  have hQ := z.hQ1
  have := le_of_sq (show 0 ≤ Q by omega) (Int.le_trans h1 z.hQ)
  exact z.nwQ this.1 this.2
 ·rw [zd i t hiL g, Int.natAbs_zero, words_zero]; exact Nat.zero_le _
theorem cauchyQ (z : SZ n R K B D N Q d0 w0) {r : Nat} (hr : r < R) {v : Nat → Int} (hv : ip n v v ≤ N * (10 * (D * D * N)) ^ R) : -Q ≤ ip n (w0 r) v ∧ ip n (w0 r) v ≤ Q := by
 have hQ := z.hQ1
 refine le_of_sq (by omega) (Int.le_trans ?_ z.hQ)
 have hc := cauchy n (w0 r) v
 have hw := z.od.sq hr
 have d0p := z.od.pos r (by omega)
 have d1p := z.od.pos (r + 1) (by omega)
 have hd0 := z.hd0 r (by omega)
 have hd1 := z.hd0 (r + 1) (by omega)
 have h3 : d0 r * d0 (r + 1) ≤ D * D := Int.le_trans (Int.mul_le_mul_of_nonneg_right hd0 (by omega)) (Int.mul_le_mul_of_nonneg_left hd1 (by omega))
 have hnn := ip_nonneg n v
 rw [hw] at hc
 have hDD := Int.mul_pos (show 0 < D by omega) (show 0 < D by omega)
 exact Int.le_trans hc (Int.le_trans (Int.mul_le_mul_of_nonneg_right h3 hnn) (Int.mul_le_mul_of_nonneg_left hv (by omega)))
theorem RJ.u_nw (h : RJ n R B D N ds L U w k j) (z : SZ n R K B D N Q d0 w0) {r : List Int} (hr : r ∈ U) (hl : r.length = R) : Bd r K := fun t => by
 obtain ⟨i, hi⟩ := List.getElem?_of_mem hr
 have hiU := some_lt hi
 rw [h.li.hU] at hiU
 rcases Nat.lt_or_ge t R with g | g
 ·rw [← mL_at hi]
  have := u_bound z.od (U := U) (i := i) z.hQ1 (fun r hr => cauchyQ z hr (h.nk hiU)) (fun s r _ hs => cauchyQ z (by omega) (by
   have h1 := h.n_le R
   exact Int.le_trans (z.hB s hs) h1)) R t (by omega) g
  exact z.nwT (m := R) (by omega) this.1 this.2
 ·rw [cf_out (by omega), Int.natAbs_zero, words_zero]; exact Nat.zero_le _
end Go.Ll
namespace Go.Ll
open Go.Dt Go.Hp Go.Pz Go.En Go.Nt Go.Mz
structure RS (n R : Nat) (B : MatF) (D N p q : Int) (ds0 : List Int) (L0 U0 : List (List Int)) (c : Nat) (ds : List Int) (ls us : List Row) (k j : Nat) : Prop where
 ex : ∃ w, RJ n R B D N ds (ls.map Prod.snd) (us.map Prod.snd) w k j
 lr : LR n R B D N p q ds0 L0 U0 c ds (ls.map Prod.snd) (us.map Prod.snd) k
 dl : ds.length = R + 1
 hlr : ∀ r ∈ ls, r.2.length = R
 hur : ∀ r ∈ us, r.2.length = R
 zd : ZD R (ls.map Prod.snd)
variable {n R K : Nat} {B : MatF} {D N Q p q : Int} {d0 : Nat → Int} {w0 : MatF} {ds ds0 : List Int} {L0 U0 : List (List Int)} {k j c : Nat} {ls us ls' us' : List Row} {r rk u uk : Row}
theorem RS.ll (h : RS n R B D N p q ds0 L0 U0 c ds ls us k j) : ls.length = R := by obtain ⟨w, hw⟩ := h.ex; have := hw.li.hL; rwa [List.length_map] at this
theorem RS.ul (h : RS n R B D N p q ds0 L0 U0 c ds ls us k j) : us.length = R := by obtain ⟨w, hw⟩ := h.ex; have := hw.li.hU; rwa [List.length_map] at this
theorem RS.db (h : RS n R B D N p q ds0 L0 U0 c ds ls us k j) (z : SZ n R K B D N Q d0 w0) : Bd ds K := by obtain ⟨w, hw⟩ := h.ex; exact hw.d_nw z h.dl
theorem RS.lb (h : RS n R B D N p q ds0 L0 U0 c ds ls us k j) (z : SZ n R K B D N Q d0 w0) : ∀ r ∈ ls, Bd r.2 K := fun r hr => by obtain ⟨w, hw⟩ := h.ex; exact hw.l_nw z h.zd (List.mem_map_of_mem hr)
theorem RS.ub (h : RS n R B D N p q ds0 L0 U0 c ds ls us k j) (z : SZ n R K B D N Q d0 w0) : ∀ r ∈ us, Bd r.2 K := fun r hr => by obtain ⟨w, hw⟩ := h.ex; exact hw.u_nw z (List.mem_map_of_mem hr) (h.hur r hr)
theorem RS.dp (h : RS n R B D N p q ds0 L0 U0 c ds ls us k j) {t : Nat} (ht : t ≤ R) : 0 < cf ds t := by obtain ⟨w, hw⟩ := h.ex; exact hw.li.od.pos t ht
theorem map_at {i : Nat} (h : ls[i]? = some r) : (ls.map Prod.snd)[i]? = some r.2 := by rw [List.getElem?_map, h]; rfl
theorem RS.less (h : RS n R B D N p q ds0 L0 U0 c ds ls us k (j + 1)) (hj : j < k) (hk : k < R) (hr : ls[k]? = some r) (hrk : ls[j]? = some rk) (hu : us[k]? = some u) (huk : us[j]? = some uk) (hL : LessR R k j ds ls us r rk u uk ls' us') :
  RS n R B D N p q ds0 L0 U0 c ds ls' us' k j ∧ ∀ t, j < t → mL (ls'.map Prod.snd) k t = mL (ls.map Prod.snd) k t := by
 obtain ⟨w, hw⟩ := h.ex
 rcases hL with ⟨hs, rfl, rfl⟩ | ⟨hs, rfl, rfl⟩
 ·exact ⟨{ h with ex := ⟨w, hw.stay hj hk (map_at hr) hs⟩ }, fun _ _ => rfl⟩
 ·have hrR := h.hlr r (List.mem_of_getElem? hr)
  have e1 : (ls.set k (r.1, lesL R j r.2 rk.2 (rndZ (cf r.2 j) (cf ds (j + 1))) (cf r.2 j - rndZ (cf r.2 j) (cf ds (j + 1)) * cf ds (j + 1)))).map Prod.snd = (ls.map Prod.snd).set k (lesL R j r.2 rk.2 (rndZ (cf r.2 j) (cf ds (j + 1))) (cf r.2 j - rndZ (cf r.2 j) (cf ds (j + 1)) * cf ds (j + 1))) := List.map_set
  have e2 : (us.set k (u.1, lesU R u.2 uk.2 (rndZ (cf r.2 j) (cf ds (j + 1))))).map Prod.snd = (us.map Prod.snd).set k (lesU R u.2 uk.2 (rndZ (cf r.2 j) (cf ds (j + 1)))) := List.map_set
  refine ⟨{ ex := ⟨w, ?_⟩, lr := ?_, dl := h.dl, hlr := fun x hx => ?_, hur := fun x hx => ?_, zd := ?_ }, fun t ht => ?_⟩
  ·rw [e1, e2]; exact hw.less hj hk (map_at hr) (map_at hrk) (map_at hu) (map_at huk) hrR
  ·rw [e1, e2]; exact .less h.lr hw hj hk (map_at hr) (map_at hrk) (map_at hu) (map_at huk) hrR
  ·rcases List.mem_or_eq_of_mem_set hx with g | g
   ·exact h.hlr x g
   ·subst g; exact stL_len _ _ _ _
  ·rcases List.mem_or_eq_of_mem_set hx with g | g
   ·exact h.hur x g
   ·subst g; exact stL_len _ _ _ _
  ·rw [e1]; exact h.zd.less (map_at hr) hj
  ·rw [e1, mL_set (by rw [List.length_map]; exact some_lt hr), if_pos rfl, mL_at (map_at hr)]
   rcases Nat.lt_or_ge t R with g | g
   ·unfold lesL
    rw [stL_cf g, if_neg (by omega), cf_set_ne (by omega)]
   ·rw [cf_out (by show (stL _ _ _ _).length ≤ t; rw [stL_len]; exact g), cf_out (by omega)]
theorem StB.of {s : Nat} {L L' : List (List Int)} (h : StB p q ds L s) (e : mL L' (s + 1) s = mL L (s + 1) s) : StB p q ds L' s := by unfold StB; rw [e]; exact h
theorem RS.next (h : RS n R B D N p q ds0 L0 U0 c ds ls us k 0) (hk : k < R) (hst : ∀ s, k = s + 1 → StB p q ds (ls.map Prod.snd) s) : RS n R B D N p q ds0 L0 U0 c ds ls us (k + 1) (k + 1) := by
 obtain ⟨w, hw⟩ := h.ex
 exact { h with ex := ⟨w, hw.next hk⟩, lr := .next h.lr hw hk hst }
theorem nw_mul_ge {x y : Int} (h : 0 < x) : (List.length (words y.natAbs)) ≤ (List.length (words (x * y).natAbs)) := by
 refine nw_mono ?_
 rw [Int.natAbs_mul]
 exact Nat.le_mul_of_pos_left _ (by omega)
section
variable {s : Nat} {r0 r1 q0 q1 : Row} {X Y : Nat → Int}
theorem swX_rows (hll : ls.length = R) (h0 : ls[s]? = some r0) (h1 : ls[s + 1]? = some r1) (hlr : ∀ r ∈ ls, r.2.length = R) (e1 : ls' ++ us = swX s R X Y (swT R s s ls us r0 r1)) (e2 : ls'.length = R) : ∀ r ∈ ls', r.2.length = R := fun r hr => by
 obtain ⟨i, hi⟩ := List.getElem?_of_mem hr
 have hiR := some_lt hi
 have hs := some_lt h1
 rw [swX_row e1 e2 (by omega), swX_get] at hi
 by_cases g1 : i = s
 ·subst g1
  rw [swT_s h1] at hi
  have hi : some (if _ then _ else _) = some r := hi
  rw [if_neg (by omega)] at hi
  cases hi; exact stL_len _ _ _ _
 ·by_cases g2 : i = s + 1
  ·subst g2
   rw [swT_t h1] at hi
   have hi : some (if _ then _ else _) = some r := hi
   rw [if_neg (by omega)] at hi
   cases hi; exact stL_len _ _ _ _
  ·obtain ⟨r', hr'⟩ : ∃ r, ls[i]? = some r := ⟨_, List.getElem?_eq_getElem (by omega)⟩
   have hl := hlr r' (List.mem_of_getElem? hr')
   rw [swT_ne g1 g2, lwL hr'] at hi
   have hi : some (if s + 1 < i ∧ i < R then (r'.1, (r'.2.set (s + 1) (X i)).set s (Y i)) else r') = some r := hi
   split at hi
   ·cases hi; show ((r'.2.set _ _).set _ _).length = R; rw [List.length_set, List.length_set]; exact hl
   ·cases hi; exact hl
theorem RS.swap (h : RS n R B D N p q ds0 L0 U0 c ds ls us (s + 1) s) (z : SZ n R K B D N Q d0 w0) (hs : s + 1 < R) (h0 : ls[s]? = some r0) (h1 : ls[s + 1]? = some r1) (g0 : us[s]? = some q0) (g1 : us[s + 1]? = some q1) (hq : 0 < q) (hpq : p < q) (hst : ¬ StB p q ds (ls.map Prod.snd) s) :
    ∃ (e : Int) (X Y : Nat → Int), cf ds (s + 1) * e = cf ds s * cf ds (s + 2) + cf r1.2 s * cf r1.2 s ∧ (∀ i r, s + 1 < i → ls[i]? = some r → cf ds (s + 1) * X i = cf ds (s + 2) * cf r.2 s - cf r1.2 s * cf r.2 (s + 1) ∧ cf ds (s + 2) * Y i = e * cf r.2 (s + 1) + cf r1.2 s * X i) ∧
      (∀ i, (List.length (words (X i).natAbs)) ≤ 5 * K + 10) ∧ (List.length (words e.natAbs)) ≤ 5 * K + 10 ∧ (e < cf ds (s + 1) ∧ 0 < e) ∧
      ∀ ls', ls' ++ (us.set (s + 1) q0).set s q1 = swX s R X Y (swT R s s ls ((us.set (s + 1) q0).set s q1) r0 r1) → RS n R B D N p q ds0 L0 U0 (c + 1) (ds.set (s + 1) e) ls' ((us.set (s + 1) q0).set s q1) (max 1 s) (max 1 s) := by
  obtain ⟨w, hw⟩ := h.ex
  have hl1 : mL (ls.map Prod.snd) (s + 1) s = cf r1.2 s := mL_map h1 s
  obtain ⟨e, X, Y, he0, hde, hXY, hfin⟩ := hw.swap h.dl hs (map_at g0) (map_at g1)
  have hd1 := h.dp (show s + 1 ≤ R by omega)
  have hd2 := h.dp (show s + 2 ≤ R by omega)
  have hed : e < cf ds (s + 1) := stands_no hq hpq hd1 hde hst
  have hdb := h.db z
  have hll := h.ll
  refine ⟨e, fun i => if s + 1 < i ∧ i < R then X i else 0, Y, by rw [hde, hl1], fun i r hi hr => ?_, fun i => ?_, ?_, ⟨hed, he0⟩, fun ls' e1 => ?_⟩
  · have hiR := some_lt hr
    have := hXY i hi (by omega)
    rw [hl1, mL_map hr, mL_map hr] at this
    simp only [if_pos (show s + 1 < i ∧ i < R by omega)]
    exact this
  · show (List.length (words (if s + 1 < i ∧ i < R then X i else 0).natAbs)) ≤ _
    split
    · rename_i hi
      obtain ⟨r, hr⟩ : ∃ r, ls[i]? = some r := ⟨_, List.getElem?_eq_getElem (by omega)⟩
      have hb := h.lb z r (List.mem_of_getElem? hr)
      have hb1 := h.lb z r1 (List.mem_of_getElem? h1)
      have x1 := (hXY i hi.1 hi.2).1
      rw [hl1, mL_map hr, mL_map hr] at x1
      have x2 := nw_mul_ge (y := X i) hd1
      rw [x1] at x2
      have y1 := nz_mul (cf ds (s + 2)) (cf r.2 s)
      have y2 := nz_mul (cf r1.2 s) (cf r.2 (s + 1))
      have y3 := nz_sub (cf ds (s + 2) * cf r.2 s) (cf r1.2 s * cf r.2 (s + 1))
      have z1 := hdb (s + 2)
      have z2 := hb s
      have z3 := hb1 s
      have z4 := hb (s + 1)
      omega
    · rw [Int.natAbs_zero, words_zero]; exact Nat.zero_le _
  · have x1 := nw_mono (show e.natAbs ≤ (cf ds (s + 1)).natAbs by omega)
    have x2 := hdb (s + 1)
    omega
  · have e1' : ls' ++ (us.set (s + 1) q0).set s q1 = swX s R X Y (swT R s s ls ((us.set (s + 1) q0).set s q1) r0 r1) := by
      rw [e1]
      refine List.ext_getElem? fun i => ?_
      rw [swX_get, swX_get]
      cases (swT R s s ls ((us.set (s + 1) q0).set s q1) r0 r1)[i]? with
      | none => rfl
      | some x =>
        show some (if _ then _ else x) = some (if _ then _ else x)
        by_cases g : s + 1 < i ∧ i < R
        · rw [if_pos g, if_pos g]; simp only [if_pos g]
        · rw [if_neg g, if_neg g]
    have e2 : ls'.length = R := by
      have := congrArg List.length e1'
      rw [List.length_append, swX_len, swT_len] at this
      omega
    obtain ⟨c1, c2, c3, c4⟩ := swX_conds hll h0 h1 h.hlr e1' e2
    have eu : ((us.set (s + 1) q0).set s q1).map Prod.snd = ((us.map Prod.snd).set (s + 1) q0.2).set s q1.2 := by rw [List.map_set, List.map_set]
    obtain ⟨w', hw'⟩ := hfin hed (ls'.map Prod.snd) (by rw [List.length_map, e2]) c1 c2 c3 c4
    have hrows := swX_rows hll h0 h1 h.hlr e1' e2
    refine { ex := ⟨w', by rw [eu]; exact hw'⟩, lr := ?_, dl := by rw [List.length_set]; exact h.dl, hlr := hrows, hur := fun x hx => ?_, zd := fun i j hi hij => ?_ }
    · rw [eu]
      refine .swap h.lr hw hs (map_at g0) (map_at g1) hst he0 hed hde (fun i j hi => ?_) hw' h.dl
      by_cases a : j = s
      · subst a
        rw [h.zd i j (by omega) (by omega)]
        obtain ⟨r, hr⟩ : ∃ r, ls[i]? = some r := ⟨_, List.getElem?_eq_getElem (by omega)⟩
        have hx : ls'[i]? = some r := by
          rw [swX_row e1' e2 (by omega)]
          exact swX_at ((swT_ne (by omega) (by omega)).trans (lwL hr)) (.inr (by omega))
        rw [mL_map hx, ← mL_map hr]; exact h.zd i j (by omega) (by omega)
      · by_cases a2 : j = s + 1
        · subst a2
          obtain ⟨r, hr⟩ : ∃ r, ls[i]? = some r := ⟨_, List.getElem?_eq_getElem (by omega)⟩
          have hx : ls'[i]? = some r := by
            rw [swX_row e1' e2 (by omega)]
            exact swX_at ((swT_ne (by omega) (by omega)).trans (lwL hr)) (.inr (by omega))
          rw [mL_map hx, mL_map hr]
        · exact c3 i j (by omega) (by omega) a a2
    · rcases List.mem_or_eq_of_mem_set hx with g | g
      · rcases List.mem_or_eq_of_mem_set g with g | g
        · exact h.hur x g
        · subst g; exact h.hur _ (List.mem_of_getElem? g0)
      · subst g; exact h.hur _ (List.mem_of_getElem? g1)
    · rcases Nat.lt_or_ge j R with jR | jR
      · by_cases a1 : i = s + 1
        · subst a1
          rw [mL_map (r := (r1.1, stL R (cf r1.2) (cf r0.2) s)) (by rw [swX_row e1' e2 (by omega)]; exact swX_at (swT_t h1) (.inr (by omega)))]
          show cf (stL R (cf r1.2) (cf r0.2) s) j = 0
          rw [stL_cf jR, if_neg (by omega), ← mL_map h1]; exact h.zd (s + 1) j (by omega) hij
        · by_cases a2 : i = s
          · subst a2
            rw [mL_map (r := (r0.1, stL R (cf r0.2) (cf r1.2) i)) (by rw [swX_row e1' e2 (by omega)]; exact swX_at (swT_s h1) (.inr (by omega)))]
            show cf (stL R (cf r0.2) (cf r1.2) i) j = 0
            rw [stL_cf jR, if_neg (by omega), ← mL_map h0]; exact h.zd i j (by omega) hij
          · rcases Nat.lt_or_ge i s with a3 | a3
            · obtain ⟨r, hr⟩ : ∃ r, ls[i]? = some r := ⟨_, List.getElem?_eq_getElem (by omega)⟩
              have hx : ls'[i]? = some r := by
                rw [swX_row e1' e2 (by omega)]
                exact swX_at ((swT_ne (by omega) (by omega)).trans (lwL hr)) (.inr (by omega))
              rw [mL_map hx, ← mL_map hr]; exact h.zd i j (by omega) hij
            · rw [c3 i j a2 a1 (by omega) (by omega)]; exact h.zd i j hi hij
      · obtain ⟨r, hr⟩ : ∃ r, ls'[i]? = some r := ⟨_, List.getElem?_eq_getElem (by omega)⟩
        rw [mL_map hr]
        exact cf_out (by rw [hrows r (List.mem_of_getElem? hr)]; exact jR)
end
def muR (R : Nat) (ds : List Int) (k : Nat) : Nat := 2 * (Dt.sm (R + 1) (cf ds)).toNat + (R - k)
theorem muR_next (h : k < R) : muR R ds (k + 1) < muR R ds k := by unfold muR; omega
theorem sm_ge0 {f : Nat → Int} : ∀ m : Nat, (∀ t, t < m → 0 ≤ f t) → 0 ≤ Dt.sm m f
  | 0, _ => Int.le_refl _
  | m + 1, h => by
    have h1 := sm_ge0 m fun t ht => h t (by omega)
    have h2 := h m (by omega)
    show 0 ≤ Dt.sm m f + f m
    omega
theorem muR_swap {s : Nat} {e : Int} (h : RS n R B D N p q ds0 L0 U0 c ds ls us k j) (hs : s + 1 < R) (he : e < cf ds (s + 1) ∧ 0 < e) : muR R (ds.set (s + 1) e) (max 1 s) < muR R ds (s + 1) := by
 have e1 : Dt.sm (R + 1) (cf (ds.set (s + 1) e)) = Dt.sm (R + 1) (cf ds) + (e - cf ds (s + 1)) := by
  have x : (Dt.sm (R + 1) fun t => (if t = s + 1 then 1 else 0) * (fun _ => e - cf ds (s + 1)) t) = e - cf ds (s + 1) := sm_pick1 (fun _ => e - cf ds (s + 1)) (by omega)
  rw [← x, ← sm_add, cf_upd e (by have := h.dl; omega)]
  refine sm_congr fun t _ => ?_
  show (if t = s + 1 then e else cf ds t) = cf ds t + (if t = s + 1 then 1 else 0) * (e - cf ds (s + 1))
  split
  ·rename_i g; subst g; omega
  ·omega
 have e2 : 0 ≤ Dt.sm (R + 1) (cf (ds.set (s + 1) e)) := sm_ge0 _ fun t ht => by
  rw [cf_upd e (by have := h.dl; omega)]
  show 0 ≤ if t = s + 1 then e else cf ds t
  split
  ·omega
  ·have := h.dp (show t ≤ R by omega); omega
 unfold muR
 omega
theorem wrap_next (c : Nat) : IntKind.i64.wrap (IntKind.i64.wrap (c : Int) + 1) = IntKind.i64.wrap ((c + 1 : Nat) : Int) := by
 simp [IntKind.wrap, IntKind.signed, IntKind.bits]
 omega
end Go.Ll
namespace Go.Dt
open RowF Go.Br Go.Pz
theorem exQ_mul {D w : Int} (h : D ≠ 0) : Go.En.exQ (D * w) D = w := by
 unfold Go.En.exQ
 rw [if_pos ⟨h, Int.mul_tmod_right D w⟩, Int.mul_tdiv_cancel_left w h]
theorem getD_some {β : Type} {l : List β} {i : Nat} {x d : β} (h : l[i]? = some x) : l.getD i d = x := by rw [List.getD, h]; rfl
theorem some_getD {l : List Nat} {i : Nat} (h : i < l.length) : l[i]? = some (l.getD i 0) := by rw [List.getD, List.getElem?_eq_getElem h]; rfl
theorem lt_some {β : Type} {l : List β} {i : Nat} {x : β} (h : l[i]? = some x) : i < l.length := by
 rcases Nat.lt_or_ge i l.length with h' | h'
 ·exact h'
 ·rw [List.getElem?_eq_none h'] at h; cases h
theorem clrL_cf {p row : List Int} {col k : Nat} {last : Int} (h : k < row.length) : cf (Go.En.clrL p row col last) k = Go.En.clr p row col last k := by
 unfold Go.En.clrL; rw [cf_tab, if_pos h]
structure BI (A : MatF) (R C c : Nat) (s : BS) (q : List Nat) : Prop where
 hR : s.rows.length = R
 hq : q.length = R
 lt : ∀ x ∈ q, x < R
 nd : q.Nodup
 pm : q.Perm (List.range R)
 hps : s.ps.length ≤ R
 psl : s.ps.Sublist (List.range c)
 hl : s.last = mn A (q.take s.ps.length).reverse s.ps.reverse
 h0 : s.last ≠ 0
 len : ∀ (i : Nat) (r : List Int), s.rows[i]? = some r → r.length = C
 row : ∀ (i : Nat) (r : List Int), s.ps.length ≤ i → s.rows[i]? = some r → ∀ k, k < C → cf r k = mn A (q.getD i 0 :: (q.take s.ps.length).reverse) (k :: s.ps.reverse)
 zero : ∀ (i : Nat) (r : List Int), s.ps.length ≤ i → s.rows[i]? = some r → ∀ k, k < c → cf r k = 0
 sign : ∀ F, RowF R F → F (fun i j => A (q.getD i 0) j) = (if s.odd then -1 else 1) * F A
theorem BI.start (A : MatF) {R C : Nat} {L : List Int} (hA : ∀ i k, i < R → k < C → A i k = cf L (i * C + k)) : BI A R C 0 ⟨Go.En.rowsOf R C L, [], 1, false⟩ (List.range R) where
 hR := Go.En.rowsOf_len R C L
 hq := List.length_range
 lt x hx := List.mem_range.1 hx
 nd := List.nodup_range
 pm := List.Perm.refl _
 hps := Nat.zero_le _
 psl := List.nil_sublist _
 hl := rfl
 h0 := (by decide : (1 : Int) ≠ 0)
 len i r h := by
  unfold Go.En.rowsOf at h
  obtain ⟨j, _, e⟩ := List.mem_map.1 (List.mem_of_getElem? h)
  rw [← e, List.length_map, List.length_range]
 row i r _ h k hk := by
  have hi : i < R := by have := lt_some h; rwa [Go.En.rowsOf_len] at this
  have e : r = (List.range C).map fun k => cf L (i * C + k) := by
   unfold Go.En.rowsOf at h
   rw [List.getElem?_map, List.getElem?_range hi] at h
   exact (Option.some.inj h).symm
  have e2 : (List.range R).getD i 0 = i := getD_some (List.getElem?_range hi)
  show cf r k = mn A [(List.range R).getD i 0] [k]
  rw [e, cf_tab, if_pos hk, e2, ← hA i k hi hk]
  show A i k = det 1 _
  rw [det_succ]
  show _ = 0 + 1 * (A i k * 1)
  omega
 zero i r _ _ k hk := by omega
 sign F hF := by
  rw [hF.congr (A := fun i j => A ((List.range R).getD i 0) j) (B := A) fun i j hi _ => by
   show A ((List.range R).getD i 0) j = A i j
   rw [getD_some (List.getElem?_range hi)]]
  show _ = 1 * _
  omega
theorem take_swap {l : List Nat} {t i : Nat} (h : t ≤ i) (a b : Nat) : ((l.set i a).set t b).take t = l.take t := by
 apply List.ext_getElem?
 intro j
 rw [List.getElem?_take, List.getElem?_take]
 split
 ·rw [List.getElem?_set_ne (by omega), List.getElem?_set_ne (by omega)]
 ·rfl
theorem swap_at {β : Type} {l : List β} {t i : Nat} {a b : β} (ht : l[t]? = some a) (hi : l[i]? = some b) (hne : i ≠ t) (j : Nat) : ((l.set i a).set t b)[j]? = if j = t then some b else if j = i then some a else l[j]? := by
 have h1 := lt_some ht
 have h2 := lt_some hi
 by_cases e : j = t
 ·subst e
  rw [if_pos rfl, List.getElem?_set_self (by rw [List.length_set]; exact h1)]
 ·rw [if_neg e, List.getElem?_set_ne (fun h => e h.symm)]
  by_cases e2 : j = i
  ·subst e2
   rw [if_pos rfl, List.getElem?_set_self h2]
  ·rw [if_neg e2, List.getElem?_set_ne (fun h => e2 h.symm)]
theorem BI.swap {A : MatF} {R C c i : Nat} {s : BS} {q : List Nat} {ri rt : List Int} (h : BI A R C c s q) (hti : s.ps.length ≤ i) (hi : s.rows[i]? = some ri) (ht : s.rows[s.ps.length]? = some rt) (hne : i ≠ s.ps.length) :
  BI A R C c ⟨(s.rows.set i rt).set s.ps.length ri, s.ps, s.last, !s.odd⟩ ((q.set i (q.getD s.ps.length 0)).set s.ps.length (q.getD i 0)) := by
 have hiR : i < R := by have := lt_some hi; have := h.hR; omega
 have htR : s.ps.length < R := by omega
 have hqi : q[i]? = some (q.getD i 0) := some_getD (by rw [h.hq]; exact hiR)
 have hqt : q[s.ps.length]? = some (q.getD s.ps.length 0) := some_getD (by rw [h.hq]; exact htR)
 have hp := Go.En.swap_perm hqi hqt hne
 have hat := swap_at ht hi hne
 have hqat := swap_at hqt hqi hne
 have hqd : ∀ j, ((q.set i (q.getD s.ps.length 0)).set s.ps.length (q.getD i 0)).getD j 0 = if j = s.ps.length then q.getD i 0 else if j = i then q.getD s.ps.length 0 else q.getD j 0 := fun j => by
  rw [List.getD, hqat]
  by_cases e : j = s.ps.length
  ·rw [if_pos e, if_pos e]; rfl
  ·rw [if_neg e, if_neg e]
   by_cases e2 : j = i
   ·rw [if_pos e2, if_pos e2]; rfl
   ·rw [if_neg e2, if_neg e2]; rfl
 refine ⟨by rw [List.length_set, List.length_set]; exact h.hR, by rw [List.length_set, List.length_set]; exact h.hq, fun x hx => h.lt x (hp.mem_iff.1 hx), hp.nodup_iff.2 h.nd, hp.trans h.pm, h.hps, h.psl, by rw [take_swap hti]; exact h.hl, h.h0, fun j r hj => ?_, fun j r htj hj k hk => ?_, fun j r htj hj k hk => ?_, fun F hF => ?_⟩
 ·rw [hat] at hj
  split at hj
  ·rw [← Option.some.inj hj]; exact h.len _ _ hi
  ·split at hj
   ·rw [← Option.some.inj hj]; exact h.len _ _ ht
   ·exact h.len _ _ hj
 ·show cf r k = mn A (_ :: _) _
  rw [take_swap hti, hqd]
  rw [hat] at hj
  by_cases e : j = s.ps.length
  ·rw [if_pos e] at hj ⊢
   rw [← Option.some.inj hj]; exact h.row i ri hti hi k hk
  ·rw [if_neg e] at hj ⊢
   by_cases e2 : j = i
   ·rw [if_pos e2] at hj ⊢
    rw [← Option.some.inj hj]; exact h.row _ rt (Nat.le_refl _) ht k hk
   ·rw [if_neg e2] at hj ⊢
    exact h.row j r htj hj k hk
 ·rw [hat] at hj
  split at hj
  ·rw [← Option.some.inj hj]; exact h.zero i ri hti hi k hk
  ·split at hj
   ·rw [← Option.some.inj hj]; exact h.zero _ rt (Nat.le_refl _) ht k hk
   ·exact h.zero j r htj hj k hk
 ·have hs := h.sign F hF
  obtain ⟨P, hP⟩ : ∃ P : MatF, P = fun i j => A (q.getD i 0) j := ⟨_, rfl⟩
  rw [← hP] at hs
  have e : (fun (x : Nat) (j : Nat) => A (((q.set i (q.getD s.ps.length 0)).set s.ps.length (q.getD i 0)).getD x 0) j) = setr (setr P i (P s.ps.length)) s.ps.length (P i) := by
   funext x j
   rw [hqd, hP]
   unfold setr
   by_cases e : x = s.ps.length
   ·rw [if_pos e, if_pos e]
   ·rw [if_neg e, if_neg e]
    by_cases e2 : x = i
    ·rw [if_pos e2, if_pos e2]
    ·rw [if_neg e2, if_neg e2]
  rw [e, hF.swap P hiR htR hne, set_self, set_self, hs]
  show _ = (if (!s.odd) = true then _ else _) * _
  cases s.odd
  ·show -(1 * F A) = -1 * F A; omega
  ·show -(-1 * F A) = 1 * F A; omega
theorem BI.clear {A : MatF} {R C c : Nat} {s s' : BS} {q : List Nat} {r : List Int} (h : BI A R C c s q) (hc : c < C) (hr : s.rows[s.ps.length]? = some r) (hne : cf r c ≠ 0) (h1 : s'.rows.length = s.rows.length)
    (h2 : ∀ j : Nat, s'.rows[j]? = if s.ps.length < j then (s.rows[j]?).map (fun row => Go.En.clrL r row c s.last) else s.rows[j]?) (h3 : s'.ps = s.ps ++ [c]) (h4 : s'.last = cf r c) (h5 : s'.odd = s.odd) : BI A R C (c + 1) s' q := by
  have htR : s.ps.length < R := by have := lt_some hr; have := h.hR; omega
  have hl1 : s'.ps.length = s.ps.length + 1 := by rw [h3]; simp
  have htk : (q.take s'.ps.length).reverse = q.getD s.ps.length 0 :: (q.take s.ps.length).reverse := by
    rw [hl1, List.take_add_one, some_getD (by rw [h.hq]; exact htR), List.reverse_append]; rfl
  have hpr : s'.ps.reverse = c :: s.ps.reverse := by rw [h3, List.reverse_append]; rfl
  have hrow := h.row _ r (Nat.le_refl _) hr
  have hD : mn A (q.take s.ps.length).reverse s.ps.reverse ≠ 0 := by rw [← h.hl]; exact h.h0
  have hlen : (s.ps.reverse).length = ((q.take s.ps.length).reverse).length := by
    rw [List.length_reverse, List.length_reverse, List.length_take, h.hq]; have := h.hps; omega
  have hnew : ∀ (i : Nat) (row : List Int), s'.ps.length ≤ i → s'.rows[i]? = some row → ∃ r0, s.rows[i]? = some r0 ∧ row = Go.En.clrL r r0 c s.last := by
    intro i row hi hrw
    rw [h2, if_pos (by omega)] at hrw
    cases e : s.rows[i]? with
    | none => rw [e] at hrw; cases hrw
    | some r0 => rw [e] at hrw; exact ⟨r0, rfl, (Option.some.inj hrw).symm⟩
  have hclr : ∀ (i : Nat) (r0 : List Int), s'.ps.length ≤ i → s.rows[i]? = some r0 → ∀ k, k < C → cf (Go.En.clrL r r0 c s.last) k = mn A (q.getD i 0 :: q.getD s.ps.length 0 :: (q.take s.ps.length).reverse) (k :: c :: s.ps.reverse) := by
    intro i r0 hi hr0 k hk
    rw [clrL_cf (by rw [h.len i r0 hr0]; exact hk)]
    unfold Go.En.clr
    rw [h.row i r0 (by omega) hr0 k hk, h.row i r0 (by omega) hr0 c hc, hrow c hc, hrow k hk, mn_step A hlen hD, h.hl, exQ_mul hD]
  refine ⟨by rw [h1]; exact h.hR, h.hq, h.lt, h.nd, h.pm, by omega, ?_, by rw [htk, hpr, h4]; exact hrow c hc, by rw [h4]; exact hne, fun i row hi => ?_, fun i row hi hrw k hk => ?_, fun i row hi hrw k hk => ?_, fun F hF => by rw [h5]; exact h.sign F hF⟩
  · rw [h3, List.range_succ]; exact h.psl.append (List.Sublist.refl _)
  · rw [h2] at hi
    split at hi
    · cases e : s.rows[i]? with
      | none => rw [e] at hi; cases hi
      | some r0 =>
        rw [e] at hi
        rw [← Option.some.inj hi, Go.En.clrL_len]; exact h.len i r0 e
    · exact h.len i row hi
  · obtain ⟨r0, hr0, rfl⟩ := hnew i row hi hrw
    rw [htk, hpr]
    exact hclr i r0 hi hr0 k hk
  · obtain ⟨r0, hr0, rfl⟩ := hnew i row hi hrw
    rw [clrL_cf (by rw [h.len i r0 hr0]; omega)]
    unfold Go.En.clr
    have e : cf r0 k * cf r c - cf r0 c * cf r k = s.last * 0 := by
      rw [Int.mul_zero]
      rcases Nat.lt_succ_iff_lt_or_eq.1 hk with hk2 | hk2
      · rw [h.zero i r0 (by omega) hr0 k hk2, h.zero _ r (Nat.le_refl _) hr k hk2, Int.zero_mul, Int.mul_zero]; rfl
      · rw [hk2]; omega
    rw [e, exQ_mul h.h0]
theorem BI.keep {A : MatF} {R C c : Nat} {s : BS} {q : List Nat} (h : BI A R C c s q) (hz : ∀ (j : Nat) (r : List Int), s.ps.length ≤ j → s.rows[j]? = some r → cf r c = 0) : BI A R C (c + 1) s q :=
 {h with
  psl := by rw [List.range_succ]; exact h.psl.trans (List.sublist_append_left _ _)
  zero := fun i r hi hr k hk => by
   rcases Nat.lt_succ_iff_lt_or_eq.1 hk with hk2 | hk2
   ·exact h.zero i r hi hr k hk2
   ·rw [hk2]; exact hz i r hi hr }
theorem BI.step {A : MatF} {R C c : Nat} {s s' : BS} {q : List Nat} (h : BI A R C c s q) (hc : c < C) (hs : BStep c s s') : ∃ q', BI A R C (c + 1) s' q' := by
 rcases hs with ⟨rfl, hz⟩ | ⟨i, r, t, sw, hti, hi, ht, hne, hsw, k1, k2, k3, k4, k5⟩
 ·exact ⟨q, h.keep hz⟩
 ·by_cases e : i = s.ps.length
  ·rw [if_pos e] at hsw k5
   subst hsw
   subst e
   exact ⟨q, h.clear hc hi hne k1 k2 k3 k4 k5⟩
  ·rw [if_neg e] at hsw k5
   have hb := h.swap hti hi ht e
   refine ⟨_, hb.clear (r := r) hc ?_ hne ?_ ?_ k3 k4 k5⟩
   ·exact (swap_at ht hi e _).trans (if_pos rfl)
   ·rw [k1]; show _ = ((s.rows.set i t).set s.ps.length r).length; rw [List.length_set, List.length_set]
   ·intro j; rw [k2 j, hsw]
theorem BI.all {A : MatF} {R C : Nat} {s0 : BS} {q0 : List Nat} (h0 : BI A R C 0 s0 q0) : ∀ {c : Nat} {s : BS}, BRun s0 c s → c ≤ C → ∃ q, BI A R C c s q := by
 intro c s h
 induction h with
 | zero => exact fun _ => ⟨q0, h0⟩
 | step _ hs ih =>
   intro hc
   obtain ⟨q, hq⟩ := ih (by omega)
   exact hq.step (by omega) hs
end Go.Dt
namespace Go.Mz
open Go.Pz Go.Nt Go.En Go.Dt
def mf (C : Nat) (L : List Int) : MatF := fun i k => cf L (i * C + k)
def dtT (n : Nat) (A : MatF) (k : Nat) : Int := sg k * (A 0 k * det n fun i j => A (i + 1) (skip k j))
theorem det_sum (n : Nat) (A : MatF) : det (n + 1) A = sm (n + 1) (dtT n A) := rfl
theorem sg_nw (k : Nat) (z : Int) : (sg k * z).natAbs = z.natAbs := by
 unfold sg; split
 ·rw [Int.neg_mul, Int.one_mul, Int.natAbs_neg]
 ·rw [Int.one_mul]
theorem sm_nw {f : Nat → Int} {K : Nat} (h : ∀ i, (List.length (words (f i).natAbs)) ≤ K) : ∀ n, (List.length (words (sm n f).natAbs)) ≤ K + n
  | 0 => by show (List.length (words (Int.natAbs 0))) ≤ _; rw [Int.natAbs_zero, words_zero]; exact Nat.zero_le _
  | n + 1 => by
    have h1 := sm_nw h n
    have h2 := nz_add (sm n f) (f n)
    have h3 := h n
    show (List.length (words (sm n f + f n).natAbs)) ≤ _
    omega
theorem det_nw {A : MatF} {K : Nat} (h : ∀ i j, (List.length (words (A i j).natAbs)) ≤ K) (n : Nat) : (List.length (words (det n A).natAbs)) ≤ n * (K + n) + 1 := by
  induction n generalizing A with
  | zero =>
    show (List.length (words (Int.natAbs 1))) ≤ _
    exact Nat.le_trans (nw_small' (by decide)) (by omega)
  | succ n ih =>
    have h1 : ∀ k, (List.length (words (dtT n A k).natAbs)) ≤ K + (n * (K + n) + 1) := fun k => by
      unfold dtT
      rw [sg_nw]
      have := nz_mul (A 0 k) (det n fun i j => A (i + 1) (skip k j))
      have := h 0 k
      have := ih (A := fun i j => A (i + 1) (skip k j)) (fun i j => h _ _)
      omega
    rw [det_sum]
    have h2 := sm_nw h1 (n + 1)
    have e : (n + 1) * (K + (n + 1)) = n * (K + n) + n + (K + (n + 1)) := by rw [Nat.succ_mul, ← Nat.add_assoc K n 1, Nat.mul_succ]
    omega
theorem dotS_sm (f g : Nat → Int) : ∀ n, dotS f g n = sm n fun i => f i * g i
 | 0 => rfl
 | n + 1 => by show dotS f g n + f n * g n = sm n _ + _; rw [dotS_sm f g n]
end Go.Mz
namespace Go.En
open Go.Nt Go.Pz Go.Mz
section
variable {E : Env} {P : Program} {Γ : Ctx} {M : Mem} {x : Operand}
theorem Has.okM {r c : Int} {xs : List (Bool × List Nat)} (h : Has E Γ M x (isM r c xs)) : ∀ a w F, Sat E Γ M a w F → ∀ p ∈ xs, (∀ y ∈ p.2, y < 18446744073709551616) ∧ p.2.length ≤ 9223372036854775807 := by
 intro a w F s p hp
 obtain ⟨vs0, _, hv0⟩ := h a w F s
 obtain ⟨v0, _, ad, cap, e, g1, g2, g3, g4⟩ := hv0.get 2 (SlK 2 zc xs) rfl
 obtain ⟨i, hi, rfl⟩ := List.mem_iff_getElem.1 hp
 rcases g4 with g4 | ⟨b, off, _, _, vs, hv, _⟩
 ·omega
 ·have hd := (hv.drop (i * 2)).take 2
  rw [flat_drop xs i xs[i] (fun y _ => zc_len y) (List.getElem?_eq_getElem hi)] at hd
  obtain ⟨v, _, ad, cap, e, g1, g2, g3, g4⟩ := hd.get 1 (isWords xs[i].2) rfl
  refine ⟨fun y hy => ?_, by rw [maxLen_eq] at g2; omega⟩
  obtain ⟨j, hj, rfl⟩ := List.mem_iff_getElem.1 hy
  rcases g4 with g4 | ⟨b, off, _, _, us, hu, _⟩
  ·omega
  ·obtain ⟨u, _, h2⟩ := hu.get j (isU xs[i].2[j]) (by simp [hj])
   exact h2.2
end
end Go.En
namespace Go.Hp
open Go.Dt Go.Hn Go.Pz Go.Nt Go.Mz
def E (rs : List (List Int)) : MatF := fun i k => cf (rs.getD i []) k
theorem E_set {rs : List (List Int)} {i : Nat} {x : List Int} (hi : i < rs.length) (j : Nat) : E (rs.set i x) j = if j = i then cf x else E rs j := by
 funext k
 unfold E
 by_cases e : j = i
 ·subst e
  rw [if_pos rfl, List.getD, List.getElem?_set_self hi]; rfl
 ·rw [if_neg e, List.getD, List.getElem?_set_ne (fun h => e h.symm)]; rfl
theorem E_of {rs : List (List Int)} {i : Nat} {x : List Int} (h : rs[i]? = some x) : E rs i = cf x := by funext k; unfold E; rw [getD_of h]
theorem E_same {rs rs' : List (List Int)} {i : Nat} (h : rs'[i]? = rs[i]?) : E rs' i = E rs i := by funext k; unfold E; rw [List.getD, List.getD, h]
theorem eqv_set {rs : List (List Int)} {W t : Nat} {x : List Int} {y z : Int} (ht : t < rs.length) {b : Nat} (hb : b < rs.length) (hne : b ≠ t)
  (hx : ∀ k, cf x k = E rs t k + z * E rs b k) (hy : y = -z) : Eqv rs.length rs.length W (E rs) (E (rs.set t x)) := by
 subst hy
 have e := E_set (x := x) ht
 refine ⟨fun i hi => ?_, fun i hi => ?_⟩
 ·by_cases hit : i = t
  ·subst hit
   refine ((SpZ.row (E (rs.set i x)) ht).comb 1 (-z) (SpZ.row (E (rs.set i x)) hb)).congr fun k _ => ?_
   show _ = 1 * E (rs.set i x) i k + (-z) * E (rs.set i x) b k
   rw [e i, if_pos rfl, e b, if_neg hne, hx]
   grind
  ·exact (SpZ.row (E (rs.set t x)) hi).congr fun k _ => by rw [e i, if_neg hit]
 ·by_cases hit : i = t
  ·subst hit
   refine ((SpZ.row (E rs) ht).comb 1 z (SpZ.row (E rs) hb)).congr fun k _ => ?_
   rw [e i, if_pos rfl, hx]
   show _ = 1 * E rs i k + z * E rs b k
   omega
  ·exact (SpZ.row (E rs) hi).congr fun k _ => by rw [e i, if_neg hit]
theorem jn_eqv {rs : List (List Int)} {t i col W V : Nat} (hrow : ∀ r ∈ rs, r.length = W) (hti : t ≠ i) (ht : t < rs.length) (hi : i < rs.length) : Eqv rs.length rs.length V (E rs) (E (jn rs t i col)) := by
 obtain ⟨p, hp⟩ : ∃ p, rs[t]? = some p := ⟨_, List.getElem?_eq_getElem ht⟩
 obtain ⟨q, hq⟩ : ∃ q, rs[i]? = some q := ⟨_, List.getElem?_eq_getElem hi⟩
 by_cases h : xgg (cf p col) (cf q col) = 0
 ·rw [jn_no hp hq h]; exact Eqv.refl _ _ _
 rw [jn_go hp hq h]
 have hl : q.length = p.length := (hrow q (List.mem_of_getElem? hq)).trans (hrow p (List.mem_of_getElem? hp)).symm
 have hb := xg_bezout (cf p col) (cf q col)
 obtain ⟨u, hu⟩ := xgg_left (cf p col) (cf q col)
 obtain ⟨v, hv⟩ := xgg_right (cf p col) (cf q col)
 have eu : (cf p col).tdiv (xgg (cf p col) (cf q col)) = u := by
  conv => lhs; lhs; rw [hu]
  exact Int.mul_tdiv_cancel_left _ h
 have ev : (cf q col).tdiv (xgg (cf p col) (cf q col)) = v := by
  conv => lhs; lhs; rw [hv]
  exact Int.mul_tdiv_cancel_left _ h
 rw [eu, ev]
 generalize hX : xgx (cf p col) (cf q col) = X at *
 generalize hY : xgy (cf p col) (cf q col) = Y at *
 have h1 : X * u + Y * v = 1 := by
  generalize xgg (cf p col) (cf q col) = g at *
  have : g * (X * u + Y * v) = g * 1 := by rw [hu, hv] at hb; grind
  exact Int.eq_of_mul_eq_mul_left h this
 have ep := E_of hp
 have eq' := E_of hq
 have e : ∀ j, E ((rs.set t (mx2 X p Y q)).set i (mx2 (-v) p u q)) j = if j = i then cf (mx2 (-v) p u q) else if j = t then cf (mx2 X p Y q) else E rs j := fun j => by
  rw [E_set (by rw [List.length_set]; exact hi), E_set ht]
 have c1 : ∀ k, cf (mx2 X p Y q) k = X * cf p k + Y * cf q k := cf_mx2 hl
 have c2 : ∀ k, cf (mx2 (-v) p u q) k = -v * cf p k + u * cf q k := cf_mx2 hl
 generalize hr : (rs.set t (mx2 X p Y q)).set i (mx2 (-v) p u q) = rs' at *
 have rt : SpZ rs.length V (E rs') (cf (mx2 X p Y q)) := (SpZ.row (E rs') ht).congr fun k _ => by rw [e t, if_neg hti, if_pos rfl]
 have ri : SpZ rs.length V (E rs') (cf (mx2 (-v) p u q)) := (SpZ.row (E rs') hi).congr fun k _ => by rw [e i, if_pos rfl]
 have sp : SpZ rs.length V (E rs) (cf p) := (SpZ.row (E rs) ht).congr fun k _ => by rw [ep]
 have sq : SpZ rs.length V (E rs) (cf q) := (SpZ.row (E rs) hi).congr fun k _ => by rw [eq']
 refine ⟨fun j hj => ?_, fun j hj => ?_⟩
 ·by_cases hjt : j = t
  ·subst hjt
   refine (rt.comb u (-Y) ri).congr fun k _ => ?_
   rw [ep]
   show cf p k = u * cf (mx2 X p Y q) k + (-Y) * cf (mx2 (-v) p u q) k
   rw [c1, c2]
   have : cf p k = (X * u + Y * v) * cf p k := by rw [h1, Int.one_mul]
   grind
  ·by_cases hji : j = i
   ·subst hji
    refine (rt.comb v X ri).congr fun k _ => ?_
    rw [eq']
    show cf q k = v * cf (mx2 X p Y q) k + X * cf (mx2 (-v) p u q) k
    rw [c1, c2]
    have : cf q k = (X * u + Y * v) * cf q k := by rw [h1, Int.one_mul]
    grind
   ·exact (SpZ.row (E rs') hj).congr fun k _ => by rw [e j, if_neg hji, if_neg hjt]
 ·rw [show E rs' j = if j = i then cf (mx2 (-v) p u q) else if j = t then cf (mx2 X p Y q) else E rs j from e j]
  split
  ·exact (sp.comb (-v) u sq).congr fun k _ => c2 k
  ·split
   ·exact (sp.comb X Y sq).congr fun k _ => c1 k
   ·exact SpZ.row (E rs) hj
theorem jns_eqv {rs : List (List Int)} {t col W V : Nat} (hrow : ∀ r ∈ rs, r.length = W) (ht : t < rs.length) : ∀ n, t + 1 + n ≤ rs.length → Eqv rs.length rs.length V (E rs) (E (jns rs t col n))
  | 0, _ => Eqv.refl _ _ _
  | n + 1, hn => by
    have ih := jns_eqv hrow ht (col := col) (V := V) n (by omega)
    have hl := jns_len rs t col n
    have h2 := jn_eqv (V := V) (col := col) (jns_row hrow ht (col := col) n) (show t ≠ t + 1 + n by omega) (by omega) (show t + 1 + n < _ by omega)
    rw [hl] at h2
    exact ih.trans h2
theorem rds_eqv {rs : List (List Int)} {t col W V : Nat} (hrow : ∀ r ∈ rs, r.length = W) (ht : t < rs.length) : ∀ n, n ≤ t → Eqv rs.length rs.length V (E rs) (E (rds rs t col n))
  | 0, _ => Eqv.refl _ _ _
  | n + 1, hn => by
    have ih := rds_eqv hrow ht (col := col) (V := V) n (by omega)
    have hl := rds_len rs t col n
    have hr := rds_row hrow ht (col := col) n (by omega)
    have h2 := eqv_set (rs := rds rs t col n) (W := V) (t := n) (b := t) (x := mx2 1 ((rds rs t col n).getD n []) (-(cf ((rds rs t col n).getD n []) col / cf ((rds rs t col n).getD t []) col)) ((rds rs t col n).getD t [])) (z := -(cf ((rds rs t col n).getD n []) col / cf ((rds rs t col n).getD t []) col)) (by omega) (by omega) (by omega) (fun k => by
      rw [cf_mx2 ((all_getD hr (by omega)).trans (all_getD hr (by omega)).symm), Int.one_mul]; rfl) rfl
    rw [hl] at h2
    exact ih.trans h2
theorem hsg_eqv {rs : List (List Int)} {t col V : Nat} (ht : t < rs.length) : Eqv rs.length rs.length V (E rs) (E (hsg rs t col)) := by
 unfold hsg
 split
 ·have e := E_set (x := mx2 (-1) (rs.getD t []) 0 (rs.getD t [])) ht
  have c : ∀ k, cf (mx2 (-1) (rs.getD t []) 0 (rs.getD t [])) k = -1 * E rs t k + 0 * E rs t k := cf_mx2 rfl
  refine ⟨fun i hi => ?_, fun i hi => ?_⟩
  ·by_cases hit : i = t
   ·subst hit
    refine ((SpZ.row (E (rs.set i (mx2 (-1) (rs.getD i []) 0 (rs.getD i [])))) ht).comb (-1) 0 (SpZ.row _ ht)).congr fun k _ => ?_
    show _ = -1 * E _ i k + 0 * E _ i k
    rw [e i, if_pos rfl, c]; omega
   ·exact (SpZ.row _ hi).congr fun k _ => by rw [e i, if_neg hit]
  ·by_cases hit : i = t
   ·subst hit
    exact ((SpZ.row (E rs) ht).comb (-1) 0 (SpZ.row _ ht)).congr fun k _ => by rw [e i, if_pos rfl, c]
   ·exact (SpZ.row _ hi).congr fun k _ => by rw [e i, if_neg hit]
 ·exact Eqv.refl _ _ _
theorem hcol_eqv {s : HS} {W V : Nat} (col : Nat) (h : s.top < s.rows.length) (hr : ∀ r ∈ s.rows, r.length = W) : Eqv s.rows.length s.rows.length V (E s.rows) (E (hcol s col).rows) := by
 have h1 := jns_eqv (V := V) (col := col) hr h (s.rows.length - (s.top + 1)) (by omega)
 unfold hcol hjs
 split
 ·exact h1
 ·have hl := jns_len s.rows s.top col (s.rows.length - (s.top + 1))
  have h2 := hsg_eqv (V := V) (col := col) (rs := jns s.rows s.top col (s.rows.length - (s.top + 1))) (t := s.top) (by omega)
  have h3 := rds_eqv (V := V) (col := col) (rs := hsg (jns s.rows s.top col (s.rows.length - (s.top + 1))) s.top col) (t := s.top) (hsg_row (jns_row hr h _) (by omega)) (by rw [hsg_len]; omega) s.top (Nat.le_refl _)
  rw [hsg_len, hl] at h3
  rw [hl] at h2
  exact h1.trans (h2.trans h3)
theorem hred_eqv {R W K V : Nat} {s : HS} (h : HOk R W K s) : ∀ c, Eqv R R V (E s.rows) (E (hred s c).rows)
  | 0 => Eqv.refl _ _ _
  | c + 1 => by
    have ih := hred_eqv (V := V) h c
    have ho := hred_ok h c
    show Eqv R R V _ (E (if _ then _ else _ : HS).rows)
    split
    · rename_i ht
      have h2 := hcol_eqv (V := V) c ht ho.row
      rw [ho.len] at h2
      exact ih.trans h2
    · exact ih
/-! ### the form's shape -/
structure HI (R : Nat) (s : HS) (P : Nat → Nat) (c : Nat) : Prop where
 plt : ∀ i, i < s.top → P i < c
 pup : ∀ i j, i < j → j < s.top → P i < P j
 lead : ∀ i k, i < s.top → k < P i → E s.rows i k = 0
 pos : ∀ i, i < s.top → 0 < E s.rows i (P i)
 zero : ∀ i k, s.top ≤ i → i < R → k < c → E s.rows i k = 0
 red : ∀ i r, r < i → i < s.top → 0 ≤ E s.rows r (P i) ∧ E s.rows r (P i) < E s.rows i (P i)
theorem jns_zero {rs : List (List Int)} {t col W k : Nat} (hrow : ∀ r ∈ rs, r.length = W) (ht : t < rs.length) (h0 : ∀ i, t ≤ i → i < rs.length → E rs i k = 0) : ∀ n, t + 1 + n ≤ rs.length → ∀ i, t ≤ i → i < rs.length → E (jns rs t col n) i k = 0
  | 0, _ => h0
  | n + 1, hn => by
    have ih := jns_zero hrow ht (col := col) h0 n (by omega)
    have hl := jns_len rs t col n
    have hr := jns_row hrow ht (col := col) n
    intro i hi hiR
    show E (jn _ _ _ _) i k = 0
    unfold jn
    split
    · exact ih i hi hiR
    · have e1 : ((jns rs t col n).getD (t + 1 + n) []).length = ((jns rs t col n).getD t []).length := (all_getD hr (by omega)).trans (all_getD hr (by omega)).symm
      have z1 : cf ((jns rs t col n).getD t []) k = 0 := ih t (Nat.le_refl _) ht
      have z2 : cf ((jns rs t col n).getD (t + 1 + n) []) k = 0 := ih (t + 1 + n) (by omega) (by omega)
      rw [E_set (by rw [List.length_set]; omega), E_set (by omega)]
      split
      · rw [cf_mx2 e1, z1, z2]; omega
      · split
        · rw [cf_mx2 e1, z1, z2]; omega
        · exact ih i hi hiR
theorem jns_done {rs : List (List Int)} {t col W : Nat} (hrow : ∀ r ∈ rs, r.length = W) (ht : t < rs.length) : ∀ n, t + 1 + n ≤ rs.length → ∀ i, t < i → i < t + 1 + n → E (jns rs t col n) i col = 0
  | 0, _, i, h1, h2 => absurd h2 (by omega)
  | n + 1, hn, i, h1, h2 => by
    have ih := jns_done hrow ht (col := col) n (by omega)
    have hl := jns_len rs t col n
    have hr := jns_row hrow ht (col := col) n
    have e1 : ((jns rs t col n).getD (t + 1 + n) []).length = ((jns rs t col n).getD t []).length := (all_getD hr (by omega)).trans (all_getD hr (by omega)).symm
    show E (jn _ _ _ _) i col = 0
    unfold jn
    split
    · rename_i h0
      rcases Nat.lt_or_ge i (t + 1 + n) with h3 | h3
      · exact ih i h1 h3
      · rw [show i = t + 1 + n by omega]; exact (xgg_zero.1 h0).2
    · rename_i h0
      rw [E_set (by rw [List.length_set]; omega), E_set (by omega)]
      split
      · rw [cf_mx2 e1]
        obtain ⟨u, hu⟩ := xgg_left (cf ((jns rs t col n).getD t []) col) (cf ((jns rs t col n).getD (t + 1 + n) []) col)
        obtain ⟨v, hv⟩ := xgg_right (cf ((jns rs t col n).getD t []) col) (cf ((jns rs t col n).getD (t + 1 + n) []) col)
        generalize xgg (cf ((jns rs t col n).getD t []) col) (cf ((jns rs t col n).getD (t + 1 + n) []) col) = g at *
        generalize cf ((jns rs t col n).getD t []) col = a at *
        generalize cf ((jns rs t col n).getD (t + 1 + n) []) col = b at *
        subst hu; subst hv
        rw [Int.mul_tdiv_cancel_left _ h0, Int.mul_tdiv_cancel_left _ h0]
        grind
      · rename_i h3
        rw [if_neg (by omega)]
        exact ih i h1 (by omega)
theorem E_low {rs : List (List Int)} {t col n j : Nat} (hj : j < t) : E (jns rs t col n) j = E rs j := E_same (jns_off hj n)
theorem rds_at {rs : List (List Int)} {t col W : Nat} (hrow : ∀ r ∈ rs, r.length = W) (ht : t < rs.length) : ∀ n, n ≤ t → ∀ i k, E (rds rs t col n) i k = if i < n then E rs i k - (E rs i col / E rs t col) * E rs t k else E rs i k
  | 0, _, i, k => by rw [if_neg (by omega)]; rfl
  | n + 1, hn, i, k => by
    have ih := rds_at hrow ht (col := col) n (by omega)
    have hl := rds_len rs t col n
    have hr := rds_row hrow ht (col := col) n (by omega)
    show E (rd _ _ _ _) i k = _
    unfold rd
    rw [E_set (by omega)]
    have e1 : ∀ k, cf ((rds rs t col n).getD t []) k = E rs t k := fun k => (ih t k).trans (if_neg (by omega))
    have e2 : ∀ k, cf ((rds rs t col n).getD n []) k = E rs n k := fun k => (ih n k).trans (if_neg (by omega))
    split
    · rename_i h1
      subst h1
      rw [if_pos (by omega), cf_mx2 ((all_getD hr (by omega)).trans (all_getD hr (by omega)).symm), e1, e2, e1, e2]
      grind
    · rw [ih i k]
      by_cases h2 : i < n
      · rw [if_pos h2, if_pos (by omega)]
      · rw [if_neg h2, if_neg (by omega)]
theorem hsg_at {rs : List (List Int)} {t col : Nat} (ht : t < rs.length) (i k : Nat) : E (hsg rs t col) i k = if i = t ∧ E rs t col < 0 then -(E rs t k) else E rs i k := by
 unfold hsg
 have e : cf (rs.getD t []) col = E rs t col := rfl
 rw [e]
 split
 ·rename_i h
  rw [E_set ht]
  split
  ·rename_i h2
   rw [if_pos ⟨h2, h⟩, cf_mx2 rfl]
   show -1 * E rs t k + 0 * E rs t k = _
   omega
  ·rename_i h2
   rw [if_neg fun h3 => h2 h3.1]
 ·rename_i h
  rw [if_neg fun h3 => h h3.2]
theorem HI.step {R W : Nat} {s : HS} {P : Nat → Nat} {c : Nat} (h : HI R s P c) (hl : s.rows.length = R) (hr : ∀ r ∈ s.rows, r.length = W) (ht : s.top < R) : ∃ P', HI R (hcol s c) P' (c + 1) := by
 subst hl
 obtain ⟨A, hA⟩ : ∃ A, A = jns s.rows s.top c (s.rows.length - (s.top + 1)) := ⟨_, rfl⟩
 have hAl : A.length = s.rows.length := by rw [hA]; exact jns_len _ _ _ _
 have hAr : ∀ r ∈ A, r.length = W := by rw [hA]; exact jns_row hr ht _
 have hAlow : ∀ i, i < s.top → E A i = E s.rows i := fun i hi => by rw [hA]; exact E_low hi
 have hAz : ∀ i k, s.top ≤ i → i < s.rows.length → k < c → E A i k = 0 := fun i k h1 h2 h3 => by rw [hA]; exact jns_zero hr ht (fun j g1 g2 => h.zero j k g1 g2 h3) _ (by omega) i h1 h2
 have hAd : ∀ i, s.top < i → i < s.rows.length → E A i c = 0 := fun i h1 h2 => by rw [hA]; exact jns_done hr ht _ (by omega) i h1 (by omega)
 have he : hcol s c = if E A s.top c = 0 then ⟨A, s.top⟩ else ⟨rds (hsg A s.top c) s.top c s.top, s.top + 1⟩ := by rw [hA]; rfl
 rw [he]
 by_cases h0 : E A s.top c = 0
 ·rw [if_pos h0]
  refine ⟨P, fun i hi => Nat.lt_succ_of_lt (h.plt i hi), h.pup, fun i k hi hk => ?_, fun i hi => ?_, fun i k h1 h2 h3 => ?_, fun i r h1 h2 => ?_⟩
  ·show E A i k = 0; rw [hAlow i hi]; exact h.lead i k hi hk
  ·show 0 < E A i (P i); rw [hAlow i hi]; exact h.pos i hi
  ·show E A i k = 0
   rcases Nat.lt_or_ge k c with h4 | h4
   ·exact hAz i k h1 h2 h4
   ·obtain rfl : k = c := by omega
    rcases Nat.lt_or_ge s.top i with h5 | h5
    ·exact hAd i h5 h2
    ·have h6 : s.top ≤ i := h1
     rw [show i = s.top by omega]; exact h0
  ·show 0 ≤ E A r (P i) ∧ E A r (P i) < E A i (P i)
   have h2' : i < s.top := h2
   rw [hAlow i h2, hAlow r (by omega)]; exact h.red i r h1 h2
 ·rw [if_neg h0]
  obtain ⟨B, hB⟩ : ∃ B, B = hsg A s.top c := ⟨_, rfl⟩
  have hBat : ∀ i k, E B i k = if i = s.top ∧ E A s.top c < 0 then -(E A s.top k) else E A i k := by rw [hB]; exact hsg_at (by omega)
  have hBl : B.length = s.rows.length := by rw [hB, hsg_len, hAl]
  have hBr : ∀ r ∈ B, r.length = W := by rw [hB]; exact hsg_row hAr (by omega)
  have hBc : 0 < E B s.top c := by
   rw [hBat]
   by_cases h1 : E A s.top c < 0
   ·rw [if_pos ⟨rfl, h1⟩]; omega
   ·rw [if_neg fun h2 => h1 h2.2]; omega
  have hBlow : ∀ i k, i ≠ s.top → E B i k = E A i k := fun i k hi => by rw [hBat, if_neg fun h2 => hi h2.1]
  have hBz : ∀ k, k < c → E B s.top k = 0 := fun k hk => by
   rw [hBat]
   have := hAz s.top k (Nat.le_refl _) ht hk
   split <;> omega
  rw [← hB]
  have hDat := rds_at (col := c) hBr (show s.top < B.length by omega) s.top (Nat.le_refl _)
  obtain ⟨D, hD⟩ : ∃ D, D = rds B s.top c s.top := ⟨_, rfl⟩
  rw [← hD] at hDat ⊢
  have hDlow : ∀ i k, i < s.top → k < c → E D i k = E s.rows i k := fun i k hi hk => by
   rw [hDat, if_pos hi, hBz k hk, Int.mul_zero, Int.sub_zero, hBlow i k (by omega), hAlow i hi]
  refine ⟨fun i => if i = s.top then c else P i, fun i hi => ?_, fun i j h1 h2 => ?_, fun i k hi hk => ?_, fun i hi => ?_, fun i k h1 h2 h3 => ?_, fun i r h1 h2 => ?_⟩
  ·have hi' : i < s.top + 1 := hi
   show (if i = s.top then c else P i) < c + 1
   split
   ·omega
   ·have := h.plt i (by omega); omega
  ·have h2' : j < s.top + 1 := h2
   show (if i = s.top then c else P i) < if j = s.top then c else P j
   rw [if_neg (show ¬ i = s.top by omega)]
   split
   ·exact h.plt i (by omega)
   ·exact h.pup i j h1 (by omega)
  ·have hi' : i < s.top + 1 := hi
   show E D i k = 0
   by_cases e : i = s.top
   ·simp only [if_pos e] at hk
    subst e
    rw [hDat, if_neg (by omega)]; exact hBz k hk
   ·simp only [if_neg e] at hk
    have := h.plt i (by omega)
    rw [hDlow i k (by omega) (by omega)]; exact h.lead i k (by omega) hk
  ·have hi' : i < s.top + 1 := hi
   show 0 < E D i (if i = s.top then c else P i)
   by_cases e : i = s.top
   ·rw [if_pos e, e, hDat, if_neg (by omega)]; exact hBc
   ·rw [if_neg e, hDlow i _ (by omega) (h.plt i (by omega))]; exact h.pos i (by omega)
  ·have h1' : s.top + 1 ≤ i := h1
   show E D i k = 0
   rw [hDat, if_neg (by omega), hBlow i k (by omega)]
   rcases Nat.lt_or_ge k c with h4 | h4
   ·exact hAz i k (by omega) h2 h4
   ·obtain rfl : k = c := by omega
    exact hAd i (by omega) h2
  ·have h2' : i < s.top + 1 := h2
   show 0 ≤ E D r (if i = s.top then c else P i) ∧ E D r (if i = s.top then c else P i) < E D i (if i = s.top then c else P i)
   by_cases e : i = s.top
   ·rw [if_pos e, e, hDat r, if_pos (by omega), hDat s.top, if_neg (by omega)]
    have e1 := Int.emod_nonneg (E B r c) (show E B s.top c ≠ 0 by omega)
    have e2 := Int.emod_lt_of_pos (E B r c) hBc
    have e3 := Int.emod_add_mul_ediv (E B r c) (E B s.top c)
    rw [Int.mul_comm] at e3
    omega
   ·have := h.plt i (by omega)
    rw [if_neg e, hDlow i _ (by omega) this, hDlow r _ (by omega) this]
    exact h.red i r h1 (by omega)
theorem HI.start (R : Nat) (rows : List (List Int)) : HI R ⟨rows, 0⟩ (fun _ => 0) 0 where
 plt i h := absurd h (Nat.not_lt_zero _)
 pup i j _ h := absurd h (Nat.not_lt_zero _)
 lead i k h := absurd h (Nat.not_lt_zero _)
 pos i h := absurd h (Nat.not_lt_zero _)
 zero i k _ _ h := absurd h (Nat.not_lt_zero _)
 red i r _ h := absurd h (Nat.not_lt_zero _)
theorem HI.wait {R : Nat} {s : HS} {P : Nat → Nat} {c : Nat} (h : HI R s P c) (ht : R ≤ s.top) : HI R s P (c + 1) where
 plt i hi := Nat.lt_succ_of_lt (h.plt i hi)
 pup := h.pup
 lead := h.lead
 pos := h.pos
 zero i k h1 h2 _ := absurd h2 (by omega)
 red := h.red
theorem hred_HI {R W K : Nat} {rows : List (List Int)} (h : HOk R W K ⟨rows, 0⟩) : ∀ c, ∃ P, HI R (hred ⟨rows, 0⟩ c) P c
  | 0 => ⟨_, HI.start R rows⟩
  | c + 1 => by
    obtain ⟨P, hP⟩ := hred_HI h c
    have ho := hred_ok h c
    show ∃ P, HI R (if (hred ⟨rows, 0⟩ c).top < (hred ⟨rows, 0⟩ c).rows.length then hcol (hred ⟨rows, 0⟩ c) c else hred ⟨rows, 0⟩ c) P (c + 1)
    split
    · rename_i ht
      exact hP.step ho.len ho.row (by rw [ho.len] at ht; exact ht)
    · rename_i ht
      exact ⟨P, hP.wait (by rw [ho.len] at ht; omega)⟩
theorem HI.form {R C : Nat} {s : HS} {P : Nat → Nat} (h : HI R s P C) : HermF R C (E s.rows) := by
 have hfc : ∀ i, i < R → (i < s.top → fc C (E s.rows i) = P i) ∧ (s.top ≤ i → fc C (E s.rows i) = C) := fun i hi => by
  refine ⟨fun h1 => fc_at (h.plt i h1) (fun k hk => h.lead i k h1 hk) (by have := h.pos i h1; omega), fun h1 => fc_all fun k hk => h.zero i k h1 hi hk⟩
 intro i hi hc
 have hit : i < s.top := by
  rcases Nat.lt_or_ge i s.top with h1 | h1
  ·exact h1
  ·have := (hfc i hi).2 h1; omega
 rw [(hfc i hi).1 hit]
 refine ⟨fun h0 => by rw [(hfc (i - 1) (by omega)).1 (by omega)]; exact h.pup _ _ (by omega) hit, h.pos i hit, fun r hr => h.red i r hr hit⟩
/-! ### all of it -/
theorem row0_E {C R : Nat} {L : List Int} {i : Nat} (hi : i < R) (k : Nat) : E (rows0 C R L R) i k = if k < C + R then (if k < C then cf L (i * C + k) else if k = C + i then 1 else 0) else 0 := by
 have h : (rows0 C R L R)[i]? = some (row0 C R L i) := by unfold rows0; rw [List.getElem?_map, List.getElem?_range hi]; rfl
 rw [E_of h]
 unfold row0
 rw [cf_tab]
def hF (R C : Nat) (L : List Int) : MatF := fun i k => E (hrm R C L).rows i k
def uF (R C : Nat) (L : List Int) : MatF := fun i j => E (hrm R C L).rows i (C + j)
theorem hrm_form {R C K : Nat} {L : List Int} (h : Bd L K) : HermF R C (hF R C L) := by
 obtain ⟨P, hP⟩ := hred_HI (rows0_ok (R := R) (C := C) h) C
 exact hP.form
theorem hrm_all {R C K : Nat} {L : List Int} (h : Bd L K) : Eqv R R (C + R) (E (rows0 C R L R)) (E (hrm R C L).rows) := hred_eqv (rows0_ok h) C
theorem hrm_eqv {R C K : Nat} {L : List Int} (h : Bd L K) : Eqv R R C (mf C L) (hF R C L) := by
 refine Eqv.trans (Eqv.of_eq fun i k hi hk => ?_) ((hrm_all h).mono (Nat.le_add_right _ _))
 rw [row0_E hi, if_pos (by omega), if_pos hk]; rfl
end Go.Hp
namespace Go.Hp
open Go.Dt Go.Hn Go.Pz Go.Nt Go.Mz Go.En
def hL (R C : Nat) (L : List Int) : List Int := flatP 0 C (hrm R C L).rows
def uL (R C : Nat) (L : List Int) : List Int := flatP C (C + R) (hrm R C L).rows
theorem hrm_ok {R C K : Nat} {L : List Int} (h : Bd L K) : HOk R (C + R) ((K + 4) * (R + 2) ^ C - 3) (hrm R C L) := hred_ok (rows0_ok h) C
theorem hL_tab {R C K : Nat} {L : List Int} (h : Bd L K) : hL R C L = tab (R * C) C (hF R C L) := by
 have ho := hrm_ok (R := R) (C := C) h
 unfold hL
 rw [flatP_tab (Nat.zero_le _) (Nat.le_add_right C R) ho.row, ho.len]
 show tab (R * C) C _ = _
 refine congrArg _ ?_
 funext i k
 rw [Nat.zero_add]; rfl
theorem uL_tab {R C K : Nat} {L : List Int} (h : Bd L K) : uL R C L = tab (R * R) R (uF R C L) := by
 have ho := hrm_ok (R := R) (C := C) h
 unfold uL
 rw [flatP_tab (Nat.le_add_right C R) (Nat.le_refl _) ho.row, ho.len, Nat.add_sub_cancel_left]
 rfl
theorem hL_len {R C K : Nat} {L : List Int} (h : Bd L K) : (hL R C L).length = R * C := by rw [hL_tab h, tab_len]
theorem uL_len {R C K : Nat} {L : List Int} (h : Bd L K) : (uL R C L).length = R * R := by rw [uL_tab h, tab_len]
theorem E_bd {rs : List (List Int)} {K : Nat} (h : ∀ r ∈ rs, Bd r K) (i k : Nat) : (List.length (words (E rs i k).natAbs)) ≤ K := getD_bd h i k
theorem hL_bd {R C K : Nat} {L : List Int} (h : Bd L K) : Bd (hL R C L) ((K + 4) * (R + 2) ^ C) := by
 rw [hL_tab h]
 exact (Bd_tab fun i k => E_bd (hrm_ok (R := R) (C := C) h).bd i k).mono (Nat.sub_le _ _)
theorem uL_bd {R C K : Nat} {L : List Int} (h : Bd L K) : Bd (uL R C L) ((K + 4) * (R + 2) ^ C) := by
 rw [uL_tab h]
 exact (Bd_tab fun i k => E_bd (hrm_ok (R := R) (C := C) h).bd i (C + k)).mono (Nat.sub_le _ _)
theorem hL_at {R C K i k : Nat} {L : List Int} (h : Bd L K) (hi : i < R) (hk : k < C) : mf C (hL R C L) i k = hF R C L i k := by
 show cf _ (i * C + k) = _
 rw [hL_tab h, cf_tab' _ hk (place_lt hi hk)]
theorem hL_form {R C K : Nat} {L : List Int} (h : Bd L K) : HermF R C (mf C (hL R C L)) := (hrm_form h).congr fun i k hi hk => hL_at h hi hk
theorem hL_eqv {R C K : Nat} {L : List Int} (h : Bd L K) : Eqv R R C (mf C L) (mf C (hL R C L)) := (hrm_eqv h).trans (Eqv.of_eq fun i k hi hk => (hL_at h hi hk).symm)
theorem place_of {R C j : Nat} (h : j < R * C) : ∃ i k, i < R ∧ k < C ∧ j = i * C + k := by
 have hC : 0 < C := by
  rcases Nat.eq_zero_or_pos C with h0 | h0
  ·subst h0; rw [Nat.mul_zero] at h; omega
  ·exact h0
 have h1 := Nat.div_add_mod j C
 rw [Nat.mul_comm] at h1
 exact ⟨j / C, j % C, Nat.div_lt_of_lt_mul (by rwa [Nat.mul_comm]), Nat.mod_lt _ hC, by omega⟩
noncomputable def hermB (R C : Nat) (A : MatF) : Bool := @decide (HermF R C A) (Classical.propDecidable _)
theorem hermB_iff {R C : Nat} {A : MatF} : hermB R C A = true ↔ HermF R C A := by unfold hermB; exact @decide_eq_true_iff _ (Classical.propDecidable _)
theorem hermB_no {R C : Nat} {A : MatF} (h : ¬ HermF R C A) : false = hermB R C A := by
 cases e : hermB R C A with
 | false => rfl
 | true => exact absurd (hermB_iff.1 e) h
theorem hermB_yes {R C : Nat} {A : MatF} (h : HermF R C A) : true = hermB R C A := (hermB_iff.2 h).symm
theorem HermF.snoc {n C : Nat} {A : MatF} (h : HermF n C A) (h2 : fc C (A n) < C → (0 < n → fc C (A (n - 1)) < fc C (A n)) ∧ 0 < A n (fc C (A n)) ∧ ∀ r, r < n → 0 ≤ A r (fc C (A n)) ∧ A r (fc C (A n)) < A n (fc C (A n))) : HermF (n + 1) C A := fun i hi hc => by
 rcases Nat.lt_or_ge i n with h1 | h1
 ·exact h i h1 hc
 ·obtain rfl : i = n := by omega
  exact h2 hc
end Go.Hp
namespace Go.Hp
open Go.Dt Go.Hn Go.Pz Go.Nt Go.Mz Go.En
def fir (C : Nat) (f : Nat → Int) : Int := if fc C f < C then ((fc C f : Nat) : Int) else -1
theorem fir_at {C i : Nat} {f : Nat → Int} (hi : i < C) (h0 : ∀ j, j < i → f j = 0) (h : f i ≠ 0) : fir C f = (i : Int) := by
 have := fc_at hi h0 h
 unfold fir
 rw [this, if_pos hi]
theorem fir_all {C : Nat} {f : Nat → Int} (h : ∀ j, j < C → f j = 0) : fir C f = -1 := by
 unfold fir
 rw [fc_all h, if_neg (Nat.lt_irrefl _)]
theorem fir_congr {C : Nat} {f g : Nat → Int} (h : ∀ k, k < C → f k = g k) : fir C f = fir C g := by unfold fir; rw [fc_congr h]
theorem fir_lt {C : Nat} {f : Nat → Int} (h : 0 ≤ fir C f) : fc C f < C := by
 unfold fir at h
 split at h
 ·assumption
 ·omega
theorem fir_no {C : Nat} {f : Nat → Int} (h : fir C f < 0) : ¬ fc C f < C := fun h2 => by
 unfold fir at h
 rw [if_pos h2] at h; omega
theorem vals_drop (xs : List (Bool × List Nat)) (n : Nat) : vals (xs.drop n) = (vals xs).drop n := List.map_drop
theorem vals_take (xs : List (Bool × List Nat)) (n : Nat) : vals (xs.take n) = (vals xs).take n := List.map_take
theorem cf_part_row {xs : List (Bool × List Nat)} {a b k : Nat} (h : a + k < b) : cf (vals ((xs.take b).drop a)) k = cf (vals xs) (a + k) := by
 rw [vals_drop, vals_take]
 unfold cf
 rw [List.getD, List.getElem?_drop, List.getElem?_take_of_lt h]; rfl
def pivL (C : Nat) (A : MatF) : Nat → List Nat
 | 0 => []
 | n + 1 => if fc C (A n) < C then pivL C A n ++ [fc C (A n)] else pivL C A n
theorem pivL_yes {C n : Nat} {A : MatF} (h : fc C (A n) < C) : pivL C A (n + 1) = pivL C A n ++ [fc C (A n)] := if_pos h
theorem pivL_no {C n : Nat} {A : MatF} (h : ¬ fc C (A n) < C) : pivL C A (n + 1) = pivL C A n := if_neg h
theorem pivL_len (C : Nat) (A : MatF) : ∀ n, (pivL C A n).length ≤ n
  | 0 => Nat.le_refl _
  | n + 1 => by
    have := pivL_len C A n
    by_cases h : fc C (A n) < C
    · rw [pivL_yes h, List.length_append]; show _ + 1 ≤ _; omega
    · rw [pivL_no h]; omega
theorem pv_app (l : List Nat) (n : Nat) : pv (l ++ [n]) = pv l ++ [(n : Int)] := by unfold pv; rw [List.map_append]; rfl
theorem ext_cf {a b : List Int} (hl : a.length = b.length) (h : ∀ j, j < a.length → cf a j = cf b j) : a = b := by
 refine List.ext_getElem? fun j => ?_
 rcases Nat.lt_or_ge j a.length with h1 | h1
 ·rw [getElem_cf h1, getElem_cf (by omega), h j h1]
 ·rw [List.getElem?_eq_none h1, List.getElem?_eq_none (by omega)]
theorem is_dead131 {R C i : Nat} {A : MatF} {last : Int} {ended : Bool} (hi : i < R) (hfk : fc C (A i) < C) (hh : HermF R C A) (hE1 : ended = true → 0 < i ∧ fc C (A (i - 1)) = C) (hE2 : ended = false → last = if i = 0 then -1 else ((fc C (A (i - 1)) : Nat) : Int))
    (h : ended = true ∨ ((fc C (A i) : Nat) : Int) ≤ last ∨ sgn (A i (fc C (A i))) < 0) : False := by
  obtain ⟨h1, h2, _⟩ := hh i hi hfk
  have hs := sgn_lt (A i (fc C (A i)))
  cases he : ended with
  | true =>
    obtain ⟨h3, h4⟩ := hE1 he
    have := h1 h3; omega
  | false =>
    have h5 := hE2 he
    rcases h with h | h | h
    · rw [he] at h; cases h
    · by_cases h0 : i = 0
      · rw [if_pos h0] at h5; omega
      · rw [if_neg h0] at h5
        have := h1 (by omega); omega
    · omega
end Go.Hp
namespace Go.Hp
open Go.Dt Go.Hn Go.Pz Go.Nt Go.Mz Go.En
def rowL (C : Nat) (L : List Int) (i : Nat) : List Int := (List.range C).map fun k => cf L (i * C + k)
theorem rowL_len (C : Nat) (L : List Int) (i : Nat) : (rowL C L i).length = C := by unfold rowL; rw [List.length_map, List.length_range]
theorem cf_rowL {C i k : Nat} {L : List Int} (h : k < C) : cf (rowL C L i) k = mf C L i k := by unfold rowL; rw [cf_tab, if_pos h]; rfl
theorem rowL_of {C i : Nat} {xs : List (Bool × List Nat)} (h : (i + 1) * C ≤ xs.length) : vals ((xs.take ((i + 1) * C)).drop (i * C)) = rowL C (vals xs) i := by
 have h2 : (i + 1) * C = i * C + C := Nat.succ_mul _ _
 have hl : (vals ((xs.take ((i + 1) * C)).drop (i * C))).length = C := by rw [vals_len, List.length_drop, List.length_take]; omega
 refine ext_cf (by rw [hl, rowL_len]) fun j hj => ?_
 rw [hl] at hj
 rw [cf_part_row (by omega), cf_rowL hj]; rfl
def crs (C : Nat) (L v : List Int) : Nat → List Int
 | 0 => v
 | n + 1 => mx2 1 (crs C L v n) (-(cf (crs C L v n) (fc C (mf C L n)) / mf C L n (fc C (mf C L n)))) (rowL C L n)
def crn (C : Nat) (L v : List Int) (n : Nat) : Int := cf (crs C L v n) (fc C (mf C L n)) / mf C L n (fc C (mf C L n))
theorem crs_len {C : Nat} {L v : List Int} (hv : v.length = C) : ∀ n, (crs C L v n).length = C
 | 0 => hv
 | n + 1 => (mx2_len _ _ _ _).trans (crs_len hv n)
theorem crs_at {C n k : Nat} {L v : List Int} (hv : v.length = C) (hk : k < C) : cf (crs C L v (n + 1)) k = cf (crs C L v n) k - crn C L v n * mf C L n k := by
 show cf (mx2 _ _ _ _) k = _
 rw [cf_mx2 (by rw [rowL_len, crs_len hv]), cf_rowL hk]
 show 1 * cf (crs C L v n) k + (-(crn C L v n)) * mf C L n k = _
 grind
theorem crs_bd {C K Kv : Nat} {L v : List Int} (hL : Bd L K) (hv : Bd v Kv) : ∀ n, (∀ i, i < n → 0 < mf C L i (fc C (mf C L i))) → Bd (crs C L v n) (Kv + n * (K + 2))
  | 0, _ => hv.mono (by omega)
  | n + 1, h => by
    have ih := crs_bd hL hv n fun i hi => h i (by omega)
    have h1 : (List.length (words (1 : Int).natAbs)) ≤ 1 := nw_small' (by decide)
    have hr : Bd (rowL C L n) K := fun k => by
      unfold rowL
      rw [cf_tab]
      split
      · exact hL _
      · rw [Int.natAbs_zero, words_zero]; exact Nat.zero_le _
    exact Bd_mx2 (A := 1) (B := Kv + n * (K + 2)) h1 ih (by rw [Int.natAbs_neg]; exact div_nw (h n (by omega)) (ih _)) hr (by rw [Nat.succ_mul]; omega) (by rw [Nat.succ_mul]; omega)
theorem HermF.sub {R C n : Nat} {A : MatF} (h : HermF R C A) (hn : n ≤ R) : HermF n C A := fun i hi hc => h i (by omega) hc
theorem herm_piv {C : Nat} {A : MatF} : ∀ {R : Nat}, HermF R C A → ∃ P, P ≤ R ∧ (∀ i, i < P → fc C (A i) < C) ∧ (∀ i, P ≤ i → i < R → ¬ fc C (A i) < C) ∧ pivL C A R = (List.range P).map fun i => fc C (A i)
  | 0, _ => ⟨0, Nat.le_refl _, fun i h => absurd h (Nat.not_lt_zero _), fun i _ h => absurd h (Nat.not_lt_zero _), rfl⟩
  | n + 1, h => by
    obtain ⟨P, h1, h2, h3, h4⟩ := herm_piv (h.sub (Nat.le_succ n))
    by_cases hf : fc C (A n) < C
    · have hP : P = n := by
        rcases Nat.lt_or_ge P n with h5 | h5
        · have h6 := (h n (by omega) hf).1 (by omega)
          exact absurd (by omega) (h3 (n - 1) (by omega) (by omega))
        · omega
      subst hP
      refine ⟨P + 1, Nat.le_refl _, fun i hi => ?_, fun i g1 g2 => by omega, ?_⟩
      · rcases Nat.lt_or_ge i P with h5 | h5
        · exact h2 i h5
        · rw [show i = P by omega]; exact hf
      · rw [pivL_yes hf, h4, List.range_succ, List.map_append]; rfl
    · refine ⟨P, by omega, h2, fun i g1 g2 => ?_, by rw [pivL_no hf]; exact h4⟩
      rcases Nat.lt_or_ge i n with h5 | h5
      · exact h3 i g1 h5
      · rw [show i = n by omega]; exact hf
noncomputable def spB (R C : Nat) (A : MatF) (v : Nat → Int) : Bool := @decide (SpZ R C A v) (Classical.propDecidable _)
theorem spB_iff {R C : Nat} {A : MatF} {v : Nat → Int} : spB R C A v = true ↔ SpZ R C A v := by unfold spB; exact @decide_eq_true_iff _ (Classical.propDecidable _)
theorem sm_less {P R : Nat} {f : Nat → Int} (hP : P ≤ R) (h : ∀ i, P ≤ i → i < R → f i = 0) : sm R f = sm P f := by
  induction R with
  | zero => rw [show P = 0 by omega]
  | succ n ih =>
    rcases Nat.lt_or_ge n P with h1 | h1
    · rw [show P = n + 1 by omega]
    · show sm n f + f n = _
      rw [h n h1 (by omega), Int.add_zero]
      exact ih h1 fun i g1 g2 => h i g1 (by omega)
theorem crs_sum {C : Nat} {L v : List Int} (hv : v.length = C) {k : Nat} (hk : k < C) : ∀ n, cf v k = (sm n fun i => crn C L v i * mf C L i k) + cf (crs C L v n) k
  | 0 => by show _ = 0 + _; rw [Int.zero_add]; rfl
  | n + 1 => by
    rw [crs_sum (L := L) hv hk n, crs_at hv hk]
    show _ = ((sm n fun i => crn C L v i * mf C L i k) + crn C L v n * mf C L n k) + _
    omega
theorem crs_in {R C P : Nat} {L v : List Int} (hv : v.length = C) (hP : P ≤ R) (h : ∀ k, k < C → cf (crs C L v P) k = 0) : SpZ R C (mf C L) (cf v) := by
 refine ⟨fun i => if i < P then crn C L v i else 0, fun k hk => ?_⟩
 rw [crs_sum (L := L) hv hk P, h k hk, Int.add_zero, sm_less hP fun i g1 g2 => by show (if i < P then crn C L v i else 0) * _ = 0; rw [if_neg (by omega), Int.zero_mul]]
 exact sm_congr fun i hi => by show _ = (if i < P then crn C L v i else 0) * _; rw [if_pos hi]
theorem crs_out {R C P : Nat} {L v : List Int} (hF : HermF R C (mf C L)) (hv : v.length = C) (hP : P ≤ R) (h1 : ∀ i, i < P → fc C (mf C L i) < C) (h2 : ∀ i, P ≤ i → i < R → ¬ fc C (mf C L i) < C) (hs : SpZ R C (mf C L) (cf v)) : ∀ k, k < C → cf (crs C L v P) k = 0 := by
  obtain ⟨a, ha⟩ := hs
  have key : ∀ n, n ≤ P → ∃ a : Nat → Int, (∀ i, i < n → a i = 0) ∧ ∀ k, k < C → cf (crs C L v n) k = sm R fun i => a i * mf C L i k := by
    intro n
    induction n with
    | zero => intro _; exact ⟨a, fun i hi => absurd hi (Nat.not_lt_zero _), ha⟩
    | succ n ih =>
      intro hn
      obtain ⟨a, ha0, ha1⟩ := ih (by omega)
      have hfn := h1 n (by omega)
      have hp := (hF n (by omega) hfn).2.1
      have hpv : cf (crs C L v n) (fc C (mf C L n)) = a n * mf C L n (fc C (mf C L n)) := by
        rw [ha1 _ hfn]
        refine sm_one (by omega) fun i hi hne => ?_
        rcases Nat.lt_or_ge i n with h3 | h3
        · rw [ha0 i h3, Int.zero_mul]
        · rw [hF.later (show n < i by omega) hi hfn (Nat.le_refl _), Int.mul_zero]
      have hc : crn C L v n = a n := by
        unfold crn
        rw [hpv, Int.mul_ediv_cancel _ (by omega)]
      refine ⟨fun i => if i = n then 0 else a i, fun i hi => ?_, fun k hk => ?_⟩
      · show (if i = n then 0 else a i) = 0
        split
        · rfl
        · exact ha0 i (by omega)
      · show cf (crs C L v (n + 1)) k = sm R fun i => (if i = n then 0 else a i) * mf C L i k
        rw [crs_at hv hk, hc, ha1 k hk]
        have e1 : (sm R fun i => a i * mf C L i k) = sm R fun i => 1 * ((if i = n then 0 else a i) * mf C L i k) + a n * ((if i = n then 1 else 0) * mf C L i k) := sm_congr fun i _ => by
          by_cases h3 : i = n
          · subst h3; simp
          · simp [h3]
        rw [e1, sm_lin, sm_pick1 (fun i => mf C L i k) (show n < R by omega)]
        omega
  intro k hk
  obtain ⟨a, ha0, ha1⟩ := key P (Nat.le_refl _)
  rw [ha1 k hk]
  refine sm_zero fun i hi => ?_
  rcases Nat.lt_or_ge i P with h3 | h3
  · rw [ha0 i h3, Int.zero_mul]
  · have h4 := h2 i h3 hi
    rw [fc_zero (f := mf C L i) (C := C) (k := k) (by omega), Int.mul_zero]
def coL (R C P : Nat) (L v : List Int) : List Int := (List.range R).map fun i => if i < P then crn C L v i else 0
theorem coL_len (R C P : Nat) (L v : List Int) : (coL R C P L v).length = R := by unfold coL; rw [List.length_map, List.length_range]
theorem coL_at {R C P n : Nat} {L v : List Int} (h : n < P) (hP : P ≤ R) : ((coL R C P L v).map nz)[n]? = some (nz (crn C L v n)) := by
 rw [List.getElem?_map]
 unfold coL
 rw [List.getElem?_map, List.getElem?_range (by omega)]
 show some (nz (if n < P then _ else _)) = _
 rw [if_pos h]
theorem coL_fill {R C P n m : Nat} {L v : List Int} (hP : P ≤ R) (hn : n = P) (hm : m = R) : (fill ((coL R C P L v).map nz) n (false, [])).take m = (coL R C P L v).map nz := by
 subst hn; subst hm
 have hl : ((coL m C n L v).map nz).length = m := by rw [List.length_map, coL_len]
 refine List.ext_getElem? fun j => ?_
 rcases Nat.lt_or_ge j m with hj | hj
 ·rw [List.getElem?_take_of_lt hj]
  unfold fill
  by_cases h2 : j < n
  ·rw [List.getElem?_append_left (by rw [List.length_take]; omega), List.getElem?_take_of_lt h2]
  ·rw [List.getElem?_append_right (by rw [List.length_take]; omega), List.length_take, List.getElem?_replicate, if_pos (by omega), List.getElem?_map]
   unfold coL
   rw [List.getElem?_map, List.getElem?_range hj]
   show some (false, []) = some (nz (if j < n then _ else 0))
   rw [if_neg h2, nz_zero]
 ·rw [List.getElem?_eq_none (by rw [List.length_take]; omega), List.getElem?_eq_none (by omega)]
theorem left_sp {R C P : Nat} {L v : List Int} (hF : HermF R C (mf C L)) (hv : v.length = C) (hP : P ≤ R) (h1 : ∀ i, i < P → fc C (mf C L i) < C) (h2 : ∀ i, P ≤ i → i < R → ¬ fc C (mf C L i) < C) : decide (0 ≤ fir C (cf (crs C L v P))) = !spB R C (mf C L) (cf v) := by
 by_cases hs : SpZ R C (mf C L) (cf v)
 ·rw [spB_iff.2 hs, fir_all (crs_out hF hv hP h1 h2 hs)]; rfl
 ·have hb : spB R C (mf C L) (cf v) = false := by
   cases e : spB R C (mf C L) (cf v) with
   | false => rfl
   | true => exact absurd (spB_iff.1 e) hs
  rw [hb]
  refine decide_eq_true ?_
  refine Classical.byContradiction fun h => hs (crs_in hv hP fun k hk => ?_)
  have := fir_no (by omega : fir C (cf (crs C L v P)) < 0)
  exact fc_zero (f := cf (crs C L v P)) (C := C) (by have := fc_le (cf (crs C L v P)) C; omega)
/-! ### rows within others -/
noncomputable def winB (R R' C : Nat) (A B : MatF) : Bool := @decide (∀ i, i < R → SpZ R' C B (A i)) (Classical.propDecidable _)
theorem winB_iff {R R' C : Nat} {A B : MatF} : winB R R' C A B = true ↔ ∀ i, i < R → SpZ R' C B (A i) := by unfold winB; exact @decide_eq_true_iff _ (Classical.propDecidable _)
theorem winB_no {R R' C : Nat} {A B : MatF} (h : ¬ ∀ i, i < R → SpZ R' C B (A i)) : winB R R' C A B = false := by
 cases e : winB R R' C A B with
 | false => rfl
 | true => exact absurd (winB_iff.1 e) h
theorem sp_row {R' C i K : Nat} {L : List Int} {xs : List (Bool × List Nat)} (hb : Bd L K) : spB R' C (mf C (hL R' C L)) (cf (rowL C (vals xs) i)) = true ↔ SpZ R' C (mf C L) (mf C (vals xs) i) := by
 rw [spB_iff]
 constructor
 ·intro h; exact (h.trans (hL_eqv hb).2).congr fun k hk => (cf_rowL hk).symm
 ·intro h; exact (h.trans (hL_eqv hb).1).congr fun k hk => cf_rowL hk
def latL (R C : Nat) (L : List Int) : List Int := tab ((pivL C (mf C (hL R C L)) R).length * C) C fun i k => cf (hL R C L) ((0 + i) * C + k)
theorem latL_at {R C i k : Nat} {L : List Int} (hi : i < (pivL C (mf C (hL R C L)) R).length) (hk : k < C) : mf C (latL R C L) i k = mf C (hL R C L) i k := by
 show cf _ (i * C + k) = _
 unfold latL
 rw [cf_tab' _ hk (place_lt hi hk), Nat.zero_add]; rfl
theorem latL_eqv {R C K : Nat} {L : List Int} (hb : Bd L K) : Eqv R (pivL C (mf C (hL R C L)) R).length C (mf C L) (mf C (latL R C L)) := by
 obtain ⟨P, h1, h2, h3, h4⟩ := herm_piv (hL_form (R := R) (C := C) hb)
 have hP : (pivL C (mf C (hL R C L)) R).length = P := by rw [h4, List.length_map, List.length_range]
 have hat : ∀ i k, i < P → k < C → mf C (latL R C L) i k = mf C (hL R C L) i k := fun i k hi hk => latL_at (by omega) hk
 refine (hL_eqv hb).trans ⟨fun i hi => ?_, fun i hi => ?_⟩
 ·rcases Nat.lt_or_ge i P with h5 | h5
  ·exact (SpZ.row (mf C (latL R C L)) (by omega)).congr fun k hk => (hat i k h5 hk).symm
  ·refine (SpZ.zero _).congr fun k hk => fc_zero (f := mf C (hL R C L) i) (C := C) ?_
   have := h3 i h5 hi
   omega
 ·exact (SpZ.row (mf C (hL R C L)) (by omega)).congr fun k hk => hat i k (by omega) hk
theorem lat_same {R R' C K K' : Nat} {L L' : List Int} (hb : Bd L K) (hb' : Bd L' K') :
  ((pivL C (mf C (hL R C L)) R).length = (pivL C (mf C (hL R' C L')) R').length ∧ latL R C L = latL R' C L') ↔ Eqv R R' C (mf C L) (mf C L') := by
 constructor
 ·rintro ⟨h1, h2⟩
  have e1 := latL_eqv (R := R) (C := C) hb
  have e2 := latL_eqv (R := R') (C := C) hb'
  rw [h1, h2] at e1
  exact e1.trans e2.symm
 ·intro h
  have he : Eqv R R' C (mf C (hL R C L)) (mf C (hL R' C L')) := (hL_eqv hb).symm.trans (h.trans (hL_eqv hb'))
  have f1 := hL_form (R := R) (C := C) hb
  have f2 := hL_form (R := R') (C := C) hb'
  obtain ⟨P, h1, h2, h3, h4⟩ := herm_piv f1
  obtain ⟨P', h1', h2', h3', h4'⟩ := herm_piv f2
  have hP : (pivL C (mf C (hL R C L)) R).length = P := by rw [h4, List.length_map, List.length_range]
  have hP' : (pivL C (mf C (hL R' C L')) R').length = P' := by rw [h4', List.length_map, List.length_range]
  have hPP : P = P' := by
   rcases Nat.lt_trichotomy P P' with g | g | g
   ·have := (form_fc f1 f2 he P).2 (by omega) (h2' P g)
    exact absurd (by rw [this.2]; exact h2' P g) (h3 P (Nat.le_refl _) this.1)
   ·exact g
   ·have := (form_fc f1 f2 he P').1 (by omega) (h2 P' g)
    exact absurd (by rw [this.2]; exact h2 P' g) (h3' P' (Nat.le_refl _) this.1)
  refine ⟨by omega, ext_cf (by unfold latL; rw [tab_len, tab_len, hP, hP', hPP]) fun j hj => ?_⟩
  have hj2 : j < P * C := by unfold latL at hj; rwa [tab_len, hP] at hj
  obtain ⟨i, k, hi, hk, rfl⟩ := place_of hj2
  have e1 : mf C (latL R C L) i k = _ := latL_at (by omega) hk
  have e2 : mf C (latL R' C L') i k = _ := latL_at (by omega) hk
  have e3 := form_row f1 f2 he (show i < R by omega) (h2 i hi) k hk
  show mf C (latL R C L) i k = mf C (latL R' C L') i k
  rw [e1, e2, e3]
def stkL (R R' C : Nat) (L L' : List Int) : List Int := tab ((R + R') * C) C fun i k => if i < R then cf L (i * C + k) else cf L' ((i - R) * C + k)
end Go.Hp
namespace Go.Hp
open Go.Dt Go.Hn Go.Pz Go.Nt Go.Mz Go.En
end Go.Hp
namespace Go.Hp
open Go.Dt Go.Hn Go.Pz Go.Nt Go.Mz Go.En
theorem latL_form {R C K : Nat} {L : List Int} (hb : Bd L K) : HermF (pivL C (mf C (hL R C L)) R).length C (mf C (latL R C L)) := by
 have hp := pivL_len C (mf C (hL R C L)) R
 exact ((hL_form (R := R) (C := C) hb).sub hp).congr fun i k hi hk => latL_at hi hk
theorem herm_indep {R C P : Nat} {A : MatF} (h : HermF R C A) (hP : P ≤ R) (h1 : ∀ i, i < P → fc C (A i) < C) (h2 : ∀ i, P ≤ i → i < R → ¬ fc C (A i) < C) {a : Nat → Int} (h0 : ∀ k, k < C → (sm R fun i => a i * A i k) = 0) : ∀ i, i < P → a i = 0 := by
 intro i hi
 refine Classical.byContradiction fun hne => ?_
 obtain ⟨m, hm, ha, hmin⟩ := first_of (p := fun i => a i ≠ 0) P ⟨i, hi, hne⟩
 have hfm := h1 m hm
 have hv := h0 _ hfm
 have e : (sm R fun i => a i * A i (fc C (A m))) = a m * A m (fc C (A m)) := by
  refine sm_one (show m < R by omega) fun j hj hjm => ?_
  rcases Nat.lt_or_ge j m with g | g
  ·rw [Classical.not_not.1 (hmin j g), Int.zero_mul]
  ·rw [h.later (show m < j by omega) hj hfm (Nat.le_refl _), Int.mul_zero]
 rw [e] at hv
 have := (h m (by omega) hfm).2.1
 rcases Int.mul_eq_zero.1 hv with g | g
 ·exact ha g
 ·omega
end Go.Hp
namespace Go.Hp
open Go.Dt Go.Hn Go.Pz Go.Nt Go.Mz Go.En
theorem jns_keep0 {rs : List (List Int)} {t col W : Nat} (hrow : ∀ r ∈ rs, r.length = W) (ht : t < rs.length) : ∀ n, t + 1 + n ≤ rs.length → E (jns rs t col n) t col = 0 → jns rs t col n = rs
  | 0, _, _ => rfl
  | n + 1, hn, h0 => by
    have hl := jns_len rs t col n
    have hr := jns_row hrow ht (col := col) n
    have e1 : ((jns rs t col n).getD (t + 1 + n) []).length = ((jns rs t col n).getD t []).length := (all_getD hr (by omega)).trans (all_getD hr (by omega)).symm
    have ih := jns_keep0 hrow ht (col := col) n (by omega)
    revert h0
    show E (jn _ _ _ _) t col = 0 → jn _ _ _ _ = rs
    unfold jn
    split
    · exact ih
    · rename_i hg
      intro h0
      rw [E_set (by rw [List.length_set]; omega), E_set (by omega), if_neg (by omega), if_pos rfl, cf_mx2 e1, xg_bezout] at h0
      exact absurd h0 hg
def hq (R K : Nat) : Nat → Nat
 | 0 => K
 | t + 1 => hq R K t * (R + 1 - t)
theorem hq_mono {R K t u : Nat} (h : t ≤ u) (hu : u ≤ R) : hq R K t ≤ hq R K u := by
  induction u with
  | zero => rw [show t = 0 by omega]; exact Nat.le_refl _
  | succ u ih =>
    rcases Nat.lt_or_ge u t with g | g
    · rw [show t = u + 1 by omega]; exact Nat.le_refl _
    · exact Nat.le_trans (ih g (by omega)) (Nat.le_mul_of_pos_right _ (by omega))
theorem hq_pow {R K : Nat} : ∀ t, hq R K t ≤ K * (R + 2) ^ t
  | 0 => by rw [Nat.pow_zero, Nat.mul_one]; exact Nat.le_refl _
  | t + 1 => by
    rw [Nat.pow_succ, ← Nat.mul_assoc]
    exact Nat.mul_le_mul (hq_pow t) (by omega)
theorem hcol_bd2 {s : HS} {K W : Nat} (col : Nat) (hr : ∀ r ∈ s.rows, r.length = W) (ht : s.top < s.rows.length) (h : ∀ r ∈ s.rows, Bd r K) :
  ((hcol s col).top = s.top ∧ ∀ r ∈ (hcol s col).rows, Bd r K) ∨ ((hcol s col).top = s.top + 1 ∧ ∀ r ∈ (hcol s col).rows, Bd r ((K + 3) * (s.rows.length + 1 - s.top) - 3)) := by
 have hj := jns_bd (t := s.top) (col := col) h (s.rows.length - (s.top + 1))
 unfold hcol hjs
 split
 ·rename_i h0
  refine .inl ⟨rfl, ?_⟩
  have e := jns_keep0 hr ht (col := col) (s.rows.length - (s.top + 1)) (by omega) h0
  show ∀ r ∈ jns s.rows s.top col (s.rows.length - (s.top + 1)), Bd r K
  rw [e]; exact h
 ·rename_i h0
  refine .inr ⟨rfl, ?_⟩
  have hg := hsg_bd (t := s.top) (col := col) hj
  have htj : s.top < (jns s.rows s.top col (s.rows.length - (s.top + 1))).length := by rw [jns_len]; exact ht
  have hpos := hsg_pos (rs := jns s.rows s.top col (s.rows.length - (s.top + 1))) (t := s.top) (col := col) (List.getElem?_eq_getElem htj) (by rwa [List.getD, List.getElem?_eq_getElem htj] at h0)
  have hlow : ∀ i, i < s.top → Bd ((hsg (jns s.rows s.top col (s.rows.length - (s.top + 1))) s.top col).getD i []) K := fun i hi => by
   have e : (hsg (jns s.rows s.top col (s.rows.length - (s.top + 1))) s.top col).getD i [] = s.rows.getD i [] := by
    unfold hsg
    split
    ·rw [List.getD, List.getElem?_set_ne (by omega), jns_off hi]; rfl
    ·rw [List.getD, jns_off hi]; rfl
   rw [e]; exact getD_bd h i
  have em : (K + 3) * (s.rows.length + 1 - s.top) = (s.rows.length - (s.top + 1)) * (K + 3) + 2 * (K + 3) := by
   rw [show s.rows.length + 1 - s.top = (s.rows.length - (s.top + 1)) + 2 by omega, Nat.mul_add, Nat.mul_comm (K + 3), Nat.mul_comm (K + 3)]
  exact fun r hr => (rds_bd hpos (getD_bd hg _) hlow hg (by omega) s.top (Nat.le_refl _) r hr).mono (by omega)
theorem hq_ge {R K t : Nat} (h : t ≤ R) : K ≤ hq R K t := hq_mono (R := R) (K := K) (Nat.zero_le t) h
theorem hred_hq {R W K : Nat} {s : HS} (h : HOk R W K s) (h0 : s.top = 0) : ∀ c, ∀ r ∈ (hred s c).rows, Bd r (hq R (K + 3) (hred s c).top - 3)
  | 0 => fun r hr => (h.bd r hr).mono (by show K ≤ hq R (K + 3) s.top - 3; rw [h0]; show K ≤ K + 3 - 3; omega)
  | c + 1 => by
    have ih := hred_hq h h0 c
    have ho := hred_ok h c
    have hg := hq_ge (K := K + 3) ho.top
    show ∀ r ∈ (if (hred s c).top < (hred s c).rows.length then hcol (hred s c) c else hred s c).rows, Bd r (hq R (K + 3) (if (hred s c).top < (hred s c).rows.length then hcol (hred s c) c else hred s c).top - 3)
    split
    · rename_i ht
      rcases hcol_bd2 c ho.row ht ih with ⟨e, hb⟩ | ⟨e, hb⟩
      · rw [e]; exact hb
      · rw [e]
        show ∀ r ∈ _, Bd r (hq R (K + 3) (hred s c).top * (R + 1 - (hred s c).top) - 3)
        rw [ho.len, show hq R (K + 3) (hred s c).top - 3 + 3 = hq R (K + 3) (hred s c).top by omega] at hb
        exact hb
    · exact ih
theorem hred_top {R W K : Nat} {s : HS} (h : HOk R W K s) : ∀ c, (hred s c).top ≤ (hred s (c + 1)).top ∧ (hred s (c + 1)).top ≤ (hred s c).top + 1 := fun c => by
 have ho := hred_ok h c
 show _ ≤ (if (hred s c).top < (hred s c).rows.length then hcol (hred s c) c else hred s c).top ∧ (if (hred s c).top < (hred s c).rows.length then hcol (hred s c) c else hred s c).top ≤ _
 split
 ·rename_i ht
  rcases hcol_bd2 c ho.row ht ho.bd with ⟨e, _⟩ | ⟨e, _⟩ <;> rw [e] <;> omega
 ·omega
theorem hred_mono {R W K : Nat} {s : HS} (h : HOk R W K s) {c C : Nat} (hc : c ≤ C) : (hred s c).top ≤ (hred s C).top := by
  induction C with
  | zero => rw [show c = 0 by omega]; exact Nat.le_refl _
  | succ C ih =>
    rcases Nat.lt_or_ge C c with g | g
    · rw [show c = C + 1 by omega]; exact Nat.le_refl _
    · exact Nat.le_trans (ih g) (hred_top h C).1
theorem hred_le {R W K : Nat} {s : HS} (h : HOk R W K s) : ∀ c, (hred s c).top ≤ s.top + c
 | 0 => Nat.le_refl _
 | c + 1 => by have := hred_le h c; have := (hred_top h c).2; omega
def hrk (R C : Nat) (L : List Int) : Nat := (hrm R C L).top
theorem hrk_leC {R C K : Nat} {L : List Int} (h : Bd L K) : hrk R C L ≤ C := by
 have := hred_le (rows0_ok (R := R) (C := C) h) C
 show (hred _ C).top ≤ C
 exact Nat.le_trans this (by show 0 + C ≤ C; omega)
theorem hrm_bd2 {R C K : Nat} {L : List Int} (h : Bd L K) : ∀ r ∈ (hrm R C L).rows, Bd r (hq R (K + 4) (hrk R C L) - 3) := hred_hq (rows0_ok h) rfl C
theorem hL_bq {R C K : Nat} {L : List Int} (h : Bd L K) : Bd (hL R C L) (hq R (K + 4) (hrk R C L)) := by
 rw [hL_tab h]
 exact (Bd_tab fun i k => E_bd (hrm_bd2 (R := R) (C := C) h) i k).mono (Nat.sub_le _ _)
theorem hq_ask {R C K : Nat} {L : List Int} (h : Bd L K) (hR : R ≤ 64) (hK : (K + 4) * (R + 2) ^ C ≤ 1000000) : hq R (K + 4) (hrk R C L) * (R + 2) ≤ 80000000 := by
 have h1 := hq_pow (R := R) (K := K + 4) (hrk R C L)
 have h2 := Nat.mul_le_mul_left (K + 4) (Nat.pow_le_pow_right (show 0 < R + 2 by omega) (hrk_leC (R := R) (C := C) h))
 have h3 : hq R (K + 4) (hrk R C L) * (R + 2) ≤ 1000000 * 66 := Nat.mul_le_mul (Nat.le_trans h1 (Nat.le_trans h2 hK)) (by omega)
 omega
end Go.Hp
namespace Go.Hp
open Go.Dt Go.Hn Go.Pz Go.Nt Go.Mz Go.En
def gmF (C : Nat) (L : List Int) : Nat → Nat → Int := fun i k => dotS (fun j => cf L (i * C + j)) (fun j => cf L (k * C + j)) C
def gmL (R C : Nat) (L : List Int) : List Int := tab (R * R) R (gmF C L)
theorem gmL_len (R C : Nat) (L : List Int) : (gmL R C L).length = R * R := tab_len _ _ _
theorem gmF_bd {C K : Nat} {L : List Int} (h : Bd L K) (i k : Nat) : (List.length (words (gmF C L i k).natAbs)) ≤ K + K + C := dotS_nw (fun _ => h _) (fun _ => h _) C
theorem gmL_bd {R C K : Nat} {L : List Int} (h : Bd L K) : Bd (gmL R C L) (K + K + C) := Bd_tab fun i k => gmF_bd h i k
theorem tab_eq {R C : Nat} {f g : Nat → Nat → Int} (h : ∀ i k, i < R → k < C → f i k = g i k) : tab (R * C) C f = tab (R * C) C g := by
 refine ext_cf (by rw [tab_len, tab_len]) fun j hj => ?_
 rw [tab_len] at hj
 obtain ⟨i, k, hi, hk, rfl⟩ := place_of hj
 rw [cf_tab' _ hk hj, cf_tab' _ hk hj, h i k hi hk]
theorem gm_mul {R C : Nat} {A B : List Int} (h : ∀ j k, j < C → k < R → cf B (j * R + k) = cf A (k * C + j)) : (tab (R * R) R fun i k => dotS (fun j => cf A (i * C + j)) (fun j => cf B (j * R + k)) C) = gmL R C A :=
 tab_eq fun i k _ hk => dotS_congr C (fun _ _ => rfl) fun j hj => h j k hj hk
theorem gm_tab {R C : Nat} (A : List Int) : ∀ j k, j < C → k < R → cf (tab (C * R) R fun i k => cf A (k * C + i)) (j * R + k) = cf A (k * C + j) := fun j k hj hk => cf_tab' _ hk (place_lt hj hk)
theorem hL11 : hL 2 1 [1, 1] = [1, 0] := by
 have hb : Bd [1, 1] 1 := bd64 (by decide)
 have hf := hL_form (R := 2) (C := 1) hb
 have he := hL_eqv (R := 2) (C := 1) hb
 have hl : (hL 2 1 [1, 1]).length = 2 := hL_len hb
 have a0 : mf 1 (hL 2 1 [1, 1]) 0 0 = cf (hL 2 1 [1, 1]) 0 := rfl
 have a1 : mf 1 (hL 2 1 [1, 1]) 1 0 = cf (hL 2 1 [1, 1]) 1 := rfl
 obtain ⟨A, hA⟩ : ∃ A, A = mf 1 (hL 2 1 [1, 1]) := ⟨_, rfl⟩
 rw [← hA] at hf he a0 a1
 obtain ⟨c0, h0⟩ := he.1 0 (by decide)
 obtain ⟨d0, g0⟩ := he.2 0 (by decide)
 have h0 := h0 0 (by decide)
 have g0 := g0 0 (by decide)
 have e0 : mf 1 [1, 1] 0 0 = 1 := rfl
 have e1 : mf 1 [1, 1] 1 0 = 1 := rfl
 have s2 : ∀ f : Nat → Int, sm 2 f = f 0 + f 1 := fun f => by show 0 + f 0 + f 1 = _; omega
 rw [s2] at h0 g0
 rw [e0] at h0
 rw [e0, e1] at g0
 have h10 : A 1 0 = 0 := by
  refine Classical.byContradiction fun hne => ?_
  have hfc : fc 1 (A 1) = 0 := fc_at (by decide) (fun k hk => absurd hk (Nat.not_lt_zero _)) hne
  have := (hf 1 (by decide) (by rw [hfc]; decide)).1 (by decide)
  omega
 have hpos : 0 ≤ A 0 0 := by
  by_cases hne : A 0 0 = 0
  ·omega
  ·have hfc : fc 1 (A 0) = 0 := fc_at (by decide) (fun k hk => absurd hk (Nat.not_lt_zero _)) hne
   have := (hf 0 (by decide) (by rw [hfc]; decide)).2.1
   rw [hfc] at this; omega
 have h00 : A 0 0 = 1 := by
  rw [h10] at h0
  generalize A 0 0 = x at *
  have hx2 : x ∣ 1 := ⟨c0 0, by grind⟩
  have := Int.le_of_dvd (by decide) hx2
  have hx0 : x ≠ 0 := fun e => by subst e; omega
  omega
 refine ext_cf hl fun j hj => ?_
 rw [hl] at hj
 rcases (show j = 0 ∨ j = 1 by omega) with rfl | rfl
 ·rw [← a0, h00]; rfl
 ·rw [← a1, h10]; rfl
theorem gm11_p : pv (pivL 1 (mf 1 [1, 0]) 2) = [0] := by decide
theorem gm11_b : Bd [1, 1] 1 := bd64 (by decide)
theorem gm11_t : tab (2 * 1) 1 (fun i k => cf [1, 1] (i * 1 + k)) = [1, 1] := by decide
end Go.Hp
namespace Go.Ll
open Go.Dt Go.Hp Go.Pz Go.En Go.Nt Go.Mz
theorem mn_symm {A : MatF} (h : ∀ i j, A i j = A j i) {rs cs : List Nat} (hl : cs.length = rs.length) : mn A rs cs = mn A cs rs := by
 unfold mn
 rw [hl, ← det_tr]
 exact det_congr fun i j _ _ => by unfold tr sub; exact h _ _
variable {n : Nat} {A : MatF}
theorem gram_symm (i j : Nat) : gram n A i j = gram n A j i := ip_comm n _ _
def xe (n : Nat) (A : MatF) (i k j : Nat) : Int := mn (gram n A) (k :: rl j) (i :: rl j)
theorem xe_zero (i k : Nat) : xe n A i k 0 = ip n (A i) (A k) := by
 unfold xe
 rw [mn_exp]
 show mn (gram n A) [] [] * gram n A k i + 0 = _
 show 1 * gram n A k i + 0 = _
 rw [Int.one_mul, Int.add_zero, gram_symm]; rfl
theorem xe_lo (i j : Nat) : xe n A i j j = lo n A (gw n A) i j := (gw_row n A j i).symm
theorem xe_self (i : Nat) : xe n A i i i = gd n A (i + 1) := rfl
theorem xe_step (i k j : Nat) (hd : gd n A j ≠ 0) : gd n A j * xe n A i k (j + 1) = gd n A (j + 1) * xe n A i k j - lo n A (gw n A) i j * lo n A (gw n A) k j := by
 have h := mn_step (gram n A) (rs := rl j) (cs := rl j) rfl hd k j i j
 have h1 : mn (gram n A) (k :: rl j) (j :: rl j) = lo n A (gw n A) k j := by rw [mn_symm (A := gram n A) (fun i j => gram_symm i j) (rs := k :: rl j) (cs := j :: rl j) rfl]; exact (gw_row n A j k).symm
 have h2 : mn (gram n A) (j :: rl j) (i :: rl j) = lo n A (gw n A) i j := (gw_row n A j i).symm
 rw [h1, h2] at h
 show gd n A j * mn (gram n A) (k :: j :: rl j) (i :: j :: rl j) = gd n A (j + 1) * mn (gram n A) (k :: rl j) (i :: rl j) - _
 show mn (gram n A) (rl j) (rl j) * _ = mn (gram n A) (j :: rl j) (j :: rl j) * _ - _
 rw [← h, Int.mul_comm (lo n A (gw n A) k j), Int.mul_comm (mn (gram n A) (k :: rl j) (i :: rl j))]
theorem xe_nw {K : Nat} (h : ∀ i k, (List.length (words (gram n A i k).natAbs)) ≤ K) (i k j : Nat) : (List.length (words (xe n A i k j).natAbs)) ≤ (j + 1) * (K + (j + 1)) + 1 := by
 have := det_nw (A := sub (gram n A) (k :: rl j) (i :: rl j)) (fun _ _ => h _ _) (j + 1)
 unfold xe mn
 rw [show (k :: rl j).length = j + 1 by rw [List.length_cons, rl_len]]
 exact this
def lrow (n R : Nat) (A : MatF) (i k : Nat) : List Int := stL R (fun _ => 0) (fun j => lo n A (gw n A) i j) k
def urow (R i : Nat) : List Int := (List.replicate R (0 : Int)).set i 1
theorem lrow_len (n R : Nat) (A : MatF) (i k : Nat) : (lrow n R A i k).length = R := stL_len _ _ _ _
theorem urow_len (R i : Nat) : (urow R i).length = R := by unfold urow; rw [List.length_set, List.length_replicate]
theorem lrow_cf {R : Nat} {i k j : Nat} : cf (lrow n R A i k) j = if j < k ∧ j < R then lo n A (gw n A) i j else 0 := by
 rcases Nat.lt_or_ge j R with g | g
 ·unfold lrow
  rw [stL_cf g]
  by_cases e : j < k
  ·rw [if_pos e, if_pos ⟨e, g⟩]
  ·rw [if_neg e, if_neg (by omega)]
 ·rw [if_neg (by omega), cf_out (by rw [lrow_len]; exact g)]
theorem lrow_zero (R i : Nat) : lrow n R A i 0 = List.replicate R 0 := by
 refine List.ext_getElem? fun k => ?_
 rcases Nat.lt_or_ge k R with hk | hk
 ·unfold lrow
  rw [stL_get hk, if_neg (Nat.not_lt_zero _), List.getElem?_replicate, if_pos hk]
 ·rw [List.getElem?_eq_none (by rw [lrow_len]; exact hk), List.getElem?_eq_none (by rw [List.length_replicate]; exact hk)]
theorem lrow_set {R i k : Nat} (h : k < R) : (lrow n R A i k).set k (lo n A (gw n A) i k) = lrow n R A i (k + 1) := stL_set h
theorem urow_cf {R i : Nat} (hi : i < R) (j : Nat) : cf (urow R i) j = if j = i then 1 else 0 := by
 have e0 : ∀ j, cf (List.replicate R (0 : Int)) j = 0 := fun j => by
  unfold cf
  rw [List.getD_eq_getElem?_getD, List.getElem?_replicate]
  split <;> rfl
 unfold urow
 rw [cf_upd 1 (by rw [List.length_replicate]; exact hi)]
 show (if j = i then 1 else cf (List.replicate R 0) j) = _
 rw [e0]
theorem nz0' : nz 0 = (false, []) := Prod.ext rfl words_zero
structure BG (n R : Nat) (A : MatF) (i : Nat) (ds : List Int) (ls us : List Row) : Prop where
 hd : ds = (List.range (i + 1)).map (gd n A)
 hl : ls.map Prod.snd = (List.range i).map fun t => lrow n R A t t
 hu : us.map Prod.snd = (List.range i).map (urow R)
variable {R i : Nat} {ds : List Int} {ls us : List Row}
theorem BG.dl (h : BG n R A i ds ls us) : ds.length = i + 1 := by rw [h.hd, List.length_map, List.length_range]
theorem BG.ll (h : BG n R A i ds ls us) : ls.length = i := by have := congrArg List.length h.hl; rwa [List.length_map, List.length_map, List.length_range] at this
theorem BG.ul (h : BG n R A i ds ls us) : us.length = i := by have := congrArg List.length h.hu; rwa [List.length_map, List.length_map, List.length_range] at this
theorem BG.cd (h : BG n R A i ds ls us) {t : Nat} (ht : t ≤ i) : cf ds t = gd n A t := by
 rw [h.hd]; unfold cf
 rw [List.getD_eq_getElem?_getD, List.getElem?_map, List.getElem?_range (by omega)]; rfl
theorem BG.lr (h : BG n R A i ds ls us) {t : Nat} {r : Row} (hr : ls[t]? = some r) : r.2 = lrow n R A t t := by
 have ht := some_lt hr
 rw [h.ll] at ht
 have := congrArg (fun l => l[t]?) h.hl
 rw [List.getElem?_map, hr, List.getElem?_map, List.getElem?_range ht] at this
 exact Option.some.inj this
theorem BG.ur (h : BG n R A i ds ls us) {t : Nat} {r : Row} (hr : us[t]? = some r) : r.2 = urow R t := by
 have ht := some_lt hr
 rw [h.ul] at ht
 have := congrArg (fun l => l[t]?) h.hu
 rw [List.getElem?_map, hr, List.getElem?_map, List.getElem?_range ht] at this
 exact Option.some.inj this
theorem BG.first (n R : Nat) (A : MatF) : BG n R A 0 [1] [] [] := ⟨rfl, rfl, rfl⟩
theorem BG.next (h : BG n R A i ds ls us) (g g' : Gr (Bool × List Nat)) : BG n R A (i + 1) (ds ++ [gd n A (i + 1)]) (ls ++ [(g, lrow n R A i i)]) (us ++ [(g', urow R i)]) := by
 refine ⟨?_, ?_, ?_⟩
 ·rw [h.hd, List.range_succ (n := i + 1), List.map_append]; rfl
 ·rw [List.map_append, h.hl, List.range_succ, List.map_append]; rfl
 ·rw [List.map_append, h.hu, List.range_succ, List.map_append]; rfl
theorem own_tab {R : Nat} {l : List Int} (hl : l.length = R * R) (hs : ∀ i k, i < R → k < R → cf l (i * R + k) = cf l (k * R + i)) : (tab (R * R) R fun i k => cf l (k * R + i)) = l := by
 refine List.ext_getElem? fun p => ?_
 rcases Nat.lt_or_ge p (R * R) with g | g
 ·have hR : 0 < R := Nat.pos_of_ne_zero fun e => by subst e; omega
  have hk : p % R < R := Nat.mod_lt _ hR
  have hi : p / R < R := (Nat.div_lt_iff_lt_mul hR).2 g
  have e : p / R * R + p % R = p := by have := Nat.div_add_mod p R; rw [Nat.mul_comm] at this; exact this
  have h1 := cf_tab' (N := R * R) (C := R) (fun i k => cf l (k * R + i)) hk (by rw [e]; exact g)
  rw [e] at h1
  rw [getElem_cf (by rw [tab_len]; exact g), getElem_cf (by omega), h1, ← hs _ _ hi hk, e]
 ·rw [List.getElem?_eq_none (by rw [tab_len]; exact g), List.getElem?_eq_none (by omega)]
theorem lrow_bd {R K K2 i k : Nat} (hgw : ∀ i k, (List.length (words (gram n A i k).natAbs)) ≤ K) (hK2 : ∀ j, j ≤ R → (j + 1) * (K + (j + 1)) + 1 ≤ K2) : Bd (lrow n R A i k) K2 := fun j => by
 rw [lrow_cf]
 split
 ·rename_i g
  rw [← xe_lo]
  exact Nat.le_trans (xe_nw hgw i j j) (hK2 j (by omega))
 ·rw [Int.natAbs_zero, words_zero]; exact Nat.zero_le _
theorem BG.dbK {K K2 : Nat} (h : BG n R A i ds ls us) (hi : i ≤ R) (hgw : ∀ i k, (List.length (words (gram n A i k).natAbs)) ≤ K) (hK2 : ∀ j, j ≤ R → (j + 1) * (K + (j + 1)) + 1 ≤ K2) : Bd ds K2 := fun t => by
  rcases Nat.lt_or_ge i t with g | g
  · rw [cf_out (by rw [h.dl]; omega), Int.natAbs_zero, words_zero]; exact Nat.zero_le _
  · rw [h.cd g]
    cases t with
    | zero =>
      have := hK2 0 (Nat.zero_le _)
      exact Nat.le_trans (show (List.length (words (1 : Int).natAbs)) ≤ 1 from nw_small' (by decide)) (show 1 ≤ K2 by omega)
    | succ s =>
      rw [← xe_self]
      exact Nat.le_trans (xe_nw hgw s s s) (hK2 s (by omega))
theorem BG.stepE (h : BG n R A i ds ls us) (hi : i < R) (hpos : ∀ t, t ≤ R → 0 < gd n A t) {k : Nat} (hk : k ≤ i) (hkR : k < R) {l : List Int} (hl : l = lrow n R A k k) : ∀ j, j < k → cf ds j ≠ 0 ∧ cf ds j * xe n A i k (j + 1) = cf ds (j + 1) * xe n A i k j - cf (lrow n R A i k) j * cf l j := fun j hj => by
 have hd := hpos j (by omega)
 rw [h.cd (show j ≤ i by omega), h.cd (show j + 1 ≤ i by omega), hl, lrow_cf, lrow_cf, if_pos ⟨hj, by omega⟩, if_pos ⟨hj, by omega⟩]
 exact ⟨by omega, xe_step i k j (by omega)⟩
theorem OD.congr {R : Nat} {A' : MatF} {d d' : Nat → Int} {w : MatF} (h : OD n R A d w) (e : ∀ i, i < R → ∀ k, A' i k = A i k) (ed : ∀ t, t ≤ R → d' t = d t) : OD n R A' d' w where
 d0 := by rw [ed 0 (Nat.zero_le _)]; exact h.d0
 pos := fun t ht => by rw [ed t ht]; exact h.pos t ht
 sp := fun t ht => by
  have h1 : SpZ t n A' fun k => 1 * w t k + (-(d t)) * A t k := (h.sp t ht).trans fun r hr => (SpZ.row A' hr).congr fun k _ => (e r (by omega) k).symm
  exact h1.congr fun k _ => by rw [ed t (by omega), e t ht]
 ort := fun t j ht hj => by
  rw [ip_comm, ip_congr (u' := A j) fun k _ => e j (by omega) k, ip_comm]; exact h.ort t j ht hj
 nx := fun t ht => by
  rw [ed (t + 1) (by omega), ip_comm, ip_congr (u' := A t) fun k _ => e t ht k, ip_comm]; exact h.nx t ht
theorem BG.uB (h : BG n R A R ds ls us) {i : Nat} (hi : i < R) (k : Nat) : Ll.uB R (us.map Prod.snd) A i k = A i k := by
 have e : ∀ r, mL (us.map Prod.snd) i r = if r = i then 1 else 0 := fun r => by
  obtain ⟨u, hu⟩ : ∃ r, us[i]? = some r := ⟨_, List.getElem?_eq_getElem (by rw [h.ul]; exact hi)⟩
  rw [mL_map hu, h.ur hu, urow_cf hi]
 show (Dt.sm R fun r => mL (us.map Prod.snd) i r * A r k) = _
 rw [sm_congr fun r _ => by rw [e r]]
 exact sm_pick1 (fun r => A r k) hi
theorem BG.mL (h : BG n R A R ds ls us) {i : Nat} (hi : i < R) (j : Nat) : Ll.mL (ls.map Prod.snd) i j = if j < i ∧ j < R then lo n A (gw n A) i j else 0 := by
 obtain ⟨u, hu⟩ : ∃ r, ls[i]? = some r := ⟨_, List.getElem?_eq_getElem (by rw [h.ll]; exact hi)⟩
 rw [mL_map hu, h.lr hu, lrow_cf]
theorem BG.rs {D N p q : Int} (h : BG n R A R ds ls us) (hpos : ∀ t, t ≤ R → 0 < gd n A t) (hD : ∀ t, t ≤ R → gd n A t ≤ D) (hN : ((R : Nat) : Int) * D ≤ N) (hN1 : 1 ≤ N) (hA : ∀ i, i < R → ip n (A i) (A i) ≤ N) :
  RS n R A D N p q ds (ls.map Prod.snd) (us.map Prod.snd) 0 ds ls us 1 1 := by
 have hip : ∀ i, i < R → ip n (Ll.uB R (us.map Prod.snd) A i) (Ll.uB R (us.map Prod.snd) A i) ≤ N := fun i hi => by
  have e : Ll.uB R (us.map Prod.snd) A i = A i := funext fun k => h.uB hi k
  rw [e]; exact hA i hi
 have hli : LI n R A ds (ls.map Prod.snd) (us.map Prod.snd) (gw n A) := {
  hL := by rw [List.length_map, h.ll]
  hU := by rw [List.length_map, h.ul]
  od := (OD.made n R A hpos).congr (fun i hi k => h.uB hi k) fun t ht => h.cd ht
  hlo := fun i j hi hj => by
   rw [h.mL hi, if_pos ⟨hj, by omega⟩]
   unfold lo
   rw [ip_comm, ip_comm n _ (Ll.uB R (us.map Prod.snd) A i)]
   exact ip_congr fun k _ => (h.uB hi k).symm }
 have hj : RJ n R A D N ds (ls.map Prod.snd) (us.map Prod.snd) (gw n A) 1 1 := {
  li := hli
  hd := fun t ht => by rw [h.cd ht]; exact hD t ht
  hN := hN
  hN1 := hN1
  red := fun i t h1 _ h3 => absurd h3 (by omega)
  sm := fun _ t h1 h2 => absurd h2 (by omega)
  nrm := fun i hi _ => hip i hi
  cand := fun h1 => by
   have hd1 := hD 0 (Nat.zero_le _)
   have hp0 := hpos 0 (Nat.zero_le _)
   have hf : 1 ≤ 10 * (D * D * N) := by
    have h2 := Int.mul_pos (Int.mul_pos (show 0 < D by omega) (show 0 < D by omega)) (show 0 < N by omega)
    omega
   have h3 := pow_ge hf (R - 1)
   have h4 : N * 1 ≤ N * (10 * (D * D * N)) ^ (R - 1) := Int.mul_le_mul_of_nonneg_left h3 (by omega)
   have := hip 1 h1
   omega }
 have h1 : ∀ r ∈ ls, r.2.length = R := fun r hr => by
  obtain ⟨i, hi⟩ := List.getElem?_of_mem hr
  rw [h.lr hi]; exact lrow_len _ _ _ _ _
 have h2 : ∀ r ∈ us, r.2.length = R := fun r hr => by
  obtain ⟨i, hi⟩ := List.getElem?_of_mem hr
  rw [h.ur hi]; exact urow_len _ _
 exact { ex := ⟨_, hj⟩, lr := .start, dl := h.dl, hlr := h1, hur := h2, zd := fun i j hi hij => by rw [h.mL hi, if_neg (by omega)] }
end Go.Ll
namespace Go.Proofs.YtlebmedapfncoaaGreat
open Go.En Go.RowKit
set_option maxRecDepth 10000
set_option maxHeartbeats 4000000
open Go.Nt
open Go.Pz
open Go.Mz
open Go.Hn
open Go.Hp
open Go.Dt
theorem zmat_alike {r c r2 c2 : Int} {xs ys : List (Bool × List Nat)} : Ctr Tryz.prog 118 [isM r c xs, isM r2 c2 ys] (isB (formB r c xs.length && formB r2 c2 ys.length && decide (r = r2) && decide (c = c2))) := by
 refine Ctr.i Tryz.func118 rfl Tryz.ntmps118 fun w0 F0 => .w [0,1] rfl (.sr fun k1 => .box (.t rfl) rfl fun b1 => .box (.t rfl) rfl fun b2 => st (.as (.cB false)) rfl (nkQ k1 (.sr fun k2 => st (.load (.t rfl) (i := 1) rfl ty24 rfl (Ss' := [_, _, _]) rfl) rfl (st (.call (zmat_Formed) (.cons (.t rfl) .nil)) rfl (stM rfl (stT rfl rfl (fun hg => .load (.t rfl) (i := 0) rfl ty24 rfl (Ss' := [_, _, _]) rfl) rfl (stT rfl rfl (fun hg => .call (zmat_Formed) (.cons (Has.g rfl hg) .nil)) rfl (st (.pickAnd (.t rfl) (fun h => Has.g rfl h)) rfl (stM rfl (stT rfl rfl (fun hg => .fieldAddr (.t rfl) fld24_0 ty3) rfl (stT rfl rfl (fun hg => .load1 (Has.g rfl hg) (i := 1) rfl ty3 rfl) rfl (stT rfl rfl (fun hg => .fieldAddr (.t rfl) fld24_0 ty3) rfl (stT rfl rfl (fun hg => .load1 (Has.g rfl hg) (i := 0) rfl ty3 rfl) rfl (stT rfl rfl (fun hg => .eqI (Has.g rfl hg) (Has.g rfl hg)) rfl (st (.pickAnd (.t rfl) (fun h => Has.g rfl h)) rfl (stM rfl (stT rfl rfl (fun hg => .fieldAddr (.t rfl) fld24_1 ty3) rfl (stT rfl rfl (fun hg => .load1 (Has.g rfl hg) (i := 1) rfl ty3 rfl) rfl (stT rfl rfl (fun hg => .fieldAddr (.t rfl) fld24_1 ty3) rfl (stT rfl rfl (fun hg => .load1 (Has.g rfl hg) (i := 0) rfl ty3 rfl) rfl (stT rfl rfl (fun hg => .eqI (Has.g rfl hg) (Has.g rfl hg)) rfl ?_)))))))))))))))))))))
 refine st (.pickAnd (.t rfl) (fun h => Has.g rfl h)) rfl (stM rfl (nkQ k2 (.w [4] rfl (.ret (rt1 (.inl rfl) Tryz.results118 rfl (.tmp (Has.t' rfl ?_) .nil))))))
 all_goals (rfl)
theorem sl_EqualFuncZ {xs ys : List (Bool × List Nat)} {K : Nat} (hx : Bd (vals xs) K) (hy : Bd (vals ys) K) : Ctr Tryz.prog 119 [SlK 2 zc xs, SlK 2 zc ys, isFun (ι := PR K) Tryz.prog (fun p => [Flat (zc p.1.1), Flat (zc p.1.2)]) (fun p => isB (decide (zv p.1.1.1 p.1.1.2 = zv p.1.2.1 p.1.2.2)))] (isB (decide (vals xs = vals ys))) := by
 refine Ctr.i Tryz.func119 rfl Tryz.ntmps119 fun w0 F0 => .w [0,1,2] rfl (.fact (Has.lenLt (Has.t (t := 0) rfl)) fun lt0 => .fact (Has.lenLt (Has.t (t := 1) rfl)) fun lt1 => .sr fun k1 => st (.as (.cB false)) rfl (nkQ k1 (.sq fun k2 => .sr fun k3 => stM rfl (st (.len sl22 (.t rfl)) rfl (stM rfl (st (.len sl22 (.t rfl)) rfl (st (.neI (.t rfl) (.t rfl)) rfl (nkQ k3 (.cd rfl (fun hc1 => ?_) (fun hc1 => ?_))))))))))
 ·refine .sr fun k4 => st (.as (.cB false)) rfl (nkQ k4 (.w [0,1,2,6] rfl (.ret (.thr (rt1 (.inl rfl) Tryz.results119 rfl (.tmp (Has.t' rfl ?_) .nil))))))
  all_goals (exact isB_eq (decide_eq_false fun h => by have := congrArg List.length h; rw [vals_len, vals_len] at this; omega).symm)
 ·have hll : xs.length = ys.length := (by omega)
  refine .skip (.nk k2 (.w [0,1,2,6] rfl (.sq fun k5 => .sr fun k6 => stM rfl (st (.len sl22 (.t rfl)) rfl (st (.mv (.cI 0 rfl)) rfl (nkQ k6 (.block (.loopF [1,2,15,16] (fun (z : { i : Nat // i ≤ xs.length ∧ ∀ j, j < i → cf (vals xs) j = cf (vals ys) j }) => match z with | ⟨i, hI⟩ => [(17, isI (i : Int))]) (fun M => fun (z : { i : Nat // i ≤ xs.length ∧ ∀ j, j < i → cf (vals xs) j = cf (vals ys) j }) => match z with | ⟨i, hI⟩ => M) (fun (z : { i : Nat // i ≤ xs.length ∧ ∀ j, j < i → cf (vals xs) j = cf (vals ys) j }) => match z with | ⟨i, hI⟩ => xs.length - i) (⟨0, Nat.zero_le _, fun j hj => absurd hj (Nat.not_lt_zero _)⟩) (Cv.mem (.c 17 rfl ?_ (.l [1,2,15,16] rfl)) ?_) ?_))))))))
  ·rfl
  ·rfl
  rintro ⟨i, hi, hq⟩ K7 hK7
  refine .w [17,1,2,15,16] rfl (.sr fun k8 => st (.ltI (.t rfl) (.t rfl)) rfl (nkQ k8 (.sq fun k9 => .cd rfl (fun hc2 => ?_) (fun hc2 => ?_))))
  ·refine .skip (.nk k9 (.sq fun k10 => .block (.sr fun k11 => stM rfl (st (.ixK sl22 ty33 (.t rfl) (.t rfl) zc_len (by omega) (getD_some (d := (false, [])) (by omega))) rfl (st (.loadP (.t rfl) ty33 rfl (Ss' := [_, _]) rfl) rfl (.alloc [isB false, SlM isU []] zero33 (fun _ _ => ⟨rfl, nilM _ _, trivial⟩) rfl fun b1 => stM rfl (.store (.t rfl) (.t rfl) (i := 0) rfl ty33 rfl rfl (Ss' := [_, _]) rfl (M' := [(some _, cellM [_, _])]) rfl (nkQ k11 (.sr fun k12 => stM rfl (stM rfl (st (.ixK sl22 ty33 (.t rfl) (.t rfl) zc_len (by omega) (getD_some (d := (false, [])) (by omega))) rfl (st (.loadP (.t rfl) ty33 rfl (Ss' := [_, _]) rfl) rfl (.alloc [isB false, SlM isU []] zero33 (fun _ _ => ⟨rfl, nilM _ _, trivial⟩) rfl fun b2 => .store (.t rfl) (.t rfl) (i := 0) rfl ty33 rfl rfl (Ss' := [_, _]) rfl (M' := [(some _, cellM [_, _]), _]) rfl (nkQ k12 (.sr fun k13 => stM rfl (st (.load (.t rfl) (i := 1) rfl ty33 rfl (Ss' := [_, _]) rfl) rfl (st (.load (.t rfl) (i := 0) rfl ty33 rfl (Ss' := [_, _]) rfl) rfl (st (.callV ⟨(xs.getD i (false, []), ys.getD i (false, [])), hx.raw i, hy.raw i⟩ (.t rfl) (.cons (.t rfl) (.cons (.t rfl) .nil))) rfl (st (.not (.t rfl)) rfl (nkQ k13 (.cd rfl (fun hc3 => ?_) (fun hc3 => ?_))))))))))))))))))))))
   ·have HQ : ¬ cf (vals xs) i = cf (vals ys) i := (by rw [cf_vals, cf_vals]; simpa using hc3)
    refine .sr fun k14 => st (.as (.cB false)) rfl (nkQ k14 (.ret (.blr (.thr (.thr (.blr (.thr (rt1 (.inl rfl) Tryz.results119 rfl (.tmp (Has.t' rfl ?_) .nil)))))))))
    all_goals (exact isB_eq (decide_eq_false fun h => HQ (by rw [h])).symm)
   ·have HQ : cf (vals xs) i = cf (vals ys) i := (by rw [cf_vals, cf_vals]; simpa using hc3)
    refine .skip (.bln (.nk k10 (.region (st (.addI (.t rfl) (.cI 1 rfl) (by omega) (by omega)) rfl (stM rfl (nl (.thn ?_)))))))
    refine hK7 (⟨i + 1, by omega, fun j hj => by rcases Nat.lt_or_ge j i with h | h; exact hq j h; obtain rfl : j = i := (by omega); exact HQ⟩) _ _ ?_ (Cv.trans (Cv.drop ((.cons _ (.cons _ .slnil)))) (Cv.mem (.c 17 rfl ?_ (.l [1,2,15,16] rfl)) ?_))
    ·show xs.length - (i + 1) < xs.length - i; omega
    ·exact isI_eq (by omega)
    ·rfl
  ·refine .exit (.the (.the (.blh (.nk k5 (.cv (Cv.wk .nil) (.sr fun k15 => st (.as (.cB true)) rfl (nkQ k15 (.ret (rt1 (.inl rfl) Tryz.results119 rfl (.tmp (Has.t' rfl ?_) .nil))))))))))
   all_goals (exact isB_eq (decide_eq_true (ext_cf (by rw [vals_len, vals_len]; exact hll) fun j hj => hq j (by rw [vals_len] at hj; omega))).symm)
theorem zmat_Same {r c r2 c2 : Int} {xs ys : List (Bool × List Nat)} {K : Nat} (hx : Bd (vals xs) K) (hy : Bd (vals ys) K) (hK : K ≤ 4000000000) : Ctr Tryz.prog 111 [isM r c xs, isM r2 c2 ys] (isB (formB r c xs.length && formB r2 c2 ys.length && decide (r = r2) && decide (c = c2) && decide (vals xs = vals ys))) := by
 refine Ctr.i Tryz.func111 rfl Tryz.ntmps111 fun w0 F0 => .w [0,1] rfl (.sr fun k1 => .box (.t rfl) rfl fun b1 => .box (.t rfl) rfl fun b2 => st (.as (.cB false)) rfl (nkQ k1 (.sr fun k2 => st (.load (.t rfl) (i := 1) rfl ty24 rfl (Ss' := [_, _, _]) rfl) rfl (st (.load (.t rfl) (i := 0) rfl ty24 rfl (Ss' := [_, _, _]) rfl) rfl (st (.call (zmat_alike) (.cons (.t rfl) (.cons (.t rfl) .nil))) rfl (stM rfl (stT rfl rfl (fun hg => .fieldAddr (.t rfl) fld24_2 ty22) rfl (stT rfl rfl (fun hg => .load1 (Has.g rfl hg) (i := 1) rfl ty22 rfl) rfl (stT rfl rfl (fun hg => .fieldAddr (.t rfl) fld24_2 ty22) rfl (stT rfl rfl (fun hg => .load1 (Has.g rfl hg) (i := 0) rfl ty22 rfl) rfl ?_))))))))))
 refine stT rfl rfl (fun hg => have hg' := BP.t hg; OK1.call (sl_EqualFuncZ hx hy) (.cons (Has.g rfl hg) (.cons (Has.g rfl hg) (.cons (Has.fn (fun i => zint_Same (by have := i.2.1; omega) (by have := i.2.2; omega))) .nil)))) rfl ?_
 refine st (.pickAnd (.t rfl) (fun h => Has.g rfl h)) rfl (stM rfl (nkQ k2 (.w [4] rfl (.ret (rt1 (.inl rfl) Tryz.results111 rfl (.tmp (Has.t' rfl ?_) .nil))))))
 all_goals (rfl)
end Go.Proofs.YtlebmedapfncoaaGreat
