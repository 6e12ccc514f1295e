/- Rules and contracts, part 4 of 6. -/
import Derived.Test.YthmhlblaleahpaaGreatQGramNear3
namespace Go.Proofs.YthmhlblaleahpaaGreat
open Go.En Go.RowKit
set_option maxRecDepth 10000
set_option maxHeartbeats 4000000
open Go.Nt
open Go.Pz
open Go.Mz
theorem zmat_Of_1 {C i k : Nat} {l : List Int} (hx : l.length ≤ 4096) (hl : i * C + k < l.length) : Ctr Tryz.prog 47 [isI (i : Int), isI (k : Int), PtrL [SlM isI l], PtrL [isI (C : Int)]] (isZ (cf l (i * C + k))) := by
 refine Ctr.intro Tryz.func47 rfl (by kernel_rfl) Tryz.ntmps47 rfl fun w0 F0 => .cv (Cv.wk (.l [0, 1, 2, 3] rfl)) (.fact (Has.rngI (Has.t (t := 0) rfl)) fun lt0 => .fact (Has.rngI (Has.t (t := 1) rfl)) fun lt1 => ?_)
 have hcp : ((i : Int) * (C : Int)) = ((i * C : Nat) : Int) := (Int.natCast_mul i C).symm
 refine .seq fun _ k1 => .region (.alloc [isB false, SlM isU []] zG (fun _ _ => ⟨rfl, nilM _ _, trivial⟩) rfl fun b1 => nl (.thn (k1 _ _ (.seq fun _ k2 => .region (st (.loadP1 (.t rfl) ty73) rfl (st (.mv (.t rfl)) rfl (st (.loadP1 (.t rfl) ty3) rfl (st (.eq (.mulI (.t rfl) (.t rfl) (by omega) (by omega)) ((show isI _ = isI ((i * C : Nat) : Int) from zE hcp))) rfl (st (.mv (.t rfl)) rfl (st (.eq (.addI (.t rfl) (.t rfl) (by omega) (by omega)) ((show isI _ = isI ((i * C + k : Nat) : Int) from zE (by omega)))) rfl (st (.ixP sl73 ty2 (.t rfl) (.t rfl) ⟨by omega, by omega⟩ (getD_some (d := 0) (by omega))) rfl (st (.loadP1 (.t rfl) ty2) rfl (st (.call (qi) (.cons (.t rfl) .nil)) rfl (.store (.t rfl) (.t rfl) (i := 0) rfl ty41 rfl rfl (Ss' := [_, _]) rfl (M' := [(some _, zB [_, _])]) rfl (nl (.thn (k2 _ _ (.cv (Cv.wk (.l [6] rfl)) (.ret (rt1 (.inl rfl) Tryz.results47 rfl (.cell rfl (i := 0) rfl ty41 rfl ?_ .nil)))))))))))))))))))))
 all_goals (rfl)
theorem zmat_Of {R C : Nat} {l : List Int} (hR : R ≤ 64) (hC : C ≤ 64) (hl : l.length = R * C) (hb : ∀ y ∈ l, -9223372036854775808 ≤ y ∧ y < 9223372036854775808) : Ctr Tryz.prog 18 [isI (R : Int), isI (C : Int), SlM isI l] (zQ [isMz R C (tab (R * C) C fun i k => cf l (i * C + k)), isI 0]) := by
 refine Ctr.intro Tryz.func18 rfl (by kernel_rfl) Tryz.ntmps18 rfl fun w0 F0 => .cv (Cv.wk (.l [0, 1, 2] rfl)) (.fact (Has.rngI (Has.t (t := 0) rfl)) fun lt0 => .fact (Has.rngI (Has.t (t := 1) rfl)) fun lt1 => .fact (Has.lenLt (Has.t (t := 2) rfl)) fun lt2 => ?_)
 have hRC := qL hR hC
 have hcp : ((R : Int) * (C : Int)) = ((R * C : Nat) : Int) := (Int.natCast_mul R C).symm
 refine .seq fun _ k1 => .region (.box (.t rfl) rfl fun b1 => .box (.t rfl) rfl fun b2 => .alloc [isI 0, isI 0, nilS] zg (fun _ _ => ⟨⟨rfl, by decide, by decide⟩, ⟨rfl, by decide, by decide⟩, rfl, trivial⟩) rfl fun b3 => st (.as (.cI 0 rfl)) rfl (nl (.thn (k1 _ _ (.seq fun _ k2 => .block (.seq fun _ k3 => .region (st (.mv (.t rfl)) rfl (st (.call (jH) (.cons (.t rfl) .nil)) rfl (st (.not (.t rfl)) rfl (st (.mv (.t rfl)) rfl (stF rfl rfl (fun hg => .load1 (.t rfl) (i := 2) rfl ty3 rfl) rfl (stF rfl rfl (fun hg => .call (jH) (.cons (Has.g rfl hg) .nil)) rfl (stF rfl rfl (fun hg => .not (Has.g rfl hg)) rfl (st (.pickOr (.t rfl) (fun h => Has.g rfl (ng h))) rfl (st (.as (.t rfl)) rfl (nl (.thn (k3 _ _ (.cv (Cv.wk (.l [0, 4, 5, 6, 7, 8] rfl)) (.cond (.t rfl) (fun hc1 => ?_) (fun hc1 => ?_)))))))))))))))))))))
 ·have hc1 := BP.t hc1
  omega
 ·have hc1 := BP.f hc1
  refine .seq fun _ k4 => .region (st (.load1 (.t rfl) (i := 1) rfl ty73 rfl) rfl (st (.len sl73 (.t rfl)) rfl (st (.mv (.t rfl)) rfl (st (.load1 (.t rfl) (i := 2) rfl ty3 rfl) rfl (st (.mulI (.t rfl) (.t rfl) (by rw [hcp]; omega) (by rw [hcp]; omega)) rfl ?_)))))
  refine st (.neI (.t rfl) (.t rfl)) rfl (st (.as (.t rfl)) rfl (nl (.thn (k4 _ _ (.cv (Cv.wk (.l [0, 4, 5, 6, 7, 18] rfl)) (.cond (.t rfl) (fun hc2 => ?_) (fun hc2 => ?_)))))))
  ·have hc2 := BP.t hc2
   rw [hcp] at hc2; omega
  ·have hc2 := BP.f hc2
   refine .skip (.bln (.thn (k2 _ _ (.seq fun _ k5 => .region (st (.mv (.t rfl)) rfl (st (.load1 (.t rfl) (i := 2) rfl ty3 rfl) rfl (.cv (Cv.freezeBox (t := 5) (i := 1) rfl rfl rfl) (.memEq (M' := [_, _]) rfl (.cv (Cv.wk (.l [0, 4, 5, 6, 7, 18, 26, 27] rfl)) (.cv (Cv.freezeBox (t := 4) (i := 1) rfl rfl rfl) (.memEq (M' := [_]) rfl (.cv (Cv.wk (.l [0, 4, 5, 6, 7, 18, 26, 27] rfl)) (st (.makeFn (ι := PI R C) (As := fun p => [isI (p.1.1 : Int), isI (p.1.2 : Int)]) (R := fun p => Flat (zc (nz (cf l (p.1.1 * C + p.1.2))))) (fun p => zmat_Of_1 (by omega) (by rw [hl]; exact qG p.2.1 p.2.2)) .nil (.cons (.t rfl) (.cons (.t rfl) .nil))) rfl ?_)))))))))))))
   refine st (.call (jI (f := fun i k => nz (cf l (i * C + k))) hR hC (fun i k _ _ => by rw [zC]; exact Nat.le_trans (bd64 hb _) (by decide))) (.cons (.t rfl) (.cons (.t rfl) (.cons (.t rfl) .nil)))) rfl ?_
   refine .store (.t rfl) (.t rfl) (i := 0) rfl ty24 rfl rfl (Ss' := [_, _, _]) rfl (M' := [(some _, zB [_, _, _])]) rfl (st (.as (.cI 0 rfl)) rfl (nl (.thn (k5 _ _ (.cv (Cv.wk (.l [6, 7] rfl)) (.ret (rtN (.inl rfl) Tryz.results18 rfl rfl (.cell rfl (i := 0) rfl ty24 rfl ?_ (.tmp (Has.t' rfl ?_) .nil)))))))))
   ·exact wb (by rw [zvz fun i k => cf l (i * C + k)])
   ·rfl
theorem bM {R C i k : Nat} {xs : List (Bool × List Nat)} {K : Nat} (hx : Bd (vals xs) K) (hK : K ≤ 4000000000) (hR : R ≤ 64) (hC : C ≤ 64) (hl : xs.length = R * C) (hi : i < R) (hk : k < C) : Ctr Tryz.prog 22 [isM (R : Int) (C : Int) xs, isI (i : Int), isI (k : Int)] (isZ (cf (vals xs) (i * C + k))) := by
 refine Ctr.intro Tryz.func22 rfl (by kernel_rfl) Tryz.ntmps22 rfl fun w0 F0 => .cv (Cv.wk (.l [0, 1, 2] rfl)) (.fact (Has.rngI (Has.t (t := 1) rfl)) fun lt1 => .fact (Has.rngI (Has.t (t := 2) rfl)) fun lt2 => ?_)
 have hRC := qL hR hC
 have hpl := qG hi hk
 have hfo := zj hR hC hl
 have hxr := hx.raw (i * C + k)
 refine .seq fun _ k1 => .region (.box (.t rfl) rfl fun b1 => .alloc [isB false, SlM isU []] zG (fun _ _ => ⟨rfl, nilM _ _, trivial⟩) rfl fun b2 => nl (.thn (k1 _ _ (.seq fun _ k2 => .seq fun _ k3 => .region (st (.load (.t rfl) (i := 1) rfl ty24 rfl (Ss' := [_, _, _]) rfl) rfl (st (.eq (.call (zh) (.cons (.t rfl) .nil)) ((show isB _ = isB true from zU hfo))) rfl (st (.not (.t rfl)) rfl (st (.mv (.t rfl)) rfl (stF rfl rfl (fun hg => .load (.t rfl) (i := 1) rfl ty24 rfl (Ss' := [_, _, _]) rfl) rfl (stF rfl rfl (fun hg => .mv (.t rfl)) rfl (stF rfl rfl (fun hg => .call (zmat_has) (.cons (Has.g rfl hg) (.cons (Has.g rfl hg) .nil))) rfl (stF rfl rfl (fun hg => .not (Has.g rfl hg)) rfl (st (.pickOr (.t rfl) (fun h => Has.g rfl (ng h))) rfl (st (.mv (.t rfl)) rfl (stF rfl rfl (fun hg => .mv (.t rfl)) rfl (stF rfl rfl (fun hg => .ltI (Has.g rfl hg) (.cI 0 rfl)) rfl (st (.pickOr (.t rfl) (fun h => Has.g rfl (ng h))) rfl (st (.mv (.t rfl)) rfl (stF rfl rfl (fun hg => .mv (.t rfl)) rfl (stF rfl rfl (fun hg => .fieldAddr (.t rfl) zS ty3) rfl (stF rfl rfl (fun hg => .load1 (Has.g rfl hg) (i := 1) rfl ty3 rfl) rfl (stF rfl rfl (fun hg => .geI (Has.g rfl hg) (Has.g rfl hg)) rfl (st (.pickOr (.t rfl) (fun h => Has.g rfl (ng h))) rfl (nl (.thn (k3 _ _ (.cv (Cv.wk (.l [1, 2, 3, 6, 26] rfl)) ?_)))))))))))))))))))))))))))
 refine .cond (.t rfl) (fun hc1 => ?_) (fun hc1 => ?_)
 ·have hc1 := BP.t hc1
  simp at hc1; omega
 ·have hc1 := BP.f hc1
  refine .skip (.thn (k2 _ _ (.seq fun _ k4 => .region (st (.load (.t rfl) (i := 1) rfl ty24 rfl (Ss' := [_, _, _]) rfl) rfl (st (.mv (.t rfl)) rfl (st (.mv (.t rfl)) rfl (st (.call (vc (i := i) (k := k) (by omega) (by omega)) (.cons (.t rfl) (.cons (.t rfl) (.cons (.t rfl) .nil)))) rfl (.alloc [isB false, SlM isU []] zG (fun _ _ => ⟨rfl, nilM _ _, trivial⟩) rfl fun b3 => .store (.t rfl) (.t rfl) (i := 0) rfl ty41 rfl rfl (Ss' := [_, _]) rfl (M' := [(some _, zB [_, _]), _, _]) rfl (nl (.thn (k4 _ _ (.cv (Cv.wk (.l [6, 7] rfl)) (.seq fun _ k5 => .region (st (.fieldAddr (.t rfl) qA ty39) rfl (st (.load1 (.t rfl) (i := 0) rfl ty39 rfl) rfl (st (.fieldAddr (.t rfl) qX ty4) rfl (st (.load1 (.t rfl) (i := 0) rfl ty4 rfl) rfl (st (.call (qE (by omega)) (.cons (.t rfl) (.cons (.t rfl) .nil))) rfl (.store (.t rfl) (.t rfl) (i := 1) rfl ty41 rfl rfl (Ss' := [_, _]) rfl (M' := [_, (some _, zB [_, _]), _]) rfl (nl (.thn (k5 _ _ (.cv (Cv.wk (.l [6] rfl)) (.ret (rt1 (.inl rfl) Tryz.results22 rfl (.cell rfl (i := 1) rfl ty41 rfl ?_ .nil))))))))))))))))))))))))))
  all_goals (exact zN (by rw [zi]))
theorem zmat_Mul_1 {R C D i k K L : Nat} {xs ys : List (Bool × List Nat)} (hx : Bd (vals xs) K) (hy : Bd (vals ys) L) (hK : K + L ≤ 400000000) (hC : C ≤ 64) (hxl : xs.length = R * C) (hyl : ys.length = C * D) (hxm : xs.length ≤ 4096) (hym : ys.length ≤ 4096) (hi : i < R) (hk : k < D) : Ctr Tryz.prog 77 [isI (i : Int), isI (k : Int), ptM (R : Int) (C : Int) xs, ptM (C : Int) (D : Int) ys] (isZ (dotS (fun j => cf (vals xs) (i * C + j)) (fun j => cf (vals ys) (j * D + k)) C)) := by
 refine Ctr.intro Tryz.func77 rfl (by kernel_rfl) Tryz.ntmps77 rfl fun w0 F0 => .cv (Cv.wk (.l [0, 1, 2, 3] rfl)) (.fact (Has.rngI (Has.t (t := 0) rfl)) fun lt0 => .fact (Has.rngI (Has.t (t := 1) rfl)) fun lt1 => ?_)
 obtain ⟨f, hf⟩ : ∃ f : Nat → Int, f = fun j => cf (vals xs) (i * C + j) := ⟨_, rfl⟩
 obtain ⟨g, hg⟩ : ∃ g : Nat → Int, g = fun j => cf (vals ys) (j * D + k) := ⟨_, rfl⟩
 rw [← hf, ← hg]
 refine .seq fun _ k1 => .region (.alloc [isB false, SlM isU []] zG (fun _ _ => ⟨rfl, nilM _ _, trivial⟩) rfl fun b1 => nl (.thn (k1 _ _ (.seq fun _ k2 => .region (.alloc [isB false, SlM isU []] zG (fun _ _ => ⟨rfl, nilM _ _, trivial⟩) rfl fun b2 => nl (.thn (k2 _ _ (.seq fun _ k3 => .seq fun _ k4 => .region (st (.fieldAddrP (.t rfl) zS ty3 (Ss' := [_, _]) rfl) rfl (st (.loadP1 (.t rfl) ty3) rfl (st (.mv (.cI 0 rfl)) rfl (nl (.thn (k4 _ _ (.block (.loopF [0, 1, 2, 3, 6, 7, 10] (fun (z : { j : Nat // j ≤ C }) => match z with | ⟨j, hj⟩ => [(11, isI (j : Int))]) (fun M => fun (z : { j : Nat // j ≤ C }) => match z with | ⟨j, hj⟩ => [zM b2 (dotS f g j), (some b1, zB [isB false, SlM isU []])]) (fun (z : { j : Nat // j ≤ C }) => match z with | ⟨j, hj⟩ => C - j) (⟨0, Nat.zero_le _⟩) (Cv.mem (.c 11 rfl ?_ (.l [0, 1, 2, 3, 6, 7, 10] rfl)) ?_) ?_))))))))))))))))
 ·rfl
 ·exact zM0
 rintro ⟨j, hj⟩ K5 hK5
 refine .cv (Cv.wk (.l [11, 0, 1, 2, 3, 6, 7, 10] rfl)) (.memEq (M' := [zM b2 (dotS f g j), (some b1, zB [isB false, SlM isU []])]) rfl ?_)
 have hds := bj (f := f) (g := g) (K := K) (L := L) (fun j => by rw [hf]; exact hx _) (fun j => by rw [hg]; exact hy _) j
 refine .seq fun _ k6 => .region (st (.ltI (.t rfl) (.t rfl)) rfl (nl (.thn (k6 _ _ (.seq fun _ k7 => .cond (.t rfl) (fun hc1 => ?_) (fun hc1 => ?_))))))
 ·have hc1 := BP.t hc1
  have hj2 : j < C := (by omega)
  have hp1 := qG hi hj2
  have hp2 := qG hj2 hk
  have hxr := hx.raw (i * C + j)
  have hyr := hy.raw (j * D + k)
  have hfj : f j = cf (vals xs) (i * C + j) := by rw [hf]
  have hgj : g j = cf (vals ys) (j * D + k) := by rw [hg]
  have hfk := hx (i * C + j)
  have hgk := hy (j * D + k)
  have hmm := qD (f j) (g j)
  rw [← hfj] at hfk
  rw [← hgj] at hgk
  refine .skip (.thn (k7 _ _ (.seq fun _ k8 => .block (.seq fun _ k9 => .region (st (.mv (.t rfl)) rfl (st (.as (.t rfl)) rfl (nl (.thn (k9 _ _ (.dr (.s [] rfl rfl rfl (.o rfl (.load (.t rfl) (i := 0) rfl ty41 rfl (Ss' := [_, _]) rfl)) (.s [] rfl rfl rfl (.o rfl (.loadP (.t rfl) ty24 rfl (Ss' := [_, _, _]) rfl)) (.s [] rfl rfl rfl (.o rfl (.mv (.t rfl))) (.s [] rfl rfl rfl (.o rfl (.mv (.t rfl))) (.s [15, 16, 17] rfl rfl rfl (.o rfl (.call (vc (i := i) (k := j) hxm (by omega)) (.cons (.t rfl) (.cons (.t rfl) (.cons (.t rfl) .nil))))) (.s [] rfl rfl rfl (.o rfl (.loadP (.t rfl) ty24 rfl (Ss' := [_, _, _]) rfl)) (.s [] rfl rfl rfl (.o rfl (.mv (.t rfl))) (.s [] rfl rfl rfl (.o rfl (.mv (.t rfl))) (.s [19, 20, 21] rfl rfl rfl (.o rfl (.call (vc (i := j) (k := k) hym (by omega)) (.cons (.t rfl) (.cons (.t rfl) (.cons (.t rfl) .nil))))) (.s [18, 22] rfl rfl rfl (.o rfl (.eq (.call (qT (by omega) (by omega)) (.cons (.t rfl) (.cons (.t rfl) .nil))) ((show isZ _ = isZ (f j * g j) from zN (by rw [hfj, hgj, zi, zi]))))) (.fin (n := 10) zR (by kernel_rfl) (by kernel_rfl) (by kernel_rfl) (.cv (Cv.wk (.l [0, 1, 2, 3, 6, 7, 10, 11, 12, 13, 8, 14, 15, 16, 17, 18, 19, 20, 21, 22, 23] rfl)) (st (.eq (.call (qt (by rw [zC]; omega) (by rw [zC]; omega)) (.cons (.t rfl) (.cons (.t rfl) .nil))) ((show isZ _ = isZ (dotS f g j + f j * g j) from zN (by simp only [zH])))) rfl ?_)))))))))))))))))))))))
  refine .store (.t rfl) (.t rfl) (i := 0) rfl ty41 rfl rfl (Ss' := [_, _]) rfl (M' := [(some _, zB [_, _]), _]) rfl (nl (.bln (.thn (k8 _ _ (.region (st (.addI (.t rfl) (.cI 1 rfl) (by omega) (by omega)) rfl (st (.mv (.t rfl)) rfl (nl (.thn (hK5 (⟨j + 1, by omega⟩) _ _ ?_ (Cv.mem (.c 11 rfl ?_ (.l [0, 1, 2, 3, 6, 7, 10] rfl)) ?_)))))))))))
  ·show C - (j + 1) < C - j; omega
  ·exact zE (by omega)
  ·rfl
 ·have hc1 := BP.f hc1
  refine .exit (.the (.the (.blh (.thn (k3 _ _ (.cv (Cv.wk (.l [6, 7] rfl)) (.seq fun _ k10 => .region (st (.load (.t rfl) (i := 0) rfl ty41 rfl (Ss' := [_, _]) rfl) rfl (.store (.t rfl) (.t rfl) (i := 1) rfl ty41 rfl rfl (Ss' := [_, _]) rfl (M' := [_, (some _, zB [_, _])]) rfl (nl (.thn (k10 _ _ (.ret (rt1 (.inl rfl) Tryz.results77 rfl (.cell rfl (i := 1) rfl ty41 rfl ?_ .nil)))))))))))))))
  all_goals (exact zN (by rw [show j = C by omega]))
theorem bx {R C D K L : Nat} {xs ys : List (Bool × List Nat)} (hx : Bd (vals xs) K) (hy : Bd (vals ys) L) (hK : K + L ≤ 400000000) (hR : R ≤ 64) (hC : C ≤ 64) (hD : D ≤ 64) (hxl : xs.length = R * C) (hyl : ys.length = C * D) : Ctr Tryz.prog 54 [isM (R : Int) (C : Int) xs, isM (C : Int) (D : Int) ys] (zQ [isMz R D (tab (R * D) D fun i k => dotS (fun j => cf (vals xs) (i * C + j)) (fun j => cf (vals ys) (j * D + k)) C), isI 0]) := by
 refine Ctr.intro Tryz.func54 rfl (by kernel_rfl) Tryz.ntmps54 rfl fun w0 F0 => .cv (Cv.wk (.l [0, 1] rfl)) ?_
 have h1 := qL hR hC
 have h2 := qL hC hD
 have hf1 := zj hR hC hxl
 have hf2 := zj hC hD hyl
 refine .seq fun _ k1 => .region (.box (.t rfl) rfl fun b1 => .box (.t rfl) rfl fun b2 => .alloc [isI 0, isI 0, nilS] zg (fun _ _ => ⟨⟨rfl, by decide, by decide⟩, ⟨rfl, by decide, by decide⟩, rfl, trivial⟩) rfl fun b3 => st (.as (.cI 0 rfl)) rfl (nl (.thn (k1 _ _ (.seq fun _ k2 => .seq fun _ k3 => .region (st (.load (.t rfl) (i := 2) rfl ty24 rfl (Ss' := [_, _, _]) rfl) rfl (st (.eq (.call (zh) (.cons (.t rfl) .nil)) ((show isB _ = isB true from zU hf1))) rfl (st (.not (.t rfl)) rfl (st (.mv (.t rfl)) rfl (stF rfl rfl (fun hg => .load (.t rfl) (i := 1) rfl ty24 rfl (Ss' := [_, _, _]) rfl) rfl (stF rfl rfl (fun hg => .eq (.call (zh) (.cons (Has.g rfl hg) .nil)) ((show isB _ = isB true from zU hf2))) rfl (stF rfl rfl (fun hg => .not (Has.g rfl hg)) rfl (st (.pickOr (.t rfl) (fun h => Has.g rfl (ng h))) rfl (st (.mv (.t rfl)) rfl (stF rfl rfl (fun hg => .fieldAddr (.t rfl) zS ty3) rfl (stF rfl rfl (fun hg => .load1 (Has.g rfl hg) (i := 2) rfl ty3 rfl) rfl (stF rfl rfl (fun hg => .fieldAddr (.t rfl) zT ty3) rfl (stF rfl rfl (fun hg => .load1 (Has.g rfl hg) (i := 1) rfl ty3 rfl) rfl (stF rfl rfl (fun hg => .neI (Has.g rfl hg) (Has.g rfl hg)) rfl (st (.pickOr (.t rfl) (fun h => Has.g rfl (ng h))) rfl (nl (.thn (k3 _ _ (.cv (Cv.wk (.l [2, 3, 4, 5, 20] rfl)) (.cond (.t rfl) (fun hc1 => ?_) (fun hc1 => ?_))))))))))))))))))))))))))
 ·have hc1 := BP.t hc1
  simp at hc1
 ·have hc1 := BP.f hc1
  refine .skip (.thn (k2 _ _ (.seq fun _ k4 => .region (st (.fieldAddr (.t rfl) zT ty3) rfl (st (.load1 (.t rfl) (i := 2) rfl ty3 rfl) rfl (st (.fieldAddr (.t rfl) zS ty3) rfl (st (.load1 (.t rfl) (i := 1) rfl ty3 rfl) rfl (.cv (Cv.freezeBox (t := 2) (i := 2) rfl rfl rfl) (.memEq (M' := [_, _]) rfl (.cv (Cv.wk (.l [2, 3, 4, 5, 20, 23, 24, 25] rfl)) (.cv (Cv.freezeBox (t := 3) (i := 1) rfl rfl rfl) (.memEq (M' := [_]) rfl (.cv (Cv.wk (.l [2, 3, 4, 5, 20, 23, 25] rfl)) (st (.makeFn (ι := PI R D) (As := fun p => [isI (p.1.1 : Int), isI (p.1.2 : Int)]) (R := fun p => Flat (zc (nz (dotS (fun j => cf (vals xs) (p.1.1 * C + j)) (fun j => cf (vals ys) (j * D + p.1.2)) C)))) (fun p => zmat_Mul_1 hx hy hK hC hxl hyl (by omega) (by omega) p.2.1 p.2.2) .nil (.cons (.t rfl) (.cons (.t rfl) .nil))) rfl ?_))))))))))))))
  refine st (.call (jI (f := fun i k => nz (dotS (fun j => cf (vals xs) (i * C + j)) (fun j => cf (vals ys) (j * D + k)) C)) hR hD (fun i k _ _ => by rw [zC]; have := bj (f := fun j => cf (vals xs) (i * C + j)) (g := fun j => cf (vals ys) (j * D + k)) (fun j => hx _) (fun j => hy _) C; omega)) (.cons (.t rfl) (.cons (.t rfl) (.cons (.t rfl) .nil)))) rfl ?_
  refine .store (.t rfl) (.t rfl) (i := 0) rfl ty24 rfl rfl (Ss' := [_, _, _]) rfl (M' := [(some _, zB [_, _, _])]) rfl (st (.as (.cI 0 rfl)) rfl (nl (.thn (k4 _ _ (.cv (Cv.wk (.l [4, 5] rfl)) (.ret (rtN (.inl rfl) Tryz.results54 rfl rfl (.cell rfl (i := 0) rfl ty24 rfl ?_ (.tmp (Has.t' rfl ?_) .nil)))))))))
  ·exact wb (by rw [zvz fun i k => dotS (fun j => cf (vals xs) (i * C + j)) (fun j => cf (vals ys) (j * D + k)) C])
  ·rfl
theorem aW {R C i k : Nat} {xs : List (Bool × List Nat)} (hxl : xs.length = R * C) (hxm : xs.length ≤ 4096) (hi : i < C) (hk : k < R) : Ctr Tryz.prog 104 [isI (i : Int), isI (k : Int), ptM (R : Int) (C : Int) xs] (Flat (zc (xs.getD (k * C + i) (false, [])))) := by
 refine Ctr.intro Tryz.func104 rfl (by kernel_rfl) Tryz.ntmps104 rfl fun w0 F0 => .cv (Cv.wk (.l [0, 1, 2] rfl)) (.fact (Has.rngI (Has.t (t := 0) rfl)) fun lt0 => .fact (Has.rngI (Has.t (t := 1) rfl)) fun lt1 => ?_)
 have hp := qG hk hi
 refine .seq fun _ k1 => .region (.alloc [isB false, SlM isU []] zG (fun _ _ => ⟨rfl, nilM _ _, trivial⟩) rfl fun b1 => nl (.thn (k1 _ _ (.seq fun _ k2 => .region (st (.loadP (.t rfl) ty24 rfl (Ss' := [_, _, _]) rfl) rfl (st (.mv (.t rfl)) rfl (st (.mv (.t rfl)) rfl (st (.call (vc (i := k) (k := i) hxm (by omega)) (.cons (.t rfl) (.cons (.t rfl) (.cons (.t rfl) .nil)))) rfl (.store (.t rfl) (.t rfl) (i := 0) rfl ty41 rfl rfl (Ss' := [_, _]) rfl (M' := [(some _, zB [_, _])]) rfl (nl (.thn (k2 _ _ (.cv (Cv.wk (.l [5] rfl)) (.ret (rt1 (.inl rfl) Tryz.results104 rfl (.cell rfl (i := 0) rfl ty41 rfl ?_ .nil))))))))))))))))
 all_goals (rfl)
theorem jx {R C K : Nat} {xs : List (Bool × List Nat)} (hx : Bd (vals xs) K) (hK : K ≤ 400000000) (hR : R ≤ 64) (hC : C ≤ 64) (hxl : xs.length = R * C) : Ctr Tryz.prog 74 [isM (R : Int) (C : Int) xs] (zQ [isMz C R (tab (C * R) R fun i k => cf (vals xs) (k * C + i)), isI 0]) := by
 refine Ctr.intro Tryz.func74 rfl (by kernel_rfl) Tryz.ntmps74 rfl fun w0 F0 => .cv (Cv.wk (.l [0] rfl)) ?_
 have h1 := qL hR hC
 have hf1 := zj hR hC hxl
 refine .seq fun _ k1 => .region (.box (.t rfl) rfl fun b1 => .alloc [isI 0, isI 0, nilS] zg (fun _ _ => ⟨⟨rfl, by decide, by decide⟩, ⟨rfl, by decide, by decide⟩, rfl, trivial⟩) rfl fun b2 => st (.as (.cI 0 rfl)) rfl (nl (.thn (k1 _ _ (.seq fun _ k2 => .seq fun _ k3 => .region (st (.load (.t rfl) (i := 1) rfl ty24 rfl (Ss' := [_, _, _]) rfl) rfl (st (.eq (.call (zh) (.cons (.t rfl) .nil)) ((show isB _ = isB true from zU hf1))) rfl (st (.not (.t rfl)) rfl (nl (.thn (k3 _ _ (.cond (.t rfl) (fun hc1 => ?_) (fun hc1 => ?_)))))))))))))
 ·have hc1 := BP.t hc1
  simp at hc1
 ·have hc1 := BP.f hc1
  refine .skip (.thn (k2 _ _ (.seq fun _ k4 => .region (st (.fieldAddr (.t rfl) zS ty3) rfl (st (.load1 (.t rfl) (i := 1) rfl ty3 rfl) rfl (st (.fieldAddr (.t rfl) zT ty3) rfl (st (.load1 (.t rfl) (i := 1) rfl ty3 rfl) rfl (.cv (Cv.freezeBox (t := 1) (i := 1) rfl rfl rfl) (.memEq (M' := [_]) rfl (.cv (Cv.wk (.l [0, 1, 2, 3, 4, 5, 6, 9, 11] rfl)) (st (.makeFn (ι := PI C R) (As := fun p => [isI (p.1.1 : Int), isI (p.1.2 : Int)]) (R := fun p => Flat (zc (xs.getD (p.1.2 * C + p.1.1) (false, [])))) (fun p => aW hxl (by omega) p.2.1 p.2.2) .nil (.cons (.t rfl) .nil)) rfl (st (.call (jI (f := fun i k => xs.getD (k * C + i) (false, [])) hC hR (fun i k _ _ => Nat.le_trans (hx.raw _) (by omega))) (.cons (.t rfl) (.cons (.t rfl) (.cons (.t rfl) .nil)))) rfl (.store (.t rfl) (.t rfl) (i := 0) rfl ty24 rfl rfl (Ss' := [_, _, _]) rfl (M' := [(some _, zB [_, _, _])]) rfl (st (.as (.cI 0 rfl)) rfl (nl (.thn (k4 _ _ (.cv (Cv.wk (.l [2, 3] rfl)) (.ret (rtN (.inl rfl) Tryz.results74 rfl rfl (.cell rfl (i := 0) rfl ty24 rfl ?_ (.tmp (Has.t' rfl ?_) .nil))))))))))))))))))))))
  ·exact wb (by congr 1; funext i k; rw [zi])
  ·rfl
end Go.Proofs.YthmhlblaleahpaaGreat
namespace Go.Proofs.YthmhlblaleahpaaGreat
open Go.En Go.RowKit
set_option maxRecDepth 10000
set_option maxHeartbeats 4000000
open Go.Nt
open Go.Pz
open Go.Mz
open Go.Hn
theorem bz {m n : Bool} {xs ys : List Nat} (hx : (List.length (zA (val xs))) < 4294700000) (hy : (List.length (zA (val ys))) < 4294700000) (hp : 0 < zv n ys) : Ctr Tryz.prog 84 [Flat [isB m, zD xs], Flat [isB n, zD ys]] (zQ [isZ (zv m xs / zv n ys), isZ (zv m xs % zv n ys), isB true]) := by
 refine Ctr.intro Tryz.func84 rfl (by kernel_rfl) Tryz.ntmps84 rfl fun w0 F0 => .cv (Cv.wk (.l [0, 1] rfl)) (.fact (Has.okZ (Has.t (t := 0) rfl)) fun okz0 => .fact (Has.okZ (Has.t (t := 1) rfl)) fun okz1 => ?_)
 have ha := vu (zv m xs) (zv n ys)
 have hb := nz_if (zv m xs) (zv n ys)
 have hxx := xZ m xs
 have hyy := xZ n ys
 have h1 := ca
 have hs1 : sgn (zv n ys) = 1 := by rcases zp (zv n ys) with h | h | h <;> omega
 have hr := ab (if zv n ys = 0 then 0 else (zv m xs).tmod (zv n ys))
 refine .seq fun _ k1 => .region (.box (.t rfl) rfl fun b1 => .box (.t rfl) rfl fun b2 => .alloc [isB false, SlM isU []] zG (fun _ _ => ⟨rfl, nilM _ _, trivial⟩) rfl fun b3 => .alloc [isB false, SlM isU []] zG (fun _ _ => ⟨rfl, nilM _ _, trivial⟩) rfl fun b4 => st (.as (.cB false)) rfl (nl (.thn (k1 _ _ (.seq fun _ k2 => .region (st (.load (.t rfl) (i := 3) rfl ty41 rfl (Ss' := [_, _]) rfl) rfl (st (.load (.t rfl) (i := 2) rfl ty41 rfl (Ss' := [_, _]) rfl) rfl (st (.call (aC (by with_reducible assumption) (by with_reducible assumption)) (.cons (.t rfl) (.cons (.t rfl) .nil))) rfl (st (.mv (.t rfl)) rfl (st (.ext (.t rfl) rfl) rfl (st (.ext (.t rfl) rfl) rfl (st (.ext (.t rfl) rfl) rfl (.alloc [isB false, SlM isU []] zG (fun _ _ => ⟨rfl, nilM _ _, trivial⟩) rfl fun b5 => .alloc [isB false, SlM isU []] zG (fun _ _ => ⟨rfl, nilM _ _, trivial⟩) rfl fun b6 => .store (.t rfl) (.t rfl) (i := 1) rfl ty41 rfl rfl (Ss' := [_, _]) rfl (M' := [_, (some _, zB [_, _]), _, _, _, _]) rfl (.store (.t rfl) (.t rfl) (i := 0) rfl ty41 rfl rfl (Ss' := [_, _]) rfl (M' := [(some _, zB [_, _]), _, _, _, _, _]) rfl (st (.as (.t rfl)) rfl (nl (.thn (k2 _ _ (.cv (Cv.wk (.l [3, 4, 5, 6, 7, 8, 9] rfl)) (.seq fun _ k3 => .seq fun _ k4 => .dr (.s [] rfl rfl rfl (.o rfl (.mv (.t rfl))) (.s [17] rfl rfl rfl (.o rfl (.mv (.t rfl))) (.s [18] rfl rfl rfl (.T rfl rfl rfl (fun hg => .load (.t rfl) (i := 0) rfl ty41 rfl (Ss' := [_, _]) rfl)) ?_)))))))))))))))))))))))
 refine .s [18, 19] rfl rfl rfl (.T rfl rfl rfl (fun hg => have hg' := BP.t hg; OK1.eq (.call (zd (by simp only [zC, zH]; omega)) (.cons (Has.g rfl hg) .nil)) (by simp only [zC, zH]; rfl))) ?_
 refine .s [18] rfl rfl rfl (.T rfl rfl rfl (fun hg => .load (.t rfl) (i := 4) rfl ty41 rfl (Ss' := [_, _]) rfl)) (.fin (n := 5) zR (by kernel_rfl) (by kernel_rfl) (by kernel_rfl) (.cv (Cv.wk (.l [3, 4, 5, 6, 7, 8, 9, 18, 20, 21] rfl)) ?_))
 refine stT rfl rfl (fun hg => have hg' := BP.t hg; OK1.eq (.call (zd (by omega)) (.cons (Has.g rfl hg) .nil)) ((show isI _ = isI 1 from zE hs1))) rfl ?_
 refine stT rfl rfl (fun hg => have hg' := BP.t hg; OK1.mulI (Has.g rfl hg) (Has.g rfl hg) (by omega) (by omega)) rfl ?_
 refine stT rfl rfl (fun hg => .ltI (Has.g rfl hg) (.cI 0 rfl)) rfl (st (.pickAnd (.t rfl) (fun h => Has.g rfl h)) rfl (nl (.thn (k4 _ _ (.cv (Cv.wk (.l [3, 4, 5, 6, 7, 8, 9, 25] rfl)) (.cond (.t rfl) (fun hc1 => ?_) (fun hc1 => ?_)))))))
 ·have hc1 := BP.t hc1
  have HE := euc1 (x := zv m xs) (y := zv n ys) ⟨hc1.1, by have := hc1.2; omega⟩ ((sgn_pos _).2 hp)
  refine .dr (.s [] rfl rfl rfl (.o rfl (.load (.t rfl) (i := 1) rfl ty41 rfl (Ss' := [_, _]) rfl)) (.s [] rfl rfl rfl (.o rfl (.call (aB) .nil)) (.s [26, 27] rfl rfl rfl (.o rfl (.eq (.call (vd (by simp only [zC, zH]; omega) (by simp only [zC, zH]; omega)) (.cons (.t rfl) (.cons (.t rfl) .nil))) (by simp only [zC, zH]; rfl))) ?_)))
  refine .s [] rfl rfl rfl (.o rfl (.load (.t rfl) (i := 0) rfl ty41 rfl (Ss' := [_, _]) rfl)) (.s [] rfl rfl rfl (.o rfl (.load (.t rfl) (i := 4) rfl ty41 rfl (Ss' := [_, _]) rfl)) (.fin (n := 5) zR (by kernel_rfl) (by kernel_rfl) (by kernel_rfl) (.cv (Cv.wk (.l [4, 5, 6, 7, 8, 9, 28, 29, 30] rfl)) (st (.eq (.call (qt (by simp only [zC, zH]; omega) (by with_reducible assumption)) (.cons (.t rfl) (.cons (.t rfl) .nil))) (by simp only [zC, zH]; rfl)) rfl ?_))))
  refine .store (.t rfl) (.t rfl) (i := 1) rfl ty41 rfl rfl (Ss' := [_, _]) rfl (M' := [_, (some _, zB [_, _]), _, _, _, _]) rfl (.store (.t rfl) (.t rfl) (i := 0) rfl ty41 rfl rfl (Ss' := [_, _]) rfl (M' := [(some _, zB [_, _]), _, _, _, _, _]) rfl (nl (.thn (k3 _ _ (.seq fun _ k5 => .drh [true, true, false, false, true, true] (Ms := [_, _, _, _]) rfl (.s [] rfl rfl rfl (.o rfl (.load (.t rfl) (i := 1) rfl ty41 rfl (Ss' := [_, _]) rfl)) (.s [] rfl rfl rfl (.o rfl (.load (.t rfl) (i := 0) rfl ty41 rfl (Ss' := [_, _]) rfl)) (.s [] rfl rfl rfl (.o rfl (.mv (.t rfl))) (.mid2 (.cons_cons _ (.cons_cons _ (.cons _ (.cons _ (.cons_cons _ (.cons_cons _ .slnil)))))) (.st0 [32] rfl rfl (by kernel_rfl) (by kernel_rfl) (StS.store (.t rfl) (.t rfl) (i := 3) rfl ty41 rfl rfl (Ss' := [_, _]) rfl (M' := [_, _, _, (some _, zB [_, _]), _, _]) rfl) (.cons_cons _ (.cons_cons _ (.cons _ (.cons _ (.cons_cons _ (.cons_cons _ .slnil)))))) (.st0 [33] rfl rfl (by kernel_rfl) (by kernel_rfl) (StS.store (.t rfl) (.t rfl) (i := 2) rfl ty41 rfl rfl (Ss' := [_, _]) rfl (M' := [_, _, (some _, zB [_, _]), _, _, _]) rfl) (.cons_cons _ (.cons_cons _ (.cons _ (.cons _ (.cons_cons _ (.cons_cons _ .slnil)))))) (.fin0 (n := 5) zR rfl (by kernel_rfl) (by kernel_rfl) (by kernel_rfl) (.cv (Cv.wk (.l [4, 5, 6, 34] rfl)) (st (.as (.t rfl)) rfl (nl (.thn (k5 _ _ (.ret (rtN (.inl rfl) Tryz.results84 rfl rfl (.cell rfl (i := 3) rfl ty41 rfl ?_ (.cell rfl (i := 2) rfl ty41 rfl ?_ (.tmp (Has.t' rfl ?_) .nil))))))))))))))))))))))
  ·exact zN HE.1
  ·exact zN (HE.2.trans (if_neg (by omega)))
  ·exact zU (decide_eq_true (by omega))
 ·have hc1 := BP.f hc1
  have HE := euc0 (x := zv m xs) (y := zv n ys) (hc1.imp id fun h => by omega)
  refine .skip (.thn (k3 _ _ (.seq fun _ k6 => .drh [true, true, false, false, true, true] (Ms := [_, _, _, _]) rfl (.s [] rfl rfl rfl (.o rfl (.load (.t rfl) (i := 1) rfl ty41 rfl (Ss' := [_, _]) rfl)) (.s [] rfl rfl rfl (.o rfl (.load (.t rfl) (i := 0) rfl ty41 rfl (Ss' := [_, _]) rfl)) (.s [] rfl rfl rfl (.o rfl (.mv (.t rfl))) (.mid2 (.cons_cons _ (.cons_cons _ (.cons _ (.cons _ (.cons_cons _ (.cons_cons _ .slnil)))))) (.st0 [32] rfl rfl (by kernel_rfl) (by kernel_rfl) (StS.store (.t rfl) (.t rfl) (i := 3) rfl ty41 rfl rfl (Ss' := [_, _]) rfl (M' := [_, _, _, (some _, zB [_, _]), _, _]) rfl) (.cons_cons _ (.cons_cons _ (.cons _ (.cons _ (.cons_cons _ (.cons_cons _ .slnil)))))) (.st0 [33] rfl rfl (by kernel_rfl) (by kernel_rfl) (StS.store (.t rfl) (.t rfl) (i := 2) rfl ty41 rfl rfl (Ss' := [_, _]) rfl (M' := [_, _, (some _, zB [_, _]), _, _, _]) rfl) (.cons_cons _ (.cons_cons _ (.cons _ (.cons _ (.cons_cons _ (.cons_cons _ .slnil)))))) (.fin0 (n := 5) zR rfl (by kernel_rfl) (by kernel_rfl) (by kernel_rfl) (.cv (Cv.wk (.l [4, 5, 6, 34] rfl)) (st (.as (.t rfl)) rfl (nl (.thn (k6 _ _ (.ret (rtN (.inl rfl) Tryz.results84 rfl rfl (.cell rfl (i := 3) rfl ty41 rfl ?_ (.cell rfl (i := 2) rfl ty41 rfl ?_ (.tmp (Has.t' rfl ?_) .nil))))))))))))))))))))
  ·exact zN HE.1
  ·exact zN (HE.2.trans (if_neg (by omega)))
  ·exact zU (decide_eq_true (by omega))
theorem zint_Xgcd0 {m n : Bool} {xs ys : List Nat} (hx : (List.length (zA (val xs))) ≤ 100000000) (hy : (List.length (zA (val ys))) ≤ 100000000) (hb : zv n ys = 0) : Ctr Tryz.prog 116 [Flat [isB m, zD xs], Flat [isB n, zD ys]] (zQ [isZ (xgg (zv m xs) (zv n ys)), isZ (sgn (zv m xs)), isZ 0]) := by
 refine Ctr.intro Tryz.func116 rfl (by kernel_rfl) Tryz.ntmps116 rfl fun w0 F0 => .cv (Cv.wk (.l [0, 1] rfl)) (.fact (Has.okZ (Has.t (t := 0) rfl)) fun okz0 => .fact (Has.okZ (Has.t (t := 1) rfl)) fun okz1 => .seq fun _ k1 => .region (.box (.t rfl) rfl fun b1 => .box (.t rfl) rfl fun b2 => .alloc [isB false, SlM isU []] zG (fun _ _ => ⟨rfl, nilM _ _, trivial⟩) rfl fun b3 => .alloc [isB false, SlM isU []] zG (fun _ _ => ⟨rfl, nilM _ _, trivial⟩) rfl fun b4 => .alloc [isB false, SlM isU []] zG (fun _ _ => ⟨rfl, nilM _ _, trivial⟩) rfl fun b5 => nl (.thn (k1 _ _ (.seq fun _ k2 => .seq fun _ k3 => .region (st (.load (.t rfl) (i := 3) rfl ty41 rfl (Ss' := [_, _]) rfl) rfl (st (.call (zd (by omega)) (.cons (.t rfl) .nil)) rfl (st (.eqI (.t rfl) (.cI 0 rfl)) rfl (nl (.thn (k3 _ _ (.cond (.t rfl) (fun hc1 => ?_) (fun hc1 => ?_)))))))))))))
 ·have hc1 := BP.t hc1
  refine .seq fun _ k4 => .drh [true, false, false, true, true] (Ms := [_, _, _]) rfl (.s [] rfl rfl rfl (.o rfl (.load (.t rfl) (i := 2) rfl ty41 rfl (Ss' := [_, _]) rfl)) (.s [16] rfl rfl rfl (.o rfl (.call (zint_Abs (by omega)) (.cons (.t rfl) .nil))) (.s [] rfl rfl rfl (.o rfl (.load (.t rfl) (i := 2) rfl ty41 rfl (Ss' := [_, _]) rfl)) (.s [18] rfl rfl rfl (.o rfl (.call (zd (by omega)) (.cons (.t rfl) .nil))) (.s [19] rfl rfl rfl (.o rfl (.call (qi) (.cons (.t rfl) .nil))) (.s [] rfl rfl rfl (.o rfl (.eq (.build [isB false, SlM isU []] pl41 zG (fun _ _ => ⟨rfl, nilM _ _, trivial⟩) .nil (Z'' := [_, _]) rfl) (isZ0))) (.mid2 (.cons_cons _ (.cons _ (.cons _ (.cons_cons _ (.cons_cons _ .slnil))))) (.st0 [17] rfl rfl (by kernel_rfl) (by kernel_rfl) (StS.store (.t rfl) (.t rfl) (i := 2) rfl ty41 rfl rfl (Ss' := [_, _]) rfl (M' := [_, _, (some _, zB [_, _]), _, _]) rfl) (.cons_cons _ (.cons _ (.cons _ (.cons_cons _ (.cons_cons _ .slnil))))) (.st0 [20] rfl rfl (by kernel_rfl) (by kernel_rfl) (StS.store (.t rfl) (.t rfl) (i := 1) rfl ty41 rfl rfl (Ss' := [_, _]) rfl (M' := [_, (some _, zB [_, _]), _, _, _]) rfl) (.cons_cons _ (.cons _ (.cons _ (.cons_cons _ (.cons_cons _ .slnil))))) (.fin0 (n := 8) zR rfl (by kernel_rfl) (by kernel_rfl) (by kernel_rfl) (.cv (Cv.wk (.l [2, 3, 4, 5, 6, 21] rfl)) (.store (.t rfl) (.t rfl) (i := 0) rfl ty41 rfl rfl (Ss' := [_, _]) rfl (M' := [(some _, zB [_, _]), _, _, _, _]) rfl (nl (.thn (k4 _ _ (.ret (.thr (rtN (.inl rfl) Tryz.results116 rfl rfl (.cell rfl (i := 2) rfl ty41 rfl ?_ (.cell rfl (i := 1) rfl ty41 rfl ?_ (.cell rfl (i := 0) rfl ty41 rfl ?_ .nil)))))))))))))))))))))
  ·exact zN (by rw [hb]; unfold xgg; rw [show (0 : Int).natAbs = 0 from rfl, Nat.gcd_zero_right])
  ·rfl
  ·rfl
 ·have hc1 := BP.f hc1
  exact absurd ((qn _).2 hb) hc1
theorem zint_XgcdA {m n : Bool} {xs ys : List Nat} (hx : (List.length (zA (val xs))) ≤ 100000000) (hy : (List.length (zA (val ys))) ≤ 100000000) : Ctr Tryz.prog 116 [Flat [isB m, zD xs], Flat [isB n, zD ys]] (zQ [isZ (xgg (zv m xs) (zv n ys)), isZ (xgx (zv m xs) (zv n ys)), isZ (xgy (zv m xs) (zv n ys))]) := by
 by_cases hb : zv n ys = 0
 ·have h := zint_Xgcd0 (m := m) hx hy hb
  unfold xgx xgy
  rw [if_pos hb, if_pos hb]
  exact h
 ·have h := zint_Xgcd (m := m) hx hy hb
  have e := xgy_ex (a := zv m xs) hb
  unfold xgx
  rw [if_neg hb, ← e]
  exact h
theorem wc {m n : Bool} {us ws : List Nat} {xs ys : List (Bool × List Nat)} {A B K L : Nat} (ha : (List.length (zA (val us))) ≤ A) (hx : Bd (vals xs) K) (hb : (List.length (zA (val ws))) ≤ B) (hy : Bd (vals ys) L) (h1 : A + K ≤ 400000000) (h2 : B + L ≤ 400000000) (hl : ys.length = xs.length) (hn : xs.length ≤ 1000000) : Ctr Tryz.prog 100 [Flat [isB m, zD us], SlK 2 zc xs, Flat [isB n, zD ws], SlK 2 zc ys] (isP (mx2 (zv m us) (vals xs) (zv n ws) (vals ys))) := by
 refine Ctr.intro Tryz.func100 rfl (by kernel_rfl) Tryz.ntmps100 rfl fun w0 F0 => .cv (Cv.wk (.l [0, 1, 2, 3] rfl)) (.fact (Has.okZ (Has.t (t := 0) rfl)) fun okz0 => .fact (Has.lenLt (Has.t (t := 1) rfl)) fun lt1 => .fact (Has.okZ (Has.t (t := 2) rfl)) fun okz2 => .fact (Has.lenLt (Has.t (t := 3) rfl)) fun lt3 => ?_)
 obtain ⟨F, hF⟩ : ∃ F, F = mx2 (zv m us) (vals xs) (zv n ws) (vals ys) := ⟨_, rfl⟩
 have hFl : F.length = xs.length := by rw [hF, aJ, qJ]
 have hea := xZ m us
 have heb := xZ n ws
 refine .seq fun _ k1 => .region (.box (.t rfl) rfl fun b1 => .box (.t rfl) rfl fun b2 => st (.as (.cWK (k := 2) (fk := zc))) rfl (nl (.thn (k1 _ _ (.seq fun _ k2 => .region (st (.mv (.t rfl)) rfl (st (.len sl22 (.t rfl)) rfl (.makeK (fk := zc) (u := (false, [])) (n := xs.length) (c := xs.length) sl22 ty41 zG (fun _ _ => ⟨rfl, nilM _ _, trivial⟩) zO by41 (Has.t' rfl rfl) (Has.t' rfl rfl) ⟨by omega, by omega⟩ rfl fun b3 => st (.as (.t rfl)) rfl (nl (.thn (k2 _ _ (.cv (Cv.wk (.l [1, 3, 4, 6, 8, 9] rfl)) (.seq fun _ k3 => .seq fun _ k4 => .region (st (.mv (.t rfl)) rfl (st (.len sl22 (.t rfl)) rfl (st (.mv (.cI 0 rfl)) rfl (nl (.thn (k4 _ _ (.block (.loopF [1, 3, 4, 6, 8, 9, 15] (fun (z : { k : Nat // k ≤ xs.length }) => match z with | ⟨k, hk⟩ => [(16, isI (k : Int))]) (fun M => fun (z : { k : Nat // k ≤ xs.length }) => match z with | ⟨k, hk⟩ => [(some b3, zB ((fill (F.map nz) k (false, [])).flatMap zc)), (some b2, zB [isB n, SlM isU ws]), (some b1, zB [isB m, SlM isU us])]) (fun (z : { k : Nat // k ≤ xs.length }) => match z with | ⟨k, hk⟩ => xs.length - k) (⟨0, Nat.zero_le _⟩) (Cv.mem (.c 16 rfl ?_ (.l [1, 3, 4, 6, 8, 9, 15] rfl)) ?_) ?_)))))))))))))))))))))
 ·rfl
 ·exact memZ_eq (by rw [eO, List.length_map, hFl])
 rintro ⟨k, hk⟩ K5 hK5
 refine .cv (Cv.wk (.l [16, 1, 3, 4, 6, 8, 9, 15] rfl)) (.memEq (M' := [(some b3, zB ((fill (F.map nz) k (false, [])).flatMap zc)), (some b2, zB [isB n, SlM isU ws]), (some b1, zB [isB m, SlM isU us])]) rfl (.seq fun _ k6 => .region (st (.ltI (.t rfl) (.t rfl)) rfl (nl (.thn (k6 _ _ (.seq fun _ k7 => .cond (.t rfl) (fun hc1 => ?_) (fun hc1 => ?_))))))))
 ·have hc1 := BP.t hc1
  have hxr := hx.raw k
  have hyr := hy.raw k
  have hxk := hx k
  have hyk := hy k
  have hm1 := qD (zv m us) (cf (vals xs) k)
  have hm2 := qD (zv n ws) (cf (vals ys) k)
  refine .skip (.thn (k7 _ _ (.seq fun _ k8 => .block (.seq fun _ k9 => .region (st (.mv (.t rfl)) rfl (st (.as (.t rfl)) rfl (nl (.thn (k9 _ _ (.dr (.s [] rfl rfl rfl (.o rfl (.mv (.t rfl))) (.s [] rfl rfl rfl (.o rfl (.mv (.t rfl))) (.s [] rfl rfl rfl (.o rfl (.load (.t rfl) (i := 2) rfl ty41 rfl (Ss' := [_, _]) rfl)) (.s [] rfl rfl rfl (.o rfl (.mv (.t rfl))) (.s [] rfl rfl rfl (.o rfl (.mv (.t rfl))) (.s [22, 23] rfl rfl rfl (.o rfl (.ixK sl22 ty41 (.t rfl) (.t rfl) zO ⟨by omega, by omega⟩ (getD_some (d := (false, [])) (by omega)))) (.s [24] rfl rfl rfl (.o rfl (.loadP (.t rfl) ty41 rfl (Ss' := [_, _]) rfl)) ?_)))))))))))))))))
  refine .s [21, 25] rfl rfl rfl (.o rfl (.eq (.call (qT (by omega) (by show (List.length (zA (val (xs.getD k (false, [])).2))) ≤ _; omega)) (.cons (.t rfl) (.cons (.t rfl) .nil))) ((show isZ _ = isZ (zv m us * cf (vals xs) k) from zN (by rw [zi]; rfl))))) ?_
  refine .s [] rfl rfl rfl (.o rfl (.load (.t rfl) (i := 1) rfl ty41 rfl (Ss' := [_, _]) rfl)) (.s [] rfl rfl rfl (.o rfl (.mv (.t rfl))) (.s [] rfl rfl rfl (.o rfl (.mv (.t rfl))) (.s [28, 29] rfl rfl rfl (.o rfl (.ixK sl22 ty41 (.t rfl) (.t rfl) zO ⟨by omega, by omega⟩ (getD_some (d := (false, [])) (by omega)))) (.s [30] rfl rfl rfl (.o rfl (.loadP (.t rfl) ty41 rfl (Ss' := [_, _]) rfl)) ?_))))
  refine .s [27, 31] rfl rfl rfl (.o rfl (.eq (.call (qT (by omega) (by show (List.length (zA (val (ys.getD k (false, [])).2))) ≤ _; omega)) (.cons (.t rfl) (.cons (.t rfl) .nil))) ((show isZ _ = isZ (zv n ws * cf (vals ys) k) from zN (by rw [zi]; rfl))))) ?_
  refine .s [26, 32] rfl rfl rfl (.o rfl (.eq (.call (qt (by rw [zC]; omega) (by rw [zC]; omega)) (.cons (.t rfl) (.cons (.t rfl) .nil))) ((show isZ _ = Flat (zc (nz (zv m us * cf (vals xs) k + zv n ws * cf (vals ys) k))) from zN (by rw [zH, zH]))))) ?_
  refine .fin (n := 15) zR (by kernel_rfl) (by kernel_rfl) (by kernel_rfl) (.cv (Cv.wk (.l [1, 3, 4, 6, 8, 9, 15, 16, 17, 18, 10, 19, 20, 21, 22, 23, 24, 25, 26, 27, 28, 29, 30, 31, 32, 33] rfl)) (st (.eq (.ixWin sl22 ty41 (.t rfl) (.t rfl) ⟨by omega, by omega⟩) (zX (by exact ixo2))) rfl (.storeK (z := nz (zv m us * cf (vals xs) k + zv n ws * cf (vals ys) k)) zO (.t rfl) (.t rfl) (i := 0) rfl ty41 (by rw [aQ _ _ _ (by rw [List.length_map]; omega), List.length_map]; omega) (M' := [(_, _), _, _]) rfl ?_)))
  refine nl (.bln (.thn (k8 _ _ (.region (st (.addI (.t rfl) (.cI 1 rfl) (by omega) (by omega)) rfl (st (.mv (.t rfl)) rfl (nl (.thn (hK5 (⟨k + 1, by omega⟩) _ _ ?_ (Cv.mem (.c 16 rfl ?_ (.l [1, 3, 4, 6, 8, 9, 15] rfl)) ?_))))))))))
  ·show xs.length - (k + 1) < xs.length - k; omega
  ·exact zE (by omega)
  ·exact memF_eq (by rw [List.getElem?_map, hF]; unfold mx2; rw [List.getElem?_map, List.getElem?_range (by rw [qJ]; omega)]; rfl)
 ·have hc1 := BP.f hc1
  refine .exit (.the (.the (.blh (.thn (k3 _ _ (.cv (Cv.wk (.l [8, 9] rfl)) (.seq fun _ k10 => .cv (Cv.freezeK (t := 9) (i := 0) (ys := F.map nz) zO rfl rfl rfl (by rw [aQ _ _ _ (by rw [List.length_map]; omega), List.length_map]; omega) (fill_done (by rw [List.length_map]; omega) (by rw [List.length_map, hFl]))) ?_)))))))
  refine .memEq (M' := [_, _]) rfl (.cv (Cv.wk (.l [8, 9] rfl)) (.region (st (.mv (.t rfl)) rfl (st (.as (.t rfl)) rfl (nl (.thn (k10 _ _ (.ret (rt1 (.inl rfl) Tryz.results100 rfl (.tmp (Has.t' rfl ?_) .nil))))))))))
  all_goals (exact wa hF)
end Go.Proofs.YthmhlblaleahpaaGreat
namespace Go.Proofs.YthmhlblaleahpaaGreat
open Go.En Go.RowKit
set_option maxRecDepth 10000
set_option maxHeartbeats 4000000
open Go.Nt
open Go.Pz
theorem ag {m : Bool} {xs : List Nat} (hx : (List.length (zA (val xs))) ≤ 4000000000) : Ctr Tryz.prog 13 [Flat [isB m, zD xs]] (isQ ((zv m xs : Int) : Rat)) := by
 refine Ctr.intro Tryz.func13 rfl (by kernel_rfl) Tryz.ntmps13 rfl fun w0 F0 => .cv (Cv.wk (.l [0] rfl)) (.fact (Has.okZ (Has.t (t := 0) rfl)) fun okz0 => .seq fun _ k1 => .region (.box (.t rfl) rfl fun b1 => .alloc [isB false, SlM isU [], isB false, SlM isU []] zt (fun _ _ => ⟨rfl, nilM _ _, rfl, nilM _ _, trivial⟩) rfl fun b2 => nl (.thn (k1 _ _ (.seq fun _ k2 => .region (st (.fieldAddr (.t rfl) qA ty39) rfl (st (.load1 (.t rfl) (i := 1) rfl ty39 rfl) rfl (st (.fieldAddr (.t rfl) qX ty4) rfl (st (.load1 (.t rfl) (i := 1) rfl ty4 rfl) rfl (st (.call (qE (by omega)) (.cons (.t rfl) (.cons (.t rfl) .nil))) rfl (st (.call (qi) (.cons (.cI 1 rfl) .nil)) rfl (st (.build [isB false, SlM isU [], isB false, SlM isU []] pl43 zt (fun _ _ => ⟨rfl, nilM _ _, rfl, nilM _ _, trivial⟩) (.cons (.t rfl) rfl rfl rfl (.cons (.t rfl) rfl rfl rfl .nil)) (Z'' := [_, _, _, _]) rfl) rfl (.store (.t rfl) (.t rfl) (i := 0) rfl ty43 rfl rfl (Ss' := [_, _, _, _]) rfl (M' := [(some _, zB [_, _, _, _]), _]) rfl (nl (.thn (k2 _ _ (.cv (Cv.wk (.l [2] rfl)) (.ret (rt1 (.inl rfl) Tryz.results13 rfl (.cell rfl (i := 0) rfl ty43 rfl ?_ .nil))))))))))))))))))))
 all_goals (rfl)
theorem rat_Make {m n : Bool} {xs ys : List Nat} (hx : (List.length (zA (val xs))) ≤ 4000000000) (hy : (List.length (zA (val ys))) ≤ 4000000000) (h0 : zv n ys ≠ 0) : Ctr Tryz.prog 66 [Flat [isB m, zD xs], Flat [isB n, zD ys]] (zQ [isQ (Rat.divInt (zv m xs) (zv n ys)), isB true]) := by
 refine Ctr.intro Tryz.func66 rfl (by kernel_rfl) Tryz.ntmps66 rfl fun w0 F0 => .cv (Cv.wk (.l [0, 1] rfl)) (.fact (Has.okZ (Has.t (t := 0) rfl)) fun okz0 => .fact (Has.okZ (Has.t (t := 1) rfl)) fun okz1 => ?_)
 have ha := xZ m xs
 have hb := xZ n ys
 obtain ⟨q, hqd⟩ : ∃ q, q = (Rat.divInt (zv m xs) (zv n ys)) := ⟨_, rfl⟩
 rw [← hqd]
 refine .seq fun _ k1 => .region (.box (.t rfl) rfl fun b1 => .box (.t rfl) rfl fun b2 => .alloc [isB false, SlM isU [], isB false, SlM isU []] zt (fun _ _ => ⟨rfl, nilM _ _, rfl, nilM _ _, trivial⟩) rfl fun b3 => st (.as (.cB false)) rfl (nl (.thn (k1 _ _ (.seq fun _ k2 => .seq fun _ k3 => .region (st (.load (.t rfl) (i := 1) rfl ty41 rfl (Ss' := [_, _]) rfl) rfl (st (.call (zd (by omega)) (.cons (.t rfl) .nil)) rfl (st (.eqI (.t rfl) (.cI 0 rfl)) rfl (nl (.thn (k3 _ _ (.cond (.t rfl) (fun hc1 => ?_) (fun hc1 => ?_)))))))))))))
 ·have hc1 := BP.t hc1
  exact absurd ((qn _).1 hc1) h0
 ·have hc1 := BP.f hc1
  skip
  refine .skip (.thn (k2 _ _ (.cv (Cv.wk (.l [2, 3, 4, 5] rfl)) (.seq fun _ k4 => .seq fun _ k5 => .region (st (.load (.t rfl) (i := 1) rfl ty41 rfl (Ss' := [_, _]) rfl) rfl (st (.call (zd (by omega)) (.cons (.t rfl) .nil)) rfl (st (.ltI (.t rfl) (.cI 0 rfl)) rfl (nl (.thn (k5 _ _ (.cond (.t rfl) (fun hc2 => ?_) (fun hc2 => ?_))))))))))))
  ·have hc2 := BP.t hc2
   have hc2' := (je _).1 hc2
   obtain ⟨N, hN⟩ : ∃ N, N = -(zv m xs) := ⟨_, rfl⟩
   obtain ⟨D, hD⟩ : ∃ D, D = -(zv n ys) := ⟨_, rfl⟩
   have hZ1 : zv m xs = -N := by omega
   have hZ2 : zv n ys = -D := by omega
   have hD0 : 0 < D := by omega
   have hR1 : val xs = N.natAbs := by have := vN m xs; omega
   have hR2 : val ys = D.natAbs := by have := vN n ys; omega
   have hNw : (List.length (zA N.natAbs)) ≤ 4000000000 := by rw [← hR1]; exact hx
   have hDw : (List.length (zA D.natAbs)) ≤ 4000000000 := by rw [← hR2]; exact hy
   obtain ⟨hq1, hq2, hq3, hq4⟩ := mk_num (N := N) hD0 (q := q) (hqd.trans (by rw [hZ1, hZ2]; try exact Rat.neg_divInt_neg _ _))
   have hgw : (List.length (zA (Nat.gcd N.natAbs D.natAbs))) ≤ 4000000000 := Nat.le_trans (ze (Nat.le_of_dvd (by omega) (Nat.gcd_dvd_right _ _))) hDw
   obtain ⟨g, hg⟩ : ∃ g : Int, g = ((Nat.gcd N.natAbs D.natAbs : Nat) : Int) := ⟨_, rfl⟩
   have hgw2 : (List.length (zA g.natAbs)) ≤ 4000000000 := by rw [hg, Int.natAbs_natCast]; exact hgw
   rw [← hg] at hq1 hq2 hq3 hq4
   refine .dr (.s [] rfl rfl rfl (.o rfl (.load (.t rfl) (i := 2) rfl ty41 rfl (Ss' := [_, _]) rfl)) (.s [14] rfl rfl rfl (.o rfl (.call (xk (by omega)) (.cons (.t rfl) .nil))) (.s [] rfl rfl rfl (.o rfl (.load (.t rfl) (i := 1) rfl ty41 rfl (Ss' := [_, _]) rfl)) (.fin (n := 3) zR (by kernel_rfl) (by kernel_rfl) (by kernel_rfl) (.cv (Cv.wk (.l [2, 3, 4, 5, 15, 16] rfl)) (st (.call (xk (by omega)) (.cons (.t rfl) .nil)) rfl (.store (.t rfl) (.t rfl) (i := 2) rfl ty41 rfl rfl (Ss' := [_, _]) rfl (M' := [_, _, (some _, zB [_, _])]) rfl (.store (.t rfl) (.t rfl) (i := 1) rfl ty41 rfl rfl (Ss' := [_, _]) rfl (M' := [_, (some _, zB [_, _]), _]) rfl (nl (.thn (k4 _ _ (.seq fun _ k6 => .region (st (.load (.t rfl) (i := 2) rfl ty41 rfl (Ss' := [_, _]) rfl) rfl (st (.load (.t rfl) (i := 1) rfl ty41 rfl (Ss' := [_, _]) rfl) rfl (st (.eq (.call (zint_Gcd (by simp only [zC, zH, hZ1, hZ2, hR1, hR2, Int.neg_neg]; omega) (by simp only [zC, zH, hZ1, hZ2, hR1, hR2, Int.neg_neg]; omega)) (.cons (.t rfl) (.cons (.t rfl) .nil))) ((show isZ _ = isZ g from zN (by rw [hg]; simp only [zC, zH, hZ1, hZ2, hR1, hR2, Int.neg_neg])))) rfl ?_)))))))))))))))
   refine .alloc [isB false, SlM isU []] zG (fun _ _ => ⟨rfl, nilM _ _, trivial⟩) rfl fun b4 => .store (.t rfl) (.t rfl) (i := 0) rfl ty41 rfl rfl (Ss' := [_, _]) rfl (M' := [(some _, zB [_, _]), _, _, _]) rfl (nl (.thn (k6 _ _ (.cv (Cv.wk (.l [2, 3, 4, 5, 6] rfl)) (.seq fun _ k7 => .region (st (.load (.t rfl) (i := 3) rfl ty41 rfl (Ss' := [_, _]) rfl) rfl ?_))))))
   refine st (.load (.t rfl) (i := 0) rfl ty41 rfl (Ss' := [_, _]) rfl) rfl (st (.eq (.call (xC (by simp only [zC, zH, hZ1, hZ2, hR1, hR2, Int.neg_neg]; omega) (by simp only [zC, zH, hZ1, hZ2, hR1, hR2, Int.neg_neg]; omega)) (.cons (.t rfl) (.cons (.t rfl) .nil))) ((show zQ [isZ _, isB _] = zQ [isZ (q.num), isB true] from by simp only [zC, zH, hZ1, hZ2, hR1, hR2, Int.neg_neg]; rw [if_pos hq1, decide_eq_true hq1, hq2]))) rfl ?_)
   refine st (.mv (.t rfl)) rfl (st (.ext (.t rfl) rfl) rfl (st (.ext (.t rfl) rfl) rfl (.store (.t rfl) (.t rfl) (i := 3) rfl ty41 rfl rfl (Ss' := [_, _]) rfl (M' := [_, _, _, (some _, zB [_, _])]) rfl (nl (.thn (k7 _ _ (.cv (Cv.wk (.l [2, 3, 4, 5, 6] rfl)) (.seq fun _ k8 => .region (st (.load (.t rfl) (i := 2) rfl ty41 rfl (Ss' := [_, _]) rfl) rfl ?_)))))))))
   refine st (.load (.t rfl) (i := 0) rfl ty41 rfl (Ss' := [_, _]) rfl) rfl (st (.eq (.call (xC (by simp only [zC, zH, hZ1, hZ2, hR1, hR2, Int.neg_neg]; omega) (by simp only [zC, zH, hZ1, hZ2, hR1, hR2, Int.neg_neg]; omega)) (.cons (.t rfl) (.cons (.t rfl) .nil))) ((show zQ [isZ _, isB _] = zQ [isZ ((q.den : Nat) : Int), isB true] from by simp only [zC, zH, hZ1, hZ2, hR1, hR2, Int.neg_neg]; rw [if_pos hq3, decide_eq_true hq3, hq4]))) rfl ?_)
   refine st (.mv (.t rfl)) rfl (st (.ext (.t rfl) rfl) rfl (st (.ext (.t rfl) rfl) rfl (.store (.t rfl) (.t rfl) (i := 2) rfl ty41 rfl rfl (Ss' := [_, _]) rfl (M' := [_, _, (some _, zB [_, _]), _]) rfl (nl (.thn (k8 _ _ (.cv (Cv.wk (.l [2, 3, 4, 5] rfl)) (.seq fun _ k9 => .region (st (.load (.t rfl) (i := 3) rfl ty41 rfl (Ss' := [_, _]) rfl) rfl (st (.load (.t rfl) (i := 2) rfl ty41 rfl (Ss' := [_, _]) rfl) rfl (st (.build [isB false, SlM isU [], isB false, SlM isU []] pl43 zt (fun _ _ => ⟨rfl, nilM _ _, rfl, nilM _ _, trivial⟩) (.cons (.t rfl) rfl rfl rfl (.cons (.t rfl) rfl rfl rfl .nil)) (Z'' := [_, _, _, _]) rfl) rfl (.store (.t rfl) (.t rfl) (i := 1) rfl ty43 rfl rfl (Ss' := [_, _, _, _]) rfl (M' := [_, (some _, zB [_, _, _, _]), _, _]) rfl (st (.as (.cB true)) rfl (nl (.thn (k9 _ _ (.cv (Cv.wk (.l [4, 5] rfl)) (.ret (rtN (.inl rfl) Tryz.results66 rfl rfl (.cell rfl (i := 1) rfl ty43 rfl ?_ (.tmp (Has.t' rfl ?_) .nil)))))))))))))))))))))
   ·rfl
   ·rfl
  ·have hc2 := BP.f hc2
   have hc2' : 0 ≤ zv n ys := by rcases zp (zv n ys) with h | h | h <;> omega
   obtain ⟨N, hN⟩ : ∃ N, N = zv m xs := ⟨_, rfl⟩
   obtain ⟨D, hD⟩ : ∃ D, D = zv n ys := ⟨_, rfl⟩
   have hZ1 : zv m xs = N := by omega
   have hZ2 : zv n ys = D := by omega
   have hD0 : 0 < D := by omega
   have hR1 : val xs = N.natAbs := by have := vN m xs; omega
   have hR2 : val ys = D.natAbs := by have := vN n ys; omega
   have hNw : (List.length (zA N.natAbs)) ≤ 4000000000 := by rw [← hR1]; exact hx
   have hDw : (List.length (zA D.natAbs)) ≤ 4000000000 := by rw [← hR2]; exact hy
   obtain ⟨hq1, hq2, hq3, hq4⟩ := mk_num (N := N) hD0 (q := q) (hqd.trans (by rw [hZ1, hZ2]; try exact Rat.neg_divInt_neg _ _))
   have hgw : (List.length (zA (Nat.gcd N.natAbs D.natAbs))) ≤ 4000000000 := Nat.le_trans (ze (Nat.le_of_dvd (by omega) (Nat.gcd_dvd_right _ _))) hDw
   obtain ⟨g, hg⟩ : ∃ g : Int, g = ((Nat.gcd N.natAbs D.natAbs : Nat) : Int) := ⟨_, rfl⟩
   have hgw2 : (List.length (zA g.natAbs)) ≤ 4000000000 := by rw [hg, Int.natAbs_natCast]; exact hgw
   rw [← hg] at hq1 hq2 hq3 hq4
   refine .skip (.thn (k4 _ _ (.seq fun _ k10 => .region (st (.load (.t rfl) (i := 2) rfl ty41 rfl (Ss' := [_, _]) rfl) rfl (st (.load (.t rfl) (i := 1) rfl ty41 rfl (Ss' := [_, _]) rfl) rfl (st (.eq (.call (zint_Gcd (by omega) (by omega)) (.cons (.t rfl) (.cons (.t rfl) .nil))) ((show isZ _ = isZ g from zN (by rw [hg]; simp only [zC, zH, hZ1, hZ2, hR1, hR2, Int.neg_neg])))) rfl ?_))))))
   refine .alloc [isB false, SlM isU []] zG (fun _ _ => ⟨rfl, nilM _ _, trivial⟩) rfl fun b5 => .store (.t rfl) (.t rfl) (i := 0) rfl ty41 rfl rfl (Ss' := [_, _]) rfl (M' := [(some _, zB [_, _]), _, _, _]) rfl (nl (.thn (k10 _ _ (.cv (Cv.wk (.l [2, 3, 4, 5, 6] rfl)) (.seq fun _ k11 => .region (st (.load (.t rfl) (i := 3) rfl ty41 rfl (Ss' := [_, _]) rfl) rfl ?_))))))
   refine st (.load (.t rfl) (i := 0) rfl ty41 rfl (Ss' := [_, _]) rfl) rfl (st (.eq (.call (xC (by omega) (by simp only [zC, zH, hZ1, hZ2, hR1, hR2, Int.neg_neg]; omega)) (.cons (.t rfl) (.cons (.t rfl) .nil))) ((show zQ [isZ _, isB _] = zQ [isZ (q.num), isB true] from by simp only [zC, zH, hZ1, hZ2, hR1, hR2, Int.neg_neg]; rw [if_pos hq1, decide_eq_true hq1, hq2]))) rfl ?_)
   refine st (.mv (.t rfl)) rfl (st (.ext (.t rfl) rfl) rfl (st (.ext (.t rfl) rfl) rfl (.store (.t rfl) (.t rfl) (i := 3) rfl ty41 rfl rfl (Ss' := [_, _]) rfl (M' := [_, _, _, (some _, zB [_, _])]) rfl (nl (.thn (k11 _ _ (.cv (Cv.wk (.l [2, 3, 4, 5, 6] rfl)) (.seq fun _ k12 => .region (st (.load (.t rfl) (i := 2) rfl ty41 rfl (Ss' := [_, _]) rfl) rfl ?_)))))))))
   refine st (.load (.t rfl) (i := 0) rfl ty41 rfl (Ss' := [_, _]) rfl) rfl (st (.eq (.call (xC (by omega) (by simp only [zC, zH, hZ1, hZ2, hR1, hR2, Int.neg_neg]; omega)) (.cons (.t rfl) (.cons (.t rfl) .nil))) ((show zQ [isZ _, isB _] = zQ [isZ ((q.den : Nat) : Int), isB true] from by simp only [zC, zH, hZ1, hZ2, hR1, hR2, Int.neg_neg]; rw [if_pos hq3, decide_eq_true hq3, hq4]))) rfl ?_)
   refine st (.mv (.t rfl)) rfl (st (.ext (.t rfl) rfl) rfl (st (.ext (.t rfl) rfl) rfl (.store (.t rfl) (.t rfl) (i := 2) rfl ty41 rfl rfl (Ss' := [_, _]) rfl (M' := [_, _, (some _, zB [_, _]), _]) rfl (nl (.thn (k12 _ _ (.cv (Cv.wk (.l [2, 3, 4, 5] rfl)) (.seq fun _ k13 => .region (st (.load (.t rfl) (i := 3) rfl ty41 rfl (Ss' := [_, _]) rfl) rfl (st (.load (.t rfl) (i := 2) rfl ty41 rfl (Ss' := [_, _]) rfl) rfl (st (.build [isB false, SlM isU [], isB false, SlM isU []] pl43 zt (fun _ _ => ⟨rfl, nilM _ _, rfl, nilM _ _, trivial⟩) (.cons (.t rfl) rfl rfl rfl (.cons (.t rfl) rfl rfl rfl .nil)) (Z'' := [_, _, _, _]) rfl) rfl (.store (.t rfl) (.t rfl) (i := 1) rfl ty43 rfl rfl (Ss' := [_, _, _, _]) rfl (M' := [_, (some _, zB [_, _, _, _]), _, _]) rfl (st (.as (.cB true)) rfl (nl (.thn (k13 _ _ (.cv (Cv.wk (.l [4, 5] rfl)) (.ret (rtN (.inl rfl) Tryz.results66 rfl rfl (.cell rfl (i := 1) rfl ty43 rfl ?_ (.tmp (Has.t' rfl ?_) .nil)))))))))))))))))))))
   ·rfl
   ·rfl
theorem rat_norm {m n : Bool} {xs ys : List Nat} (hx : (List.length (zA (val xs))) ≤ 4000000000) (hy : (List.length (zA (val ys))) ≤ 4000000000) (h0 : zv n ys ≠ 0) : Ctr Tryz.prog 41 [Flat [isB m, zD xs, isB n, zD ys]] (isQ (Rat.divInt (zv m xs) (zv n ys))) := by
 refine Ctr.intro Tryz.func41 rfl (by kernel_rfl) Tryz.ntmps41 rfl fun w0 F0 => .cv (Cv.wk (.l [0] rfl)) (.seq fun _ k1 => .region (.box (.t rfl) rfl fun b1 => .alloc [isB false, SlM isU [], isB false, SlM isU []] zt (fun _ _ => ⟨rfl, nilM _ _, rfl, nilM _ _, trivial⟩) rfl fun b2 => nl (.thn (k1 _ _ (.seq fun _ k2 => .region (st (.fieldAddr (.t rfl) vE ty41) rfl (st (.load (.t rfl) (i := 1) rfl ty41 rfl (Ss' := [_, _]) rfl) rfl (st (.fieldAddr (.t rfl) xR ty41) rfl (st (.load (.t rfl) (i := 1) rfl ty41 rfl (Ss' := [_, _]) rfl) rfl (st (.call (rat_Make (m := m) (n := n) (xs := xs) (ys := ys) hx hy h0) (.cons (.t rfl) (.cons (.t rfl) .nil))) rfl (st (.mv (.t rfl)) rfl (st (.ext (.t rfl) rfl) rfl (st (.ext (.t rfl) rfl) rfl (.alloc [isB false, SlM isU [], isB false, SlM isU []] zt (fun _ _ => ⟨rfl, nilM _ _, rfl, nilM _ _, trivial⟩) rfl fun b3 => .store (.t rfl) (.t rfl) (i := 0) rfl ty43 rfl rfl (Ss' := [_, _, _, _]) rfl (M' := [(some _, zB [_, _, _, _]), _, _]) rfl (st (.as (.t rfl)) rfl (nl (.thn (k2 _ _ (.cv (Cv.wk (.l [2, 3] rfl)) (.seq fun _ k3 => .region (st (.load (.t rfl) (i := 0) rfl ty43 rfl (Ss' := [_, _, _, _]) rfl) rfl (.store (.t rfl) (.t rfl) (i := 1) rfl ty43 rfl rfl (Ss' := [_, _, _, _]) rfl (M' := [_, (some _, zB [_, _, _, _]), _]) rfl (nl (.thn (k3 _ _ (.ret (rt1 (.inl rfl) Tryz.results41 rfl (.cell rfl (i := 1) rfl ty43 rfl ?_ .nil))))))))))))))))))))))))))))
 all_goals (rfl)
theorem xb {q : Rat} (hq : qs q ≤ 4000000000) : Ctr Tryz.prog 41 [isQ q] (isQ q) := by
 have h := rat_norm (m := decide (q.num < 0)) (n := decide ((q.den : Int) < 0)) (xs := zA q.num.natAbs) (ys := zA ((q.den : Int)).natAbs) (by rw [zC]; exact qo hq) (by rw [zC]; exact vK hq) (by rw [zH]; exact xp q)
 rw [zH, zH, Rat.num_divInt_den] at h
 exact h
theorem dw {x y : Int} (hx : (List.length (zA x.natAbs)) ≤ 4000000000) (hy : (List.length (zA y.natAbs)) ≤ 4000000000) (h0 : y ≠ 0) : Ctr Tryz.prog 41 [Flat [isB (decide (x < 0)), SlM isU (zA x.natAbs), isB (decide (y < 0)), SlM isU (zA y.natAbs)]] (isQ (Rat.divInt x y)) := by
 have h := rat_norm (m := decide (x < 0)) (n := decide (y < 0)) (xs := zA x.natAbs) (ys := zA y.natAbs) (by rw [zC]; exact hx) (by rw [zC]; exact hy) (by rw [zH]; exact h0)
 rw [zH, zH] at h
 exact h
theorem rat_MakeZ {x y : Int} (hx : (List.length (zA x.natAbs)) ≤ 4000000000) (hy : (List.length (zA y.natAbs)) ≤ 4000000000) (h0 : y ≠ 0) : Ctr Tryz.prog 66 [isZ x, isZ y] (zQ [isQ (Rat.divInt x y), isB true]) := by
 have h := rat_Make (m := decide (x < 0)) (n := decide (y < 0)) (xs := zA x.natAbs) (ys := zA y.natAbs) (by rw [zC]; exact hx) (by rw [zC]; exact hy) (by rw [zH]; exact h0)
 rw [zH, zH] at h
 exact h
theorem bU {p q : Rat} {A B : Nat} (hp : qs p ≤ A) (hq : qs q ≤ B) (hAB : A + B ≤ 1000000000) : Ctr Tryz.prog 15 [isQ p, isQ q] (isQ (p + q)) := by
 refine Ctr.intro Tryz.func15 rfl (by kernel_rfl) Tryz.ntmps15 rfl fun w0 F0 => .cv (Cv.wk (.l [0, 1] rfl)) ?_
 have g1 := qo hp
 have g2 := vK hp
 have g3 := qo hq
 have g4 := vK hq
 have m1 := qD p.num q.den
 have m2 := qD q.num p.den
 have m3 := qD p.den q.den
 have m4 := xU (p.num * q.den) (q.num * p.den)
 refine .seq fun _ k1 => .region (.box (.t rfl) rfl fun b1 => .box (.t rfl) rfl fun b2 => .alloc [isB false, SlM isU [], isB false, SlM isU []] zt (fun _ _ => ⟨rfl, nilM _ _, rfl, nilM _ _, trivial⟩) rfl fun b3 => nl (.thn (k1 _ _ (.seq fun _ k2 => .dr (.s [] rfl rfl rfl (.o rfl (.load (.t rfl) (i := 2) rfl ty43 rfl (Ss' := [_, _, _, _]) rfl)) (.s [5] rfl rfl rfl (.o rfl (.call (xb (q := p) (by omega)) (.cons (.t rfl) .nil))) (.s [] rfl rfl rfl (.o rfl (.load (.t rfl) (i := 1) rfl ty43 rfl (Ss' := [_, _, _, _]) rfl)) (.fin (n := 3) zR (by kernel_rfl) (by kernel_rfl) (by kernel_rfl) (.cv (Cv.wk (.l [2, 3, 4, 6, 7] rfl)) (st (.call (xb (q := q) (by omega)) (.cons (.t rfl) .nil)) rfl (.store (.t rfl) (.t rfl) (i := 2) rfl ty43 rfl rfl (Ss' := [_, _, _, _]) rfl (M' := [_, _, (some _, zB [_, _, _, _])]) rfl (.store (.t rfl) (.t rfl) (i := 1) rfl ty43 rfl rfl (Ss' := [_, _, _, _]) rfl (M' := [_, (some _, zB [_, _, _, _]), _]) rfl (nl (.thn (k2 _ _ (.seq fun _ k3 => .dr (.s [] rfl rfl rfl (.o rfl (.fieldAddr (.t rfl) vE ty41)) (.s [9] rfl rfl rfl (.o rfl (.load (.t rfl) (i := 2) rfl ty41 rfl (Ss' := [_, _]) rfl)) (.s [] rfl rfl rfl (.o rfl (.fieldAddr (.t rfl) xR ty41)) (.s [11] rfl rfl rfl (.o rfl (.load (.t rfl) (i := 1) rfl ty41 rfl (Ss' := [_, _]) rfl)) (.s [10, 12] rfl rfl rfl (.o rfl (.eq (.call (qT (by rw [zC]; omega) (by rw [zC]; omega)) (.cons (.t rfl) (.cons (.t rfl) .nil))) ((show isZ _ = isZ (p.num * q.den) from zN (by simp only [zH]))))) ?_)))))))))))))))))))))
 refine .s [] rfl rfl rfl (.o rfl (.fieldAddr (.t rfl) vE ty41)) (.s [14] rfl rfl rfl (.o rfl (.load (.t rfl) (i := 1) rfl ty41 rfl (Ss' := [_, _]) rfl)) (.s [] rfl rfl rfl (.o rfl (.fieldAddr (.t rfl) xR ty41)) (.s [16] rfl rfl rfl (.o rfl (.load (.t rfl) (i := 2) rfl ty41 rfl (Ss' := [_, _]) rfl)) (.s [15, 17] rfl rfl rfl (.o rfl (.eq (.call (qT (by rw [zC]; omega) (by rw [zC]; omega)) (.cons (.t rfl) (.cons (.t rfl) .nil))) ((show isZ _ = isZ (q.num * p.den) from zN (by simp only [zH]))))) ?_))))
 refine .s [13, 18] rfl rfl rfl (.o rfl (.eq (.call (qt (by rw [zC]; omega) (by rw [zC]; omega)) (.cons (.t rfl) (.cons (.t rfl) .nil))) ((show isZ _ = isZ (p.num * q.den + q.num * p.den) from zN (by simp only [zH]))))) ?_
 refine .s [] rfl rfl rfl (.o rfl (.fieldAddr (.t rfl) xR ty41)) (.s [20] rfl rfl rfl (.o rfl (.load (.t rfl) (i := 2) rfl ty41 rfl (Ss' := [_, _]) rfl)) (.s [] rfl rfl rfl (.o rfl (.fieldAddr (.t rfl) xR ty41)) (.s [22] rfl rfl rfl (.o rfl (.load (.t rfl) (i := 1) rfl ty41 rfl (Ss' := [_, _]) rfl)) (.fin (n := 15) zR (by kernel_rfl) (by kernel_rfl) (by kernel_rfl) (.cv (Cv.wk (.l [4, 19, 21, 23] rfl)) (st (.eq (.call (qT (by rw [zC]; omega) (by rw [zC]; omega)) (.cons (.t rfl) (.cons (.t rfl) .nil))) ((show isZ _ = isZ (p.den * q.den) from zN (by simp only [zH])))) rfl ?_))))))
 refine st (.build [isB false, SlM isU [], isB false, SlM isU []] pl43 zt (fun _ _ => ⟨rfl, nilM _ _, rfl, nilM _ _, trivial⟩) (.cons (.t rfl) rfl rfl rfl (.cons (.t rfl) rfl rfl rfl .nil)) (Z'' := [_, _, _, _]) rfl) rfl (st (.eq (.call (dw (x := p.num * q.den + q.num * p.den) (y := p.den * q.den) (by omega) (by omega) (Int.mul_ne_zero (xp p) (xp q))) (.cons (.t rfl) .nil)) ((qk (dP p q)))) rfl (.store (.t rfl) (.t rfl) (i := 0) rfl ty43 rfl rfl (Ss' := [_, _, _, _]) rfl (M' := [(some _, zB [_, _, _, _]), _, _]) rfl (nl (.thn (k3 _ _ (.cv (Cv.wk (.l [4] rfl)) (.ret (rt1 (.inl rfl) Tryz.results15 rfl (.cell rfl (i := 0) rfl ty43 rfl ?_ .nil)))))))))
 all_goals (rfl)
theorem bT {p q : Rat} {A B : Nat} (hp : qs p ≤ A) (hq : qs q ≤ B) (hAB : A + B ≤ 1000000000) : Ctr Tryz.prog 40 [isQ p, isQ q] (isQ (p * q)) := by
 refine Ctr.intro Tryz.func40 rfl (by kernel_rfl) Tryz.ntmps40 rfl fun w0 F0 => .cv (Cv.wk (.l [0, 1] rfl)) ?_
 have g1 := qo hp
 have g2 := vK hp
 have g3 := qo hq
 have g4 := vK hq
 have m1 := qD p.num q.num
 have m3 := qD p.den q.den
 refine .seq fun _ k1 => .region (.box (.t rfl) rfl fun b1 => .box (.t rfl) rfl fun b2 => .alloc [isB false, SlM isU [], isB false, SlM isU []] zt (fun _ _ => ⟨rfl, nilM _ _, rfl, nilM _ _, trivial⟩) rfl fun b3 => nl (.thn (k1 _ _ (.seq fun _ k2 => .dr (.s [] rfl rfl rfl (.o rfl (.load (.t rfl) (i := 2) rfl ty43 rfl (Ss' := [_, _, _, _]) rfl)) (.s [5] rfl rfl rfl (.o rfl (.call (xb (q := p) (by omega)) (.cons (.t rfl) .nil))) (.s [] rfl rfl rfl (.o rfl (.load (.t rfl) (i := 1) rfl ty43 rfl (Ss' := [_, _, _, _]) rfl)) (.fin (n := 3) zR (by kernel_rfl) (by kernel_rfl) (by kernel_rfl) (.cv (Cv.wk (.l [2, 3, 4, 6, 7] rfl)) (st (.call (xb (q := q) (by omega)) (.cons (.t rfl) .nil)) rfl (.store (.t rfl) (.t rfl) (i := 2) rfl ty43 rfl rfl (Ss' := [_, _, _, _]) rfl (M' := [_, _, (some _, zB [_, _, _, _])]) rfl (.store (.t rfl) (.t rfl) (i := 1) rfl ty43 rfl rfl (Ss' := [_, _, _, _]) rfl (M' := [_, (some _, zB [_, _, _, _]), _]) rfl (nl (.thn (k2 _ _ (.seq fun _ k3 => .dr (.s [] rfl rfl rfl (.o rfl (.fieldAddr (.t rfl) vE ty41)) (.s [9] rfl rfl rfl (.o rfl (.load (.t rfl) (i := 2) rfl ty41 rfl (Ss' := [_, _]) rfl)) (.s [] rfl rfl rfl (.o rfl (.fieldAddr (.t rfl) vE ty41)) (.s [11] rfl rfl rfl (.o rfl (.load (.t rfl) (i := 1) rfl ty41 rfl (Ss' := [_, _]) rfl)) (.s [10, 12] rfl rfl rfl (.o rfl (.eq (.call (qT (by rw [zC]; omega) (by rw [zC]; omega)) (.cons (.t rfl) (.cons (.t rfl) .nil))) ((show isZ _ = isZ (p.num * q.num) from zN (by simp only [zH]))))) ?_)))))))))))))))))))))
 refine .s [] rfl rfl rfl (.o rfl (.fieldAddr (.t rfl) xR ty41)) (.s [14] rfl rfl rfl (.o rfl (.load (.t rfl) (i := 2) rfl ty41 rfl (Ss' := [_, _]) rfl)) (.s [] rfl rfl rfl (.o rfl (.fieldAddr (.t rfl) xR ty41)) (.s [16] rfl rfl rfl (.o rfl (.load (.t rfl) (i := 1) rfl ty41 rfl (Ss' := [_, _]) rfl)) (.fin (n := 9) zR (by kernel_rfl) (by kernel_rfl) (by kernel_rfl) (.cv (Cv.wk (.l [4, 13, 15, 17] rfl)) (st (.eq (.call (qT (by rw [zC]; omega) (by rw [zC]; omega)) (.cons (.t rfl) (.cons (.t rfl) .nil))) ((show isZ _ = isZ (p.den * q.den) from zN (by simp only [zH])))) rfl ?_))))))
 refine st (.build [isB false, SlM isU [], isB false, SlM isU []] pl43 zt (fun _ _ => ⟨rfl, nilM _ _, rfl, nilM _ _, trivial⟩) (.cons (.t rfl) rfl rfl rfl (.cons (.t rfl) rfl rfl rfl .nil)) (Z'' := [_, _, _, _]) rfl) rfl (st (.eq (.call (dw (x := p.num * q.num) (y := p.den * q.den) (by omega) (by omega) (Int.mul_ne_zero (xp p) (xp q))) (.cons (.t rfl) .nil)) ((qk (cd p q)))) rfl (.store (.t rfl) (.t rfl) (i := 0) rfl ty43 rfl rfl (Ss' := [_, _, _, _]) rfl (M' := [(some _, zB [_, _, _, _]), _, _]) rfl (nl (.thn (k3 _ _ (.cv (Cv.wk (.l [4] rfl)) (.ret (rt1 (.inl rfl) Tryz.results40 rfl (.cell rfl (i := 0) rfl ty43 rfl ?_ .nil)))))))))
 all_goals (rfl)
theorem rat_Quo {p q : Rat} {A B : Nat} (hp : qs p ≤ A) (hq : qs q ≤ B) (hAB : A + B ≤ 1000000000) (h0 : q ≠ 0) : Ctr Tryz.prog 38 [isQ p, isQ q] (zQ [isQ (p / q), isB true]) := by
 refine Ctr.intro Tryz.func38 rfl (by kernel_rfl) Tryz.ntmps38 rfl fun w0 F0 => .cv (Cv.wk (.l [0, 1] rfl)) ?_
 have g1 := qo hp
 have g2 := vK hp
 have g3 := qo hq
 have g4 := vK hq
 have m1 := qD p.num q.den
 have m3 := qD p.den q.num
 refine .seq fun _ k1 => .region (.box (.t rfl) rfl fun b1 => .box (.t rfl) rfl fun b2 => .alloc [isB false, SlM isU [], isB false, SlM isU []] zt (fun _ _ => ⟨rfl, nilM _ _, rfl, nilM _ _, trivial⟩) rfl fun b3 => st (.as (.cB false)) rfl (nl (.thn (k1 _ _ (.seq fun _ k2 => .dr (.s [] rfl rfl rfl (.o rfl (.load (.t rfl) (i := 2) rfl ty43 rfl (Ss' := [_, _, _, _]) rfl)) (.s [6] rfl rfl rfl (.o rfl (.call (xb (q := p) (by omega)) (.cons (.t rfl) .nil))) (.s [] rfl rfl rfl (.o rfl (.load (.t rfl) (i := 1) rfl ty43 rfl (Ss' := [_, _, _, _]) rfl)) (.fin (n := 3) zR (by kernel_rfl) (by kernel_rfl) (by kernel_rfl) (.cv (Cv.wk (.l [2, 3, 4, 5, 7, 8] rfl)) (st (.call (xb (q := q) (by omega)) (.cons (.t rfl) .nil)) rfl (.store (.t rfl) (.t rfl) (i := 2) rfl ty43 rfl rfl (Ss' := [_, _, _, _]) rfl (M' := [_, _, (some _, zB [_, _, _, _])]) rfl (.store (.t rfl) (.t rfl) (i := 1) rfl ty43 rfl rfl (Ss' := [_, _, _, _]) rfl (M' := [_, (some _, zB [_, _, _, _]), _]) rfl (nl (.thn (k2 _ _ (.seq fun _ k3 => .dr (.s [] rfl rfl rfl (.o rfl (.fieldAddr (.t rfl) vE ty41)) (.s [10] rfl rfl rfl (.o rfl (.load (.t rfl) (i := 2) rfl ty41 rfl (Ss' := [_, _]) rfl)) (.s [] rfl rfl rfl (.o rfl (.fieldAddr (.t rfl) xR ty41)) (.s [12] rfl rfl rfl (.o rfl (.load (.t rfl) (i := 1) rfl ty41 rfl (Ss' := [_, _]) rfl)) (.s [11, 13] rfl rfl rfl (.o rfl (.eq (.call (qT (by rw [zC]; omega) (by rw [zC]; omega)) (.cons (.t rfl) (.cons (.t rfl) .nil))) ((show isZ _ = isZ (p.num * q.den) from zN (by simp only [zH]))))) ?_))))))))))))))))))))))
 refine .s [] rfl rfl rfl (.o rfl (.fieldAddr (.t rfl) xR ty41)) (.s [15] rfl rfl rfl (.o rfl (.load (.t rfl) (i := 2) rfl ty41 rfl (Ss' := [_, _]) rfl)) (.s [] rfl rfl rfl (.o rfl (.fieldAddr (.t rfl) vE ty41)) (.s [17] rfl rfl rfl (.o rfl (.load (.t rfl) (i := 1) rfl ty41 rfl (Ss' := [_, _]) rfl)) (.s [16, 18] rfl rfl rfl (.o rfl (.eq (.call (qT (by rw [zC]; omega) (by rw [zC]; omega)) (.cons (.t rfl) (.cons (.t rfl) .nil))) ((show isZ _ = isZ (p.den * q.num) from zN (by simp only [zH]))))) ?_))))
 refine .s [14, 19] rfl rfl rfl (.o rfl (.eq (.call (rat_MakeZ (x := p.num * q.den) (y := p.den * q.num) (by omega) (by omega) (Int.mul_ne_zero (xp p) (num_ne h0))) (.cons (.t rfl) (.cons (.t rfl) .nil))) ((show _ = zQ [isQ (p / q), isB true] from by rw [cS])))) (.s [20] rfl rfl rfl (.o rfl (.ext (.t rfl) rfl)) (.s [20] rfl rfl rfl (.o rfl (.ext (.t rfl) rfl)) (.fin (n := 13) zR (by kernel_rfl) (by kernel_rfl) (by kernel_rfl) (.cv (Cv.wk (.l [4, 5, 21, 22] rfl)) (.store (.t rfl) (.t rfl) (i := 0) rfl ty43 rfl rfl (Ss' := [_, _, _, _]) rfl (M' := [(some _, zB [_, _, _, _]), _, _]) rfl (st (.as (.t rfl)) rfl (nl (.thn (k3 _ _ (.ret (rtN (.inl rfl) Tryz.results38 rfl rfl (.cell rfl (i := 0) rfl ty43 rfl ?_ (.tmp (Has.t' rfl ?_) .nil)))))))))))))
 ·rfl
 ·rfl
theorem rat_Neg {q : Rat} {A : Nat} (hq : qs q ≤ A) (hA : A ≤ 1000000000) : Ctr Tryz.prog 17 [isQ q] (isQ (-q)) := by
 refine Ctr.intro Tryz.func17 rfl (by kernel_rfl) Tryz.ntmps17 rfl fun w0 F0 => .cv (Cv.wk (.l [0] rfl)) ?_
 have g3 := qo hq
 have g4 := vK hq
 refine .seq fun _ k1 => .region (.box (.t rfl) rfl fun b1 => .alloc [isB false, SlM isU [], isB false, SlM isU []] zt (fun _ _ => ⟨rfl, nilM _ _, rfl, nilM _ _, trivial⟩) rfl fun b2 => nl (.thn (k1 _ _ (.seq fun _ k2 => .region (st (.load (.t rfl) (i := 1) rfl ty43 rfl (Ss' := [_, _, _, _]) rfl) rfl (st (.call (xb (q := q) (by omega)) (.cons (.t rfl) .nil)) rfl (.store (.t rfl) (.t rfl) (i := 1) rfl ty43 rfl rfl (Ss' := [_, _, _, _]) rfl (M' := [_, (some _, zB [_, _, _, _])]) rfl (nl (.thn (k2 _ _ (.seq fun _ k3 => .dr (.s [] rfl rfl rfl (.o rfl (.fieldAddr (.t rfl) vE ty41)) (.s [5] rfl rfl rfl (.o rfl (.load (.t rfl) (i := 1) rfl ty41 rfl (Ss' := [_, _]) rfl)) (.s [6] rfl rfl rfl (.o rfl (.eq (.call (xk (by rw [zC]; omega)) (.cons (.t rfl) .nil)) ((show isZ _ = isZ (-q.num) from zN (by simp only [zH]))))) ?_))))))))))))))
 refine .s [] rfl rfl rfl (.o rfl (.fieldAddr (.t rfl) xR ty41)) (.s [8] rfl rfl rfl (.o rfl (.load (.t rfl) (i := 1) rfl ty41 rfl (Ss' := [_, _]) rfl)) (.fin (n := 5) zR (by kernel_rfl) (by kernel_rfl) (by kernel_rfl) (.cv (Cv.wk (.l [2, 7, 9] rfl)) (st (.build [isB false, SlM isU [], isB false, SlM isU []] pl43 zt (fun _ _ => ⟨rfl, nilM _ _, rfl, nilM _ _, trivial⟩) (.cons (.t rfl) rfl rfl rfl (.cons (.t rfl) rfl rfl rfl .nil)) (Z'' := [_, _, _, _]) rfl) rfl (.store (.t rfl) (.t rfl) (i := 0) rfl ty43 rfl rfl (Ss' := [_, _, _, _]) rfl (M' := [(some _, zB [_, _, _, _]), _]) rfl (nl (.thn (k3 _ _ (.ret (rt1 (.inl rfl) Tryz.results17 rfl (.cell rfl (i := 0) rfl ty43 rfl ?_ .nil)))))))))))
 all_goals (rfl)
theorem et {p q : Rat} {A B : Nat} (hp : qs p ≤ A) (hq : qs q ≤ B) (hAB : A + B ≤ 1000000000) : Ctr Tryz.prog 39 [isQ p, isQ q] (isQ (p - q)) := by
 refine Ctr.intro Tryz.func39 rfl (by kernel_rfl) Tryz.ntmps39 rfl fun w0 F0 => .cv (Cv.wk (.l [0, 1] rfl)) (.seq fun _ k1 => .region (.box (.t rfl) rfl fun b1 => .box (.t rfl) rfl fun b2 => .alloc [isB false, SlM isU [], isB false, SlM isU []] zt (fun _ _ => ⟨rfl, nilM _ _, rfl, nilM _ _, trivial⟩) rfl fun b3 => nl (.thn (k1 _ _ (.seq fun _ k2 => .dr (.s [] rfl rfl rfl (.o rfl (.load (.t rfl) (i := 2) rfl ty43 rfl (Ss' := [_, _, _, _]) rfl)) (.s [] rfl rfl rfl (.o rfl (.load (.t rfl) (i := 1) rfl ty43 rfl (Ss' := [_, _, _, _]) rfl)) (.s [6] rfl rfl rfl (.o rfl (.call (rat_Neg hq (by omega)) (.cons (.t rfl) .nil))) (.fin (n := 3) zR (by kernel_rfl) (by kernel_rfl) (by kernel_rfl) (.cv (Cv.wk (.l [4, 5, 7] rfl)) (st (.eq (.call (bU hp (qs_neg hq) hAB) (.cons (.t rfl) (.cons (.t rfl) .nil))) ((qk (Rat.sub_eq_add_neg p q).symm))) rfl (.store (.t rfl) (.t rfl) (i := 0) rfl ty43 rfl rfl (Ss' := [_, _, _, _]) rfl (M' := [(some _, zB [_, _, _, _]), _, _]) rfl (nl (.thn (k2 _ _ (.ret (rt1 (.inl rfl) Tryz.results39 rfl (.cell rfl (i := 0) rfl ty43 rfl ?_ .nil))))))))))))))))))
 all_goals (rfl)
theorem rat_Sign {q : Rat} {A : Nat} (hq : qs q ≤ A) (hA : A ≤ 2000000000) : Ctr Tryz.prog 43 [isQ q] (isI (sgn q.num)) := by
 refine Ctr.intro Tryz.func43 rfl (by kernel_rfl) Tryz.ntmps43 rfl fun w0 F0 => .cv (Cv.wk (.l [0] rfl)) ?_
 have g3 := qo hq
 have g4 := vK hq
 have hd := bo q
 have hsd : sgn ((q.den : Nat) : Int) = 1 := by rcases zp ((q.den : Nat) : Int) with h | h | h <;> omega
 have hsr := ab q.num
 refine .seq fun _ k1 => .region (.box (.t rfl) rfl fun b1 => st (.as (.cI 0 rfl)) rfl (nl (.thn (k1 _ _ (.seq fun _ k2 => .dr (.s [] rfl rfl rfl (.o rfl (.fieldAddr (.t rfl) vE ty41)) (.s [3] rfl rfl rfl (.o rfl (.load (.t rfl) (i := 0) rfl ty41 rfl (Ss' := [_, _]) rfl)) (.s [4] rfl rfl rfl (.o rfl (.eq (.call (zd (by rw [zC]; omega)) (.cons (.t rfl) .nil)) ((show isI _ = isI (sgn q.num) from zE (by rw [zH]))))) ?_))))))))
 refine .s [] rfl rfl rfl (.o rfl (.fieldAddr (.t rfl) xR ty41)) (.s [6] rfl rfl rfl (.o rfl (.load (.t rfl) (i := 0) rfl ty41 rfl (Ss' := [_, _]) rfl)) (.fin (n := 5) zR (by kernel_rfl) (by kernel_rfl) (by kernel_rfl) (.cv (Cv.wk (.l [2, 5, 7] rfl)) (st (.eq (.call (zd (by rw [zC]; omega)) (.cons (.t rfl) .nil)) ((show isI _ = isI 1 from zE (by rw [zH, hsd])))) rfl ?_))))
 refine st (.mulI (.t rfl) (.t rfl) (by omega) (by omega)) rfl (st (.as (.t rfl)) rfl (nl (.thn (k2 _ _ (.ret (rt1 (.inl rfl) Tryz.results43 rfl (.tmp (Has.t' rfl ?_) .nil)))))))
 all_goals (exact zE (Int.mul_one _))
theorem rat_Cmp {p q : Rat} {A B : Nat} (hp : qs p ≤ A) (hq : qs q ≤ B) (hAB : A + B ≤ 1000000000) : Ctr Tryz.prog 16 [isQ p, isQ q] (isI (sgn (p - q).num)) := by
 refine Ctr.intro Tryz.func16 rfl (by kernel_rfl) Tryz.ntmps16 rfl fun w0 F0 => .cv (Cv.wk (.l [0, 1] rfl)) (.seq fun _ k1 => .region (.box (.t rfl) rfl fun b1 => .box (.t rfl) rfl fun b2 => st (.as (.cI 0 rfl)) rfl (nl (.thn (k1 _ _ (.seq fun _ k2 => .region (st (.load (.t rfl) (i := 1) rfl ty43 rfl (Ss' := [_, _, _, _]) rfl) rfl (st (.load (.t rfl) (i := 0) rfl ty43 rfl (Ss' := [_, _, _, _]) rfl) rfl (st (.call (et hp hq hAB) (.cons (.t rfl) (.cons (.t rfl) .nil))) rfl (st (.call (rat_Sign (A := 1000000001) (Nat.le_trans (qs_sub hp hq) (by omega)) (by omega)) (.cons (.t rfl) .nil)) rfl (st (.as (.t rfl)) rfl (nl (.thn (k2 _ _ (.cv (Cv.wk (.l [4] rfl)) (.ret (rt1 (.inl rfl) Tryz.results16 rfl (.tmp (Has.t' rfl ?_) .nil))))))))))))))))))
 all_goals (rfl)
theorem zint_Round {m n : Bool} {xs ys : List Nat} (hx : (List.length (zA (val xs))) ≤ 1000000000) (hy : (List.length (zA (val ys))) ≤ 1000000000) (hp : 0 < zv n ys) : Ctr Tryz.prog 62 [Flat [isB m, zD xs], Flat [isB n, zD ys]] (zQ [isZ ((zv m xs + zv m xs + zv n ys) / (zv n ys + zv n ys)), isB true]) := by
 refine Ctr.intro Tryz.func62 rfl (by kernel_rfl) Tryz.ntmps62 rfl fun w0 F0 => .cv (Cv.wk (.l [0, 1] rfl)) (.fact (Has.okZ (Has.t (t := 0) rfl)) fun okz0 => .fact (Has.okZ (Has.t (t := 1) rfl)) fun okz1 => ?_)
 have ha := xZ m xs
 have hb := xZ n ys
 have h1 := xU (zv m xs) (zv m xs)
 have h2 := xU (zv m xs + zv m xs) (zv n ys)
 have h3 := xU (zv n ys) (zv n ys)
 refine .seq fun _ k1 => .region (.box (.t rfl) rfl fun b1 => .box (.t rfl) rfl fun b2 => .alloc [isB false, SlM isU []] zG (fun _ _ => ⟨rfl, nilM _ _, trivial⟩) rfl fun b3 => st (.as (.cB false)) rfl (nl (.thn (k1 _ _ (.seq fun _ k2 => .seq fun _ k3 => .region (st (.load (.t rfl) (i := 1) rfl ty41 rfl (Ss' := [_, _]) rfl) rfl (st (.call (zd (by omega)) (.cons (.t rfl) .nil)) rfl (st (.ltI (.t rfl) (.cI 0 rfl)) rfl (nl (.thn (k3 _ _ (.cond (.t rfl) (fun hc1 => ?_) (fun hc1 => ?_)))))))))))))
 ·have hc1 := BP.t hc1
  exfalso; have := (je _).1 hc1; omega
 ·have hc1 := BP.f hc1
  skip
  refine .skip (.thn (k2 _ _ (.cv (Cv.wk (.l [2, 3, 4, 5] rfl)) (.seq fun _ k4 => .drh [true, true, true] (Ms := [_, _, _]) rfl (.s [] rfl rfl rfl (.o rfl (.load (.t rfl) (i := 2) rfl ty41 rfl (Ss' := [_, _]) rfl)) (.s [] rfl rfl rfl (.o rfl (.load (.t rfl) (i := 2) rfl ty41 rfl (Ss' := [_, _]) rfl)) (.s [17, 18] rfl rfl rfl (.o rfl (.call (qt (by omega) (by omega)) (.cons (.t rfl) (.cons (.t rfl) .nil)))) (.s [] rfl rfl rfl (.o rfl (.load (.t rfl) (i := 1) rfl ty41 rfl (Ss' := [_, _]) rfl)) (.s [19, 20] rfl rfl rfl (.o rfl (.eq (.call (qt (by rw [zC]; omega) (by omega)) (.cons (.t rfl) (.cons (.t rfl) .nil))) ((show isZ _ = isZ (zv m xs + zv m xs + zv n ys) from zN (by simp only [zH]))))) ?_)))))))))
  refine .s [] rfl rfl rfl (.o rfl (.load (.t rfl) (i := 1) rfl ty41 rfl (Ss' := [_, _]) rfl)) (.s [] rfl rfl rfl (.o rfl (.load (.t rfl) (i := 1) rfl ty41 rfl (Ss' := [_, _]) rfl)) (.s [22, 23] rfl rfl rfl (.o rfl (.call (qt (by omega) (by omega)) (.cons (.t rfl) (.cons (.t rfl) .nil)))) (.s [21, 24] rfl rfl rfl (.o rfl (.eq (.call (bz (by rw [zC]; omega) (by rw [zC]; omega) (by rw [zH]; omega)) (.cons (.t rfl) (.cons (.t rfl) .nil))) ((show zQ [isZ _, isZ _, isB true] = zQ [isZ ((zv m xs + zv m xs + zv n ys) / (zv n ys + zv n ys)), isZ ((zv m xs + zv m xs + zv n ys) % (zv n ys + zv n ys)), isB true] from by simp only [zH])))) ?_)))
  refine .s [25] rfl rfl rfl (.o rfl (.mv (.t rfl))) (.s [16] rfl rfl rfl (.o rfl (.ext (.t rfl) rfl)) (.s [16] rfl rfl rfl (.o rfl (.ext (.t rfl) rfl)) (.s [16] rfl rfl rfl (.o rfl (.ext (.t rfl) rfl)) (.als2 (n1 := 15) (ds := [6, 7]) (zs := [[isB false, SlM isU []], [isB false, SlM isU []]]) rfl (.cons rfl rfl zG (fun _ _ => ⟨rfl, nilM _ _, trivial⟩) (.cons rfl rfl zG (fun _ _ => ⟨rfl, nilM _ _, trivial⟩) .nil)) (.cons_cons _ (.cons_cons _ (.cons_cons _ .slnil))) (Cs := [_, _]) rfl (.new [26] 0 (Ss' := [_, _]) (Cs' := [zB [_, _], _]) rfl (by kernel_rfl) (by kernel_rfl) rfl rfl rfl (by kernel_rfl) rfl (.t rfl) ty41 rfl rfl rfl rfl (.new [27] 1 (Ss' := [_, _]) (Cs' := [_, zB [_, _]]) rfl (by kernel_rfl) (by kernel_rfl) rfl rfl rfl (by kernel_rfl) rfl (.t rfl) ty41 rfl rfl rfl rfl (.fin (n := 17) zR rfl (by kernel_rfl) (by kernel_rfl) (by kernel_rfl) (fun bs hbs => ?_))))))))
  obtain ⟨b4, b5, rfl⟩ := len2 hbs
  refine .memEq (M' := [_, _, _, _, _]) rfl (.cv (Cv.wk (.k 4 rfl (.k 5 rfl (.k 28 rfl (.cons (t := 6) (Has.op rfl) .nil))))) (st (.as (.t rfl)) rfl (nl (.thn (k4 _ _ (.seq fun _ k5 => .region (st (.load (.t rfl) (i := 0) rfl ty41 rfl (Ss' := [_, _]) rfl) rfl (st (.mv (.t rfl)) rfl (.store (.t rfl) (.t rfl) (i := 2) rfl ty41 rfl rfl (Ss' := [_, _]) rfl (M' := [_, _, (some _, zB [_, _]), _, _]) rfl (st (.as (.t rfl)) rfl (nl (.thn (k5 _ _ (.cv (Cv.wk (.l [4, 5] rfl)) (.ret (rtN (.inl rfl) Tryz.results62 rfl rfl (.cell rfl (i := 2) rfl ty41 rfl ?_ (.tmp (Has.t' rfl ?_) .nil))))))))))))))))))
  ·rfl
  ·rfl
theorem rat_Round {q : Rat} {A : Nat} (hq : qs q ≤ A) (hA : A ≤ 1000000000) : Ctr Tryz.prog 26 [isQ q] (isZ (rnd q)) := by
 refine Ctr.intro Tryz.func26 rfl (by kernel_rfl) Tryz.ntmps26 rfl fun w0 F0 => .cv (Cv.wk (.l [0] rfl)) ?_
 have g3 := qo hq
 have g4 := vK hq
 refine .seq fun _ k1 => .region (.box (.t rfl) rfl fun b1 => .alloc [isB false, SlM isU []] zG (fun _ _ => ⟨rfl, nilM _ _, trivial⟩) rfl fun b2 => nl (.thn (k1 _ _ (.seq fun _ k2 => .region (st (.load (.t rfl) (i := 1) rfl ty43 rfl (Ss' := [_, _, _, _]) rfl) rfl (st (.call (xb (q := q) (by omega)) (.cons (.t rfl) .nil)) rfl (.store (.t rfl) (.t rfl) (i := 1) rfl ty43 rfl rfl (Ss' := [_, _, _, _]) rfl (M' := [_, (some _, zB [_, _, _, _])]) rfl (nl (.thn (k2 _ _ (.seq fun _ k3 => .region (st (.fieldAddr (.t rfl) vE ty41) rfl (st (.load (.t rfl) (i := 1) rfl ty41 rfl (Ss' := [_, _]) rfl) rfl (st (.fieldAddr (.t rfl) xR ty41) rfl ?_))))))))))))))
 refine st (.load (.t rfl) (i := 1) rfl ty41 rfl (Ss' := [_, _]) rfl) rfl (st (.eq (.call (zint_Round (by rw [zC]; omega) (by rw [zC]; omega) (by rw [zH]; exact bo q)) (.cons (.t rfl) (.cons (.t rfl) .nil))) ((show zQ [isZ _, isB true] = zQ [isZ (rnd q), isB true] from by simp only [zH]; rfl))) rfl ?_)
 refine st (.mv (.t rfl)) rfl (st (.ext (.t rfl) rfl) rfl (st (.ext (.t rfl) rfl) rfl (.alloc [isB false, SlM isU []] zG (fun _ _ => ⟨rfl, nilM _ _, trivial⟩) rfl fun b3 => .store (.t rfl) (.t rfl) (i := 0) rfl ty41 rfl rfl (Ss' := [_, _]) rfl (M' := [(some _, zB [_, _]), _, _]) rfl (st (.as (.t rfl)) rfl (nl (.thn (k3 _ _ (.cv (Cv.wk (.l [2, 3] rfl)) (.seq fun _ k4 => .region (st (.load (.t rfl) (i := 0) rfl ty41 rfl (Ss' := [_, _]) rfl) rfl (.store (.t rfl) (.t rfl) (i := 1) rfl ty41 rfl rfl (Ss' := [_, _]) rfl (M' := [_, (some _, zB [_, _]), _]) rfl (nl (.thn (k4 _ _ (.ret (rt1 (.inl rfl) Tryz.results26 rfl (.cell rfl (i := 1) rfl ty41 rfl ?_ .nil)))))))))))))))))
 all_goals (rfl)
end Go.Proofs.YthmhlblaleahpaaGreat
namespace Go.Dt
abbrev MatF : Type := Nat → Nat → Int
def sm : Nat → (Nat → Int) → Int
 | 0, _ => 0
 | n + 1, f => sm n f + f n
theorem zk {f g : Nat → Int} : ∀ {n : Nat}, (∀ i, i < n → f i = g i) → sm n f = sm n g
  | 0, _ => rfl
  | n + 1, h => by
    show sm n f + f n = sm n g + g n
    rw [zk (n := n) fun i hi => h i (by omega), h n (by omega)]
theorem vQ {f : Nat → Int} {n : Nat} (h : ∀ i, i < n → f i = 0) : sm n f = 0 := by
 have e : sm n f = sm n (fun _ => 0) := zk h
 rw [e]
 induction n with
 | zero => rfl
 | succ n ih => show sm n _ + 0 = 0; rw [ih (fun i hi => h i (by omega)) (zk fun i hi => h i (by omega))]; rfl
theorem wv (x y : Int) (f g : Nat → Int) : ∀ n : Nat, sm n (fun i => x * f i + y * g i) = x * sm n f + y * sm n g
  | 0 => by show (0 : Int) = x * 0 + y * 0; omega
  | n + 1 => by
    show sm n _ + (x * f n + y * g n) = x * (sm n f + f n) + y * (sm n g + g n)
    rw [wv x y f g n, Int.mul_add, Int.mul_add]; omega
theorem bO (x : Int) (f : Nat → Int) (n : Nat) : sm n (fun i => x * f i) = x * sm n f := by
 have h := wv x 0 f f n
 rw [Int.zero_mul, Int.add_zero] at h
 rw [← h]
 exact zk fun i _ => by rw [Int.zero_mul, Int.add_zero]
theorem sm_add (f g : Nat → Int) (n : Nat) : sm n (fun i => f i + g i) = sm n f + sm n g := by
 have h := wv 1 1 f g n
 rw [Int.one_mul, Int.one_mul] at h
 rw [← h]
 exact zk fun i _ => by rw [Int.one_mul, Int.one_mul]
theorem jc {f : Nat → Int} {n c : Nat} (hc : c < n) (h : ∀ i, i < n → i ≠ c → f i = 0) : sm n f = f c := by
  induction n with
  | zero => omega
  | succ n ih =>
    show sm n f + f n = f c
    by_cases e : c = n
    · subst e
      rw [vQ fun i hi => h i (by omega) (by omega)]; omega
    · rw [ih (by omega) fun i hi => h i (by omega), h n (by omega) (by omega)]; omega
theorem sm_two {f : Nat → Int} {n c : Nat} (hc : c + 1 < n) (h2 : f c + f (c + 1) = 0) (h : ∀ i, i < n → i ≠ c → i ≠ c + 1 → f i = 0) : sm n f = 0 := by
  induction n with
  | zero => omega
  | succ n ih =>
    show sm n f + f n = 0
    by_cases e : c + 1 = n
    · subst e
      rw [jc (c := c) (by omega) fun i hi hne => h i (by omega) hne (by omega)]; exact h2
    · rw [ih (by omega) fun i hi => h i (by omega), h n (by omega) (by omega) (by omega)]; rfl
theorem sm_swap (f : Nat → Nat → Int) (m : Nat) : ∀ n : Nat, sm n (fun i => sm m fun j => f i j) = sm m (fun j => sm n fun i => f i j)
  | 0 => (vQ fun _ _ => rfl).symm
  | n + 1 => by
    show sm n _ + sm m _ = sm m fun j => sm n (fun i => f i j) + f n j
    rw [sm_swap f m n, ← sm_add]
def sg (k : Nat) : Int := if k % 2 = 1 then -1 else 1
theorem sg_succ (k : Nat) : sg (k + 1) = - sg k := by
 unfold sg
 rcases Nat.mod_two_eq_zero_or_one k with h | h
 ·rw [if_pos (by omega), if_neg (by omega)]
 ·rw [if_neg (by omega), if_pos h]; rfl
def skip (k j : Nat) : Nat := if j < k then j else j + 1
def qY (k j : Nat) : Nat := if j < k then j else j - 1
theorem skip_ne (k j : Nat) : skip k j ≠ k := by unfold skip; split <;> omega
theorem unskip_skip (k j : Nat) : qY k (skip k j) = j := by unfold qY skip; (repeat' split) <;> omega
theorem vt {k j : Nat} (h : j ≠ k) : skip k (qY k j) = j := by unfold qY skip; (repeat' split) <;> omega
theorem skip_lt {k j n : Nat} (h : j < n) : skip k j < n + 1 := by unfold skip; split <;> omega
theorem wR {k j n : Nat} (h : j < n + 1) (hk : k < n + 1) (hne : j ≠ k) : qY k j < n := by unfold qY; split <;> omega
theorem skip_eq {k j c : Nat} (h : c ≠ k) : skip k j = c ↔ j = qY k c := ⟨fun e => by rw [← e, unskip_skip], fun e => by rw [e, vt h]⟩
def det : Nat → MatF → Int
 | 0, _ => 1
 | n + 1, A => sm (n + 1) fun k => sg k * (A 0 k * det n fun i j => A (i + 1) (skip k j))
theorem xP (n : Nat) (A : MatF) : det (n + 1) A = sm (n + 1) fun k => sg k * (A 0 k * det n fun i j => A (i + 1) (skip k j)) := rfl
theorem qB : ∀ {n : Nat} {A B : MatF}, (∀ i j, i < n → j < n → A i j = B i j) → det n A = det n B
  | 0, _, _, _ => rfl
  | n + 1, A, B, h => zk fun k hk => by
    rw [h 0 k (by omega) hk, qB (n := n) fun i j hi hj => h (i + 1) (skip k j) (by omega) (skip_lt hj)]
def setc (A : MatF) (c : Nat) (v : Nat → Int) : MatF := fun i j => if j = c then v i else A i j
def setr (A : MatF) (r : Nat) (v : Nat → Int) : MatF := fun i j => if i = r then v j else A i j
theorem cL (A : MatF) (c : Nat) (v : Nat → Int) {k : Nat} (h : c ≠ k) : (fun i j => setc A c v (i + 1) (skip k j)) = setc (fun i j => A (i + 1) (skip k j)) (qY k c) (fun i => v (i + 1)) := by
 funext i j
 unfold setc
 by_cases e : j = qY k c
 ·rw [if_pos e, if_pos ((skip_eq h).2 e)]
 ·rw [if_neg e, if_neg fun e2 => e ((skip_eq h).1 e2)]
theorem cK (A : MatF) (k : Nat) (v : Nat → Int) : (fun i j => setc A k v (i + 1) (skip k j)) = fun i j => A (i + 1) (skip k j) := by
 funext i j
 exact if_neg (skip_ne k j)
theorem det_col (x y : Int) (u v : Nat → Int) : ∀ {n : Nat} (A : MatF) (c : Nat), c < n → det n (setc A c fun i => x * u i + y * v i) = x * det n (setc A c u) + y * det n (setc A c v)
  | 0, _, _, h => by omega
  | n + 1, A, c, h => by
    rw [xP, xP, xP, ← wv]
    refine zk fun k hk => ?_
    by_cases e : k = c
    · subst e
      rw [cK, cK, cK]
      have h1 : ∀ w : Nat → Int, setc A k w 0 k = w 0 := fun w => if_pos rfl
      rw [h1, h1, h1]
      generalize det n (fun i j => A (i + 1) (skip k j)) = d
      generalize sg k = s
      rw [Int.add_mul, Int.mul_add, Int.mul_assoc, Int.mul_assoc, Int.mul_left_comm s x, Int.mul_left_comm s y]
    · have hc : c ≠ k := fun e2 => e e2.symm
      rw [cL _ _ _ hc, cL _ _ _ hc, cL _ _ _ hc, det_col x y _ _ _ _ (wR h hk hc)]
      have h1 : ∀ w : Nat → Int, setc A c w 0 k = A 0 k := fun w => if_neg e
      rw [h1, h1, h1]
      generalize sg k = s
      generalize A 0 k = a
      rw [Int.mul_add, Int.mul_add, Int.mul_left_comm a x, Int.mul_left_comm a y, Int.mul_left_comm s x, Int.mul_left_comm s y]
theorem bF : ∀ {n : Nat} (A : MatF) (c : Nat), c + 1 < n → (∀ i, i < n → A i c = A i (c + 1)) → det n A = 0
  | 0, _, _, h, _ => by omega
  | n + 1, A, c, h, hA => by
    rw [xP]
    refine sm_two h ?_ fun k hk h1 h2 => ?_
    · rw [← hA 0 (by omega), sg_succ]
      have e : det n (fun i j => A (i + 1) (skip c j)) = det n (fun i j => A (i + 1) (skip (c + 1) j)) := qB fun i j hi hj => by
        unfold skip
        by_cases e1 : j < c
        · rw [if_pos e1, if_pos (by omega)]
        · rw [if_neg e1]
          by_cases e2 : j < c + 1
          · rw [if_pos e2]
            obtain rfl : j = c := by omega
            exact (hA (i + 1) (by omega)).symm
          · rw [if_neg e2]
      rw [e, Int.neg_mul]; omega
    · have hu : qY k (c + 1) = qY k c + 1 := by unfold qY; split <;> split <;> omega
      rw [bF (n := n) _ (qY k c) (by have := wR h hk (fun e => h2 e.symm); omega) fun i hi => ?_, Int.mul_zero, Int.mul_zero]
      rw [← hu, vt (fun e => h1 e.symm), vt (fun e => h2 e.symm)]
      exact hA (i + 1) (by omega)
def one : MatF := fun i j => if i = j then 1 else 0
theorem bn : ∀ n : Nat, det n one = 1
  | 0 => rfl
  | n + 1 => by
    rw [xP, jc (c := 0) (by omega) fun k hk hne => ?_]
    · have e : det n (fun i j => one (i + 1) (skip 0 j)) = det n one := qB fun i j _ _ => by
        unfold one skip
        repeat' split
        all_goals omega
      rw [e, bn n]; rfl
    · have e : one 0 k = 0 := if_neg (by omega)
      rw [e, Int.zero_mul, Int.mul_zero]
structure RowF (n : Nat) (F : MatF → Int) : Prop where
 congr : ∀ {A B : MatF}, (∀ i j, i < n → j < n → A i j = B i j) → F A = F B
 lin : ∀ (A : MatF) (r : Nat) (x y : Int) (u v : Nat → Int), r < n → F (setr A r fun j => x * u j + y * v j) = x * F (setr A r u) + y * F (setr A r v)
 alt : ∀ (A : MatF) (r : Nat), r + 1 < n → (∀ j, j < n → A r j = A (r + 1) j) → F A = 0
namespace RowF
variable {n : Nat} {F : MatF → Int}
theorem set_self (A : MatF) (r : Nat) : setr A r (A r) = A := by
 funext i j; unfold setr; split
 ·rename_i e; rw [e]
 ·rfl
theorem set_set (A : MatF) (r : Nat) (u v : Nat → Int) : setr (setr A r u) r v = setr A r v := by
 funext i j; unfold setr; split <;> rfl
theorem jL (A : MatF) {r s : Nat} (h : r ≠ s) (u v : Nat → Int) : setr (setr A r u) s v = setr (setr A s v) r u := by
 funext i j; unfold setr
 by_cases e1 : i = s
 ·rw [if_pos e1, if_neg (by omega), if_pos e1]
 ·rw [if_neg e1, if_neg e1]
theorem set_at (A : MatF) (r : Nat) (u : Nat → Int) : setr A r u r = u := by funext j; exact if_pos rfl
theorem set_ne (A : MatF) {r s : Nat} (h : s ≠ r) (u : Nat → Int) : setr A r u s = A s := by funext j; exact if_neg h
theorem zero (h : RowF n F) {A : MatF} {r : Nat} (hr : r < n) (hz : ∀ j, j < n → A r j = 0) : F A = 0 := by
 have e : F A = F (setr A r fun j => 0 * A r j + 0 * A r j) := h.congr fun i j _ hj => by
  unfold setr; split
  ·rename_i e; show _ = 0 * A r j + 0 * A r j; rw [e, hz j hj]; rfl
  ·rfl
 rw [e, h.lin A r 0 0 _ _ hr]; omega
theorem add (h : RowF n F) (A : MatF) {r : Nat} (hr : r < n) (u v : Nat → Int) : F (setr A r fun j => u j + v j) = F (setr A r u) + F (setr A r v) := by
 have e := h.lin A r 1 1 u v hr
 rw [Int.one_mul, Int.one_mul] at e
 rw [← e]
 congr 2; funext j; omega
theorem smul (h : RowF n F) (A : MatF) {r : Nat} (hr : r < n) (x : Int) (u : Nat → Int) : F (setr A r fun j => x * u j) = x * F (setr A r u) := by
 have e := h.lin A r x 0 u u hr
 rw [Int.zero_mul, Int.add_zero] at e
 rw [← e]
 congr 2; funext j; omega
theorem sum (h : RowF n F) (A : MatF) {r : Nat} (hr : r < n) (c : Nat → Int) (u : Nat → Nat → Int) : ∀ m : Nat, F (setr A r fun j => sm m fun k => c k * u k j) = sm m fun k => c k * F (setr A r (u k))
  | 0 => h.zero (A := setr A r _) hr fun j _ => by rw [set_at]; rfl
  | m + 1 => by
    show F (setr A r fun j => sm m (fun k => c k * u k j) + c m * u m j) = _
    rw [h.add A hr, sum h A hr c u m, h.smul A hr]; rfl
theorem two (h : RowF n F) (A : MatF) {r s : Nat} (hr : r < n) (hs : s < n) (hne : r ≠ s) (heq : ∀ u : Nat → Int, F (setr (setr A r u) s u) = 0) (u v : Nat → Int) : F (setr (setr A r u) s v) = - F (setr (setr A r v) s u) := by
 have e := heq fun j => u j + v j
 rw [h.add _ hs, jL _ hne, jL _ hne, h.add _ hr, h.add _ hr, ← jL _ hne, ← jL _ hne, ← jL _ hne, ← jL _ hne, heq u, heq v] at e
 omega
theorem swap1 (h : RowF n F) (A : MatF) {r : Nat} (hr : r + 1 < n) (u v : Nat → Int) : F (setr (setr A r u) (r + 1) v) = - F (setr (setr A r v) (r + 1) u) :=
 h.two A (by omega) hr (by omega) (fun u => h.alt _ r hr fun j _ => by rw [set_at, set_ne _ (by omega), set_at]) u v
theorem same (h : RowF n F) : ∀ (d : Nat) (A : MatF) (r : Nat), r + 1 + d < n → (∀ j, j < n → A r j = A (r + 1 + d) j) → F A = 0
  | 0, A, r, hr, hA => h.alt A r hr hA
  | d + 1, A, r, hr, hA => by
    have e : A = setr (setr A (r + 1 + d) (A (r + 1 + d))) (r + 1 + d + 1) (A (r + 1 + d + 1)) := by rw [set_self, set_self]
    rw [e, h.swap1 A (by omega), same h d _ r (by omega) fun j hj => ?_]
    · rfl
    · rw [set_ne _ (by omega), set_ne _ (by omega), set_ne _ (by omega), set_at, hA j hj]; rfl
theorem eqr (h : RowF n F) {A : MatF} {r s : Nat} (hr : r < n) (hs : s < n) (hne : r ≠ s) (hA : ∀ j, j < n → A r j = A s j) : F A = 0 := by
 rcases Nat.lt_or_gt_of_ne hne with hl | hl
 ·obtain ⟨d, rfl⟩ : ∃ d, s = r + 1 + d := ⟨s - r - 1, by omega⟩
  exact h.same d A r hs hA
 ·obtain ⟨d, rfl⟩ : ∃ d, r = s + 1 + d := ⟨r - s - 1, by omega⟩
  exact h.same d A s hr fun j hj => (hA j hj).symm
theorem swap (h : RowF n F) (A : MatF) {r s : Nat} (hr : r < n) (hs : s < n) (hne : r ≠ s) (u v : Nat → Int) : F (setr (setr A r u) s v) = - F (setr (setr A r v) s u) :=
 h.two A hr hs hne (fun u => h.eqr hr hs hne fun j _ => by rw [set_at, set_ne _ hne, set_at]) u v
theorem addrow (h : RowF n F) (A : MatF) {r s : Nat} (hr : r < n) (hs : s < n) (hne : r ≠ s) (x : Int) : F (setr A r fun j => A r j + x * A s j) = F A := by
 rw [h.add A hr, set_self, h.smul A hr, h.eqr hr hs hne (A := setr A r (A s)) fun j _ => by rw [set_at, set_ne _ (fun e => hne e.symm)]]; omega
def ins (k : Nat) (B : MatF) : MatF := fun i j => if i = 0 then (if j = k then 1 else 0) else if j = k then 0 else B (i - 1) (qY k j)
theorem ins_zero (k : Nat) (B : MatF) (j : Nat) : ins k B 0 j = if j = k then 1 else 0 := rfl
theorem xN (k : Nat) (B : MatF) (i j : Nat) : ins k B (i + 1) j = if j = k then 0 else B i (qY k j) := rfl
theorem ins_set (k : Nat) (B : MatF) (r : Nat) (v : Nat → Int) : ins k (setr B r v) = setr (ins k B) (r + 1) (fun j => if j = k then 0 else v (qY k j)) := by
  funext i j
  cases i with
  | zero => exact (if_neg (by omega)).symm
  | succ i =>
    show _ = if i + 1 = r + 1 then (if j = k then 0 else v (qY k j)) else ins k B (i + 1) j
    rw [xN, xN]
    unfold setr
    by_cases e : i = r
    · rw [if_pos (c := i + 1 = r + 1) (by omega), if_pos e]
    · rw [if_neg (c := i + 1 = r + 1) (by omega), if_neg e]
theorem insF {F : MatF → Int} (h : RowF (n + 1) F) {k : Nat} (hk : k < n + 1) : RowF n fun B => F (ins k B) where
  congr {A B} e := h.congr fun i j hi hj => by
    cases i with
    | zero => rfl
    | succ i =>
      rw [xN, xN]
      by_cases h1 : j = k
      · rw [if_pos h1, if_pos h1]
      · rw [if_neg h1, if_neg h1]; exact e _ _ (by omega) (wR hj hk h1)
  lin A r x y u v hr := by
    simp only [ins_set]
    rw [← h.lin _ (r + 1) x y _ _ (by omega)]
    congr 2; funext j; split
    · omega
    · rfl
  alt A r hr e := h.alt _ (r + 1) (by omega) fun j hj => by
    rw [xN, xN]
    split
    · rfl
    · rename_i h1; exact e _ (wR hj hk h1)
theorem ins_one (h : RowF (n + 1) F) : ∀ k : Nat, k < n + 1 → F (ins k one) = sg k * F one
  | 0, _ => by
    have e : F (ins 0 one) = F one := h.congr fun i j _ _ => by
      unfold ins one qY
      repeat' split
      all_goals omega
    rw [e]; show _ = 1 * _; omega
  | k + 1, hk => by
    have ih := ins_one h k (by omega)
    have e1 : ins k one = setr (setr (ins k one) 0 (ins k one 0)) (k + 1) (ins k one (k + 1)) := by rw [set_self, set_self]
    have e2 : F (ins (k + 1) one) = F (setr (setr (ins k one) 0 (ins k one (k + 1))) (k + 1) (ins k one 0)) := h.congr fun i j hi hj => by
      unfold setr
      by_cases hik : i = k + 1
      · rw [if_pos hik, hik, ins_zero, xN]
        unfold one qY
        repeat' split
        all_goals omega
      · rw [if_neg hik]
        cases i with
        | zero =>
          rw [if_pos rfl, ins_zero, xN]
          unfold one qY
          repeat' split
          all_goals omega
        | succ i =>
          rw [if_neg (by omega), xN, xN]
          unfold one qY
          repeat' split
          all_goals omega
    have e3 : F (ins (k + 1) one) = - F (ins k one) := by rw [e2, h.swap _ (by omega) hk (by omega), ← e1]
    rw [e3, ih, sg_succ, Int.neg_mul]
def clrd (A : MatF) (k m : Nat) : MatF := fun i j => if i = 0 then (if j = k then 1 else 0) else if j = k ∧ i ≤ m then 0 else A i j
theorem clrd_F (h : RowF (n + 1) F) (A : MatF) {k : Nat} (hk : k < n + 1) : ∀ m : Nat, m ≤ n → F (clrd A k m) = F (clrd A k 0)
  | 0, _ => rfl
  | m + 1, hm => by
    rw [← clrd_F h A hk m (by omega), ← h.addrow (clrd A k m) (r := m + 1) (s := 0) (by omega) (by omega) (by omega) (- A (m + 1) k)]
    refine h.congr fun i j hi hj => ?_
    unfold setr
    by_cases e : i = m + 1
    · rw [if_pos e, e]
      show (if j = k ∧ m + 1 ≤ m + 1 then 0 else A (m + 1) j) = (if j = k ∧ m + 1 ≤ m then 0 else A (m + 1) j) + -A (m + 1) k * (if j = k then 1 else 0)
      by_cases h1 : j = k
      · rw [h1, if_pos ⟨rfl, Nat.le_refl _⟩, if_neg (by omega), if_pos rfl]; omega
      · rw [if_neg (by omega), if_neg (by omega), if_neg h1]; omega
    · rw [if_neg e]
      unfold clrd
      split
      · rfl
      · by_cases h1 : j = k ∧ i ≤ m
        · rw [if_pos h1, if_pos ⟨h1.1, by omega⟩]
        · rw [if_neg h1, if_neg (by omega)]
end RowF
open RowF
theorem RowF.uniq : ∀ {n : Nat} {F : MatF → Int}, RowF n F → ∀ A : MatF, F A = F one * det n A
  | 0, F, h, A => by
    rw [show det 0 A = 1 from rfl, Int.mul_one]
    exact h.congr fun i j hi => by omega
  | n + 1, F, h, A => by
    have e1 : F A = F (setr A 0 fun j => sm (n + 1) fun k => A 0 k * (if j = k then 1 else 0)) := h.congr fun i j hi hj => by
      unfold setr; split
      · rename_i e
        show _ = sm (n + 1) fun k => A 0 k * (if j = k then 1 else 0)
        rw [e, jc (c := j) hj fun k _ hne => by rw [if_neg (fun e => hne e.symm), Int.mul_zero], if_pos rfl, Int.mul_one]
      · rfl
    rw [e1, h.sum A (by omega) (fun k => A 0 k) (fun k j => if j = k then 1 else 0), xP, ← bO]
    refine zk fun k hk => ?_
    have e2 : F (setr A 0 fun j => if j = k then 1 else 0) = F (clrd A k 0) := h.congr fun i j _ _ => by
      unfold setr clrd; split
      · rfl
      · rw [if_neg (by omega)]
    have e3 : F (clrd A k n) = F (ins k fun i j => A (i + 1) (skip k j)) := h.congr fun i j hi hj => by
      unfold clrd ins
      split
      · rfl
      · rename_i h0
        by_cases h1 : j = k
        · rw [if_pos ⟨h1, by omega⟩, if_pos h1]
        · rw [if_neg (by omega), if_neg h1]
          show A i j = A (i - 1 + 1) (skip k (qY k j))
          rw [vt h1, show i - 1 + 1 = i by omega]
    have e4 := RowF.uniq (h.insF hk) fun i j => A (i + 1) (skip k j)
    simp only [ins_one h k hk] at e4
    rw [e2, ← clrd_F h A hk n (Nat.le_refl _), e3, e4]
    generalize det n (fun i j => A (i + 1) (skip k j)) = d
    generalize A 0 k = a
    generalize sg k = s
    generalize F one = f
    rw [Int.mul_left_comm f s, Int.mul_left_comm f a, Int.mul_assoc, Int.mul_left_comm a s]
def tr (A : MatF) : MatF := fun i j => A j i
theorem eS (n : Nat) : RowF n fun A => det n (tr A) where
 congr e := qB fun i j hi hj => e j i hj hi
 lin A r x y u v hr := det_col x y u v (tr A) r hr
 alt A r hr e := bF (tr A) r hr e
theorem dG (n : Nat) (A : MatF) : det n (tr A) = det n A := by
 have h := (eS n).uniq A
 have e : det n (tr one) = 1 := by
  rw [← bn n]
  exact qB fun i j _ _ => by
   unfold tr one
   repeat' split
   all_goals omega
 rw [h, e, Int.one_mul]
theorem qx (n : Nat) : RowF n (det n) := by
 have e : det n = fun A => det n (tr A) := funext fun A => (dG n A).symm
 rw [e]; exact eS n
def mulM (n : Nat) (A B : MatF) : MatF := fun i j => sm n fun k => A i k * B k j
theorem mulM_set (n : Nat) (A B : MatF) (r : Nat) (v : Nat → Int) : mulM n (setr A r v) B = setr (mulM n A B) r fun j => sm n fun k => v k * B k j := by
 funext i j
 unfold mulM setr
 split <;> rfl
theorem mulM_rowF (n m : Nat) (B : MatF) : RowF n fun A => det n (mulM n A B) where
 congr e := qB fun i j hi hj => zk fun k hk => by rw [e i k hi hk]
 lin A r x y u v hr := by
  simp only [mulM_set]
  rw [← (qx n).lin _ r x y _ _ hr]
  congr 2; funext j
  rw [← wv]
  exact zk fun k _ => by rw [Int.add_mul, Int.mul_assoc, Int.mul_assoc]
 alt A r hr e := (qx n).alt _ r hr fun j hj => zk fun k hk => by rw [e k hk]
theorem det_mul (n : Nat) (A B : MatF) : det n (mulM n A B) = det n A * det n B := by
 have h := (mulM_rowF n n B).uniq A
 have e : det n (mulM n one B) = det n B := qB fun i j hi _ => by
  unfold mulM one
  rw [jc (c := i) hi fun k _ hne => by rw [if_neg (fun e => hne e.symm), Int.zero_mul], if_pos rfl, Int.one_mul]
 rw [h, e, Int.mul_comm]
end Go.Dt
namespace Go.Dt
open RowF
theorem jd (f : Nat → Int) : ∀ n : Nat, sm (n + 1) f = f 0 + sm n (fun i => f (i + 1))
  | 0 => by show (0 : Int) + f 0 = f 0 + 0; omega
  | n + 1 => by
    show sm (n + 1) f + f (n + 1) = f 0 + (sm n (fun i => f (i + 1)) + f (n + 1))
    rw [jd f n]; omega
def sub (A : MatF) (rs cs : List Nat) : MatF := fun i j => A (rs.getD i 0) (cs.getD j 0)
def mn (A : MatF) (rs cs : List Nat) : Int := det rs.length (sub A rs cs)
theorem db {n : Nat} {A : MatF} {c d : Nat} (hc : c < n) (hd : d < n) (hne : c ≠ d) (h : ∀ i, i < n → A i c = A i d) : det n A = 0 := by
 rw [← dG]; exact (qx n).eqr (A := tr A) hc hd hne h
theorem eR {n : Nat} {N : MatF} (h : ∀ j, j < n → N 0 (j + 1) = 0) : det (n + 1) N = N 0 0 * det n (fun i j => N (i + 1) (j + 1)) := by
 rw [xP, jd, vQ fun j hj => by rw [h j hj, Int.zero_mul, Int.mul_zero]]
 have e : (fun i j => N (i + 1) (skip 0 j)) = fun i j => N (i + 1) (j + 1) := by
  funext i j; unfold skip; rw [if_neg (by omega)]
 rw [e]; show 1 * _ + 0 = _; omega
theorem vL {l : List Nat} {j : Nat} (h : j < l.length) : l.getD j 0 ∈ l := by
 rw [List.getD, List.getElem?_eq_getElem h]; exact List.getElem_mem h
theorem ci {l : List Nat} {k : Nat} (h : k ∈ l) : ∃ j, j < l.length ∧ l.getD j 0 = k := by
 obtain ⟨j, hj, e⟩ := List.mem_iff_getElem.1 h
 exact ⟨j, hj, by rw [List.getD, List.getElem?_eq_getElem hj]; exact e⟩
def ec (A : MatF) (rs cs : List Nat) (i r : Nat) : Int := sg (r + 1) * det rs.length (fun p q => A ((i :: rs).getD (skip (r + 1) q) 0) (cs.getD p 0))
theorem mn_exp (A : MatF) (rs cs : List Nat) (i k : Nat) : mn A (i :: rs) (k :: cs) = mn A rs cs * A i k + sm rs.length fun r => ec A rs cs i r * A (rs.getD r 0) k := by
 show det (rs.length + 1) _ = _
 rw [← dG, xP, jd]
 have e0 : det rs.length (fun p q => tr (sub A (i :: rs) (k :: cs)) (p + 1) (skip 0 q)) = mn A rs cs := by
  unfold mn
  rw [← dG (A := sub A rs cs)]
  refine congrArg _ ?_
  funext p q
  unfold skip
  rw [if_neg (by omega)]; rfl
 rw [e0]
 have e1 : sg 0 * (tr (sub A (i :: rs) (k :: cs)) 0 0 * mn A rs cs) = mn A rs cs * A i k := by
  show 1 * (A i k * _) = _
  rw [Int.one_mul, Int.mul_comm]
 rw [e1]
 refine congrArg _ (zk fun r _ => ?_)
 show sg (r + 1) * (A (rs.getD r 0) k * det rs.length (fun p q => A ((i :: rs).getD (skip (r + 1) q) 0) (cs.getD p 0))) = _
 unfold ec
 rw [Int.mul_comm (A (rs.getD r 0) k), Int.mul_assoc]
theorem mn_col (A : MatF) {rs cs : List Nat} (hl : cs.length = rs.length) (i : Nat) {k : Nat} (hk : k ∈ cs) : mn A (i :: rs) (k :: cs) = 0 := by
 obtain ⟨j, hj, e⟩ := ci hk
 refine db (c := 0) (d := j + 1) (by show 0 < rs.length + 1; omega) (by show j + 1 < rs.length + 1; omega) (by omega) fun p _ => ?_
 show A _ k = A _ (cs.getD j 0)
 rw [e]
theorem mn_row (A : MatF) {rs cs : List Nat} {i : Nat} (hi : i ∈ rs) (k : Nat) : mn A (i :: rs) (k :: cs) = 0 := by
 obtain ⟨j, hj, e⟩ := ci hi
 refine (qx _).eqr (r := 0) (s := j + 1) (by show 0 < rs.length + 1; omega) (by show j + 1 < rs.length + 1; omega) (by omega) fun q _ => ?_
 show A i _ = A (rs.getD j 0) _
 rw [e]
theorem RowF.comb {n : Nat} {F : MatF → Int} (h : RowF n F) (A : MatF) {r : Nat} (hr : r < n) (D : Int) (e : Nat → Int) (f : Nat → Nat) (m : Nat) (hf : ∀ p, p < m → f p < n ∧ f p ≠ r) :
  F (setr A r fun j => D * A r j + sm m fun p => e p * A (f p) j) = D * F A := by
 rw [h.add A hr, h.smul A hr, set_self, h.sum A hr e (fun p => A (f p)), vQ fun p hp => ?_]
 ·omega
 ·obtain ⟨h1, h2⟩ := hf p hp
  rw [h.eqr hr h1 (fun e => h2 e.symm) (A := setr A r (A (f p))) fun j _ => by rw [set_at, set_ne _ h2], Int.mul_zero]
theorem mn_two (A : MatF) {rs cs : List Nat} (hl : cs.length = rs.length) (i1 i2 k1 k2 : Nat) :
  mn A rs cs * (mn A rs cs * mn A (i1 :: i2 :: rs) (k1 :: k2 :: cs)) = mn A rs cs * (mn A (i1 :: rs) (k1 :: cs) * mn A (i2 :: rs) (k2 :: cs) - mn A (i1 :: rs) (k2 :: cs) * mn A (i2 :: rs) (k1 :: cs)) := by
 obtain ⟨t, ht⟩ : ∃ t, t = rs.length := ⟨_, rfl⟩
 obtain ⟨M, hM⟩ : ∃ M, M = sub A (i1 :: i2 :: rs) (k1 :: k2 :: cs) := ⟨_, rfl⟩
 obtain ⟨w, hw⟩ : ∃ w : Nat → Nat → Int, w = fun i j => mn A (i :: rs) ((k1 :: k2 :: cs).getD j 0 :: cs) := ⟨_, rfl⟩
 have hR := qx (t + 2)
 have h1 : w i1 = fun j => mn A rs cs * M 0 j + sm t fun p => ec A rs cs i1 p * M (p + 2) j := by
  rw [hw, hM, ht]; funext j; exact mn_exp A rs cs i1 _
 have h2 : w i2 = fun j => mn A rs cs * M 1 j + sm t fun p => ec A rs cs i2 p * M (p + 2) j := by
  rw [hw, hM, ht]; funext j; exact mn_exp A rs cs i2 _
 have g1 : det (t + 2) (setr M 0 (w i1)) = mn A rs cs * det (t + 2) M := by
  rw [h1]; exact hR.comb M (r := 0) (by omega) (mn A rs cs) (ec A rs cs i1) (fun p => p + 2) t (fun p hp => ⟨by omega, by omega⟩)
 have g2 : det (t + 2) (setr (setr M 0 (w i1)) 1 (w i2)) = mn A rs cs * det (t + 2) (setr M 0 (w i1)) := by
  have e : w i2 = fun j => mn A rs cs * setr M 0 (w i1) 1 j + sm t fun p => ec A rs cs i2 p * setr M 0 (w i1) (p + 2) j := by
   rw [h2]; funext j
   rw [set_ne M (by omega)]
   refine congrArg _ (zk fun p _ => ?_)
   rw [set_ne M (by omega)]
  rw [congrArg (setr (setr M 0 (w i1)) 1) e]
  exact hR.comb (setr M 0 (w i1)) (r := 1) (by omega) (mn A rs cs) (ec A rs cs i2) (fun p => p + 2) t (fun p hp => ⟨by omega, by omega⟩)
 have hz : ∀ i j, j < t → w i (j + 2) = 0 := fun i j hj => by
  rw [hw]; exact mn_col A hl i (vL (by omega))
 have e3 : mn A (i1 :: i2 :: rs) (k1 :: k2 :: cs) = det (t + 2) M := by rw [hM, ht]; rfl
 have e4 : ∀ i, w i 0 = mn A (i :: rs) (k1 :: cs) := fun i => by rw [hw]; rfl
 have e5 : ∀ i, w i 1 = mn A (i :: rs) (k2 :: cs) := fun i => by rw [hw]; rfl
 rw [e3, ← g1, ← g2, ← e4, ← e5, ← e5, ← e4, xP, jd, jd, vQ fun j hj => ?_]
 ·have d0 : det (t + 1) (fun i j => setr (setr M 0 (w i1)) 1 (w i2) (i + 1) (skip 0 j)) = w i2 1 * mn A rs cs := by
   rw [eR fun j hj => ?_]
   ·have : (fun i j => setr (setr M 0 (w i1)) 1 (w i2) (i + 1 + 1) (skip 0 (j + 1))) = sub A rs cs := by
     rw [hM]; rfl
    rw [this, ht]; rfl
   ·exact hz i2 j hj
  have d1 : det (t + 1) (fun i j => setr (setr M 0 (w i1)) 1 (w i2) (i + 1) (skip 1 j)) = w i2 0 * mn A rs cs := by
   have s1 : ∀ j, skip 1 (j + 1) = j + 2 := fun j => by unfold skip; rw [if_neg (by omega)]
   rw [eR fun j hj => ?_]
   ·have : (fun i j => setr (setr M 0 (w i1)) 1 (w i2) (i + 1 + 1) (skip 1 (j + 1))) = sub A rs cs := by
     funext i j
     rw [s1, hM]; rfl
    rw [this, ht]; rfl
   ·show w i2 (skip 1 (j + 1)) = 0
    rw [s1]; exact hz i2 j hj
  show sg 0 * (setr (setr M 0 (w i1)) 1 (w i2) 0 0 * _) + (sg 1 * (setr (setr M 0 (w i1)) 1 (w i2) 0 1 * _) + 0) = _
  rw [d0, show (0 + 1 : Nat) = 1 from rfl, d1]
  show 1 * (w i1 0 * (w i2 1 * mn A rs cs)) + (-1 * (w i1 1 * (w i2 0 * mn A rs cs)) + 0) = mn A rs cs * (w i1 0 * w i2 1 - w i1 1 * w i2 0)
  rw [Int.mul_sub, ← Int.mul_assoc (w i1 0), ← Int.mul_assoc (w i1 1), Int.mul_comm (mn A rs cs), Int.mul_comm (mn A rs cs)]
  omega
 ·show sg (j + 1 + 1) * (w i1 (j + 2) * _) = 0
  rw [hz i1 j hj, Int.zero_mul, Int.mul_zero]
theorem mn_step (A : MatF) {rs cs : List Nat} (hl : cs.length = rs.length) (h0 : mn A rs cs ≠ 0) (i1 i2 k1 k2 : Nat) :
  mn A (i1 :: rs) (k1 :: cs) * mn A (i2 :: rs) (k2 :: cs) - mn A (i1 :: rs) (k2 :: cs) * mn A (i2 :: rs) (k1 :: cs) = mn A rs cs * mn A (i1 :: i2 :: rs) (k1 :: k2 :: cs) :=
 (Int.eq_of_mul_eq_mul_left h0 (mn_two A hl i1 i2 k1 k2)).symm
theorem det_rev (n : Nat) (A : MatF) : det n (fun i j => A (n - 1 - i) (n - 1 - j)) = det n A := by
 have hF : RowF n fun A : MatF => det n (fun i j => A (n - 1 - i) (n - 1 - j)) := {
  congr := fun e => qB fun i j hi hj => e _ _ (by omega) (by omega)
  lin := fun A r x y u v hr => by
   have e : ∀ w : Nat → Int, (fun i j => setr A r w (n - 1 - i) (n - 1 - j)) = fun i j => if n - 1 - i = r then w (n - 1 - j) else A (n - 1 - i) (n - 1 - j) := fun w => rfl
   have e2 : ∀ w : Nat → Int, det n (fun i j => setr A r w (n - 1 - i) (n - 1 - j)) = det n (setr (fun i j => A (n - 1 - i) (n - 1 - j)) (n - 1 - r) fun j => w (n - 1 - j)) := fun w => qB fun i j hi hj => by
    unfold setr
    by_cases h : n - 1 - i = r
    ·rw [if_pos h, if_pos (by omega)]
    ·rw [if_neg h, if_neg (by omega)]
   rw [e2, e2, e2]
   exact (qx n).lin _ (n - 1 - r) x y _ _ (by omega)
  alt := fun A r hr e => (qx n).eqr (r := n - 1 - r) (s := n - 1 - (r + 1)) (by omega) (by omega) (by omega) fun j hj => by
   show A (n - 1 - (n - 1 - r)) _ = A (n - 1 - (n - 1 - (r + 1))) _
   rw [show n - 1 - (n - 1 - r) = r by omega, show n - 1 - (n - 1 - (r + 1)) = r + 1 by omega]
   exact e _ (by omega) }
 have h := hF.uniq A
 have e : det n (fun i j => one (n - 1 - i) (n - 1 - j)) = 1 := by
  rw [← bn n]
  exact qB fun i j _ _ => by
   unfold one
   repeat' split
   all_goals omega
 rw [h, e, Int.one_mul]
theorem getD_rev (l : List Nat) {i : Nat} (h : i < l.length) : l.reverse.getD i 0 = l.getD (l.length - 1 - i) 0 := by
 rw [List.getD, List.getD, List.getElem?_reverse h]
theorem mn_rev (A : MatF) {rs cs : List Nat} (hl : cs.length = rs.length) : mn A rs.reverse cs.reverse = mn A rs cs := by
 unfold mn
 rw [List.length_reverse, ← det_rev _ (sub A rs cs)]
 refine qB fun i j hi hj => ?_
 unfold sub
 rw [getD_rev _ hi, getD_rev _ (by omega), hl]
theorem det_smul (D : Int) {n : Nat} (A : MatF) : det n (fun i j => D * A i j) = D ^ n * det n A := by
  have key : ∀ m : Nat, m ≤ n → det n (fun i j => if i < m then D * A i j else A i j) = D ^ m * det n A := by
    intro m
    induction m with
    | zero =>
      intro _
      rw [Int.pow_zero, Int.one_mul]
      exact qB fun i j _ _ => if_neg (by omega)
    | succ m ih =>
      intro hm
      have e : det n (fun i j => if i < m + 1 then D * A i j else A i j) = det n (setr (fun i j => if i < m then D * A i j else A i j) m fun j => D * A m j) := qB fun i j _ _ => by
        unfold setr
        by_cases h : i = m
        · rw [if_pos h, if_pos (by omega), h]
        · rw [if_neg h]
          show _ = if i < m then D * A i j else A i j
          by_cases h2 : i < m
          · rw [if_pos h2, if_pos (by omega)]
          · rw [if_neg h2, if_neg (by omega)]
      have e2 : setr (fun i j => if i < m then D * A i j else A i j) m (fun j => A m j) = fun i j => if i < m then D * A i j else A i j := by
        funext i j
        unfold setr
        by_cases h : i = m
        · rw [if_pos h, if_neg (by omega), h]
        · rw [if_neg h]
      rw [e, (qx n).smul _ (by omega), e2, ih (by omega), Int.pow_succ, Int.mul_comm (D ^ m) D, Int.mul_assoc]
  rw [← key n (Nat.le_refl _)]
  exact qB fun i j hi _ => (if_pos hi).symm
theorem det_few {t : Nat} {A : MatF} {D : Int} (hD : D ≠ 0) {e : Nat → Nat → Int} {V : MatF} (h : ∀ i j, i < t + 1 → j < t + 1 → D * A i j = sm t fun r => e i r * V r j) : det (t + 1) A = 0 := by
 have h1 : det (t + 1) (fun i j => D * A i j) = 0 := by
  have e1 : det (t + 1) (fun i j => D * A i j) = det (t + 1) (mulM (t + 1) (fun i r => if r < t then e i r else 0) V) := qB fun i j hi hj => by
   rw [h i j hi hj]
   show _ = sm t (fun k => (if k < t then e i k else 0) * V k j) + (if t < t then e i t else 0) * V t j
   rw [if_neg (c := t < t) (by omega), Int.zero_mul, Int.add_zero]
   exact zk fun r hr => by rw [if_pos hr]
  rw [e1, det_mul, ← dG, (qx (t + 1)).zero (r := t) (by omega) fun j _ => ?_, Int.zero_mul]
  show (if t < t then _ else (0 : Int)) = 0
  rw [if_neg (by omega)]
 rw [det_smul] at h1
 rcases Int.mul_eq_zero.1 h1 with h2 | h2
 ·exact absurd h2 (Int.pow_ne_zero hD)
 ·exact h2
theorem mn_perm (A : MatF) {cs l1 l2 : List Nat} (h : l1.Perm l2) : ∀ pre : List Nat, mn A (pre ++ l1) cs ≠ 0 → mn A (pre ++ l2) cs ≠ 0 := by
  induction h with
  | nil => exact fun pre h => h
  | cons x h ih =>
    intro pre k
    have := ih (pre ++ [x]) (by rw [List.append_assoc]; exact k)
    rw [List.append_assoc] at this; exact this
  | swap x y l =>
    intro pre k h0
    refine k ?_
    have hlen : (pre ++ y :: x :: l).length = (pre ++ x :: y :: l).length := by simp
    have hp : pre.length + 1 < (pre ++ x :: y :: l).length := by simp only [List.length_append, List.length_cons]; omega
    have hR := qx (pre ++ x :: y :: l).length
    have ea : ∀ (a b : Nat), (pre ++ a :: b :: l).getD pre.length 0 = a := fun a b => by
      rw [List.getD, List.getElem?_append_right (Nat.le_refl _), Nat.sub_self]; rfl
    have eb : ∀ (a b : Nat), (pre ++ a :: b :: l).getD (pre.length + 1) 0 = b := fun a b => by
      rw [List.getD, List.getElem?_append_right (by omega), show pre.length + 1 - pre.length = 1 by omega]; rfl
    have ec : ∀ (i : Nat), i ≠ pre.length → i ≠ pre.length + 1 → (pre ++ y :: x :: l).getD i 0 = (pre ++ x :: y :: l).getD i 0 := fun i h1 h2 => by
      rw [List.getD, List.getD]
      rcases Nat.lt_or_ge i pre.length with h3 | h3
      · rw [List.getElem?_append_left h3, List.getElem?_append_left h3]
      · obtain ⟨d, rfl⟩ : ∃ d, i = pre.length + (d + 2) := ⟨i - pre.length - 2, by omega⟩
        rw [List.getElem?_append_right (by omega), List.getElem?_append_right (by omega), Nat.add_sub_cancel_left]; rfl
    have e1 : sub A (pre ++ x :: y :: l) cs = setr (setr (sub A (pre ++ x :: y :: l) cs) pre.length (sub A (pre ++ x :: y :: l) cs pre.length)) (pre.length + 1) (sub A (pre ++ x :: y :: l) cs (pre.length + 1)) := by rw [set_self, set_self]
    have e2 : sub A (pre ++ y :: x :: l) cs = setr (setr (sub A (pre ++ x :: y :: l) cs) pre.length (sub A (pre ++ x :: y :: l) cs (pre.length + 1))) (pre.length + 1) (sub A (pre ++ x :: y :: l) cs pre.length) := by
      funext i j
      unfold setr
      by_cases h2 : i = pre.length + 1
      · rw [if_pos h2, h2]; unfold sub; rw [eb, ea]
      · rw [if_neg h2]
        by_cases h1 : i = pre.length
        · rw [if_pos h1, h1]; unfold sub; rw [ea, eb]
        · rw [if_neg h1]; unfold sub; rw [ec i h1 h2]
    unfold mn at h0 ⊢
    rw [hlen, e2, hR.swap _ (by omega) hp (by omega), ← e1, h0]; rfl
  | trans _ _ ih1 ih2 => exact fun pre k => ih2 pre (ih1 pre k)
end Go.Dt
namespace Go.Hp
open Go.Dt
/-! ### a row's first number that isn't 0 -/
def fc : Nat → (Nat → Int) → Nat
 | 0, _ => 0
 | n + 1, f => if fc n f < n then fc n f else if f n = 0 then n + 1 else n
theorem bi (f : Nat → Int) : ∀ C : Nat, fc C f ≤ C ∧ (∀ k, k < fc C f → f k = 0) ∧ (fc C f < C → f (fc C f) ≠ 0)
  | 0 => ⟨Nat.le_refl _, fun k hk => absurd hk (Nat.not_lt_zero _), fun h => absurd h (Nat.not_lt_zero _)⟩
  | n + 1 => by
    obtain ⟨h1, h2, h3⟩ := bi f n
    have e : fc (n + 1) f = if fc n f < n then fc n f else if f n = 0 then n + 1 else n := rfl
    by_cases h : fc n f < n
    · rw [e, if_pos h]; exact ⟨by omega, h2, fun _ => h3 h⟩
    · have hn : fc n f = n := by omega
      rw [hn] at h2
      by_cases h0 : f n = 0
      · rw [e, if_neg h, if_pos h0]
        refine ⟨Nat.le_refl _, fun k hk => ?_, fun h => by omega⟩
        rcases Nat.lt_or_ge k n with h4 | h4
        · exact h2 k h4
        · rw [show k = n by omega]; exact h0
      · rw [e, if_neg h, if_neg h0]
        exact ⟨by omega, h2, fun _ => h0⟩
theorem fc_le (f : Nat → Int) (C : Nat) : fc C f ≤ C := (bi f C).1
theorem vy {f : Nat → Int} {C k : Nat} (h : k < fc C f) : f k = 0 := (bi f C).2.1 k h
theorem fc_ne {f : Nat → Int} {C : Nat} (h : fc C f < C) : f (fc C f) ≠ 0 := (bi f C).2.2 h
theorem fc_at {f : Nat → Int} {C c : Nat} (hc : c < C) (h0 : ∀ k, k < c → f k = 0) (h : f c ≠ 0) : fc C f = c := by
 rcases Nat.lt_trichotomy (fc C f) c with h1 | h1 | h1
 ·exact absurd (h0 _ h1) (fc_ne (by omega))
 ·exact h1
 ·exact absurd (vy h1) h
theorem fc_all {f : Nat → Int} {C : Nat} (h : ∀ k, k < C → f k = 0) : fc C f = C := by
 rcases Nat.lt_or_ge (fc C f) C with h1 | h1
 ·exact absurd (h _ h1) (fc_ne h1)
 ·have := fc_le f C; omega
theorem fc_congr {f g : Nat → Int} {C : Nat} (h : ∀ k, k < C → f k = g k) : fc C f = fc C g := by
 rcases Nat.lt_or_ge (fc C g) C with h1 | h1
 ·refine fc_at h1 (fun k hk => by rw [h k (by omega)]; exact vy hk) ?_
  rw [h _ h1]; exact fc_ne h1
 ·have hg := fc_le g C
  have e : fc C g = C := by omega
  rw [e]
  exact fc_all fun k hk => by rw [h k hk]; exact vy (C := C) (by omega)
/-! ### what rows span -/
def SpZ (R W : Nat) (A : MatF) (v : Nat → Int) : Prop := ∃ c : Nat → Int, ∀ k, k < W → v k = sm R fun i => c i * A i k
theorem sm_pick1 {R i : Nat} (f : Nat → Int) (hi : i < R) : (sm R fun j => (if j = i then 1 else 0) * f j) = f i := by
 rw [jc (c := i) hi (fun j _ hj => by simp [hj])]; simp
theorem SpZ.row {R W : Nat} (A : MatF) {i : Nat} (hi : i < R) : SpZ R W A (A i) := ⟨fun j => if j = i then 1 else 0, fun k _ => (sm_pick1 (fun j => A j k) hi).symm⟩
theorem SpZ.congr {R W : Nat} {A : MatF} {u v : Nat → Int} (h : SpZ R W A u) (e : ∀ k, k < W → v k = u k) : SpZ R W A v := by
 obtain ⟨c, hc⟩ := h
 exact ⟨c, fun k hk => (e k hk).trans (hc k hk)⟩
theorem SpZ.comb {R W : Nat} {A : MatF} {u v : Nat → Int} (x y : Int) (h : SpZ R W A u) (k : SpZ R W A v) : SpZ R W A fun j => x * u j + y * v j := by
 obtain ⟨c, hc⟩ := h
 obtain ⟨d, hd⟩ := k
 refine ⟨fun i => x * c i + y * d i, fun j hj => ?_⟩
 show x * u j + y * v j = _
 rw [hc j hj, hd j hj, ← wv]
 exact zk fun i _ => by grind
theorem SpZ.zero {R W : Nat} (A : MatF) : SpZ R W A fun _ => 0 := ⟨fun _ => 0, fun k _ => by rw [vQ fun i _ => Int.zero_mul _]⟩
theorem SpZ.sum {R W : Nat} {A : MatF} (c : Nat → Int) (u : Nat → Nat → Int) : ∀ m : Nat, (∀ i, i < m → SpZ R W A (u i)) → SpZ R W A fun k => sm m fun i => c i * u i k
 | 0, _ => SpZ.zero A
 | m + 1, h => ((SpZ.sum c u m fun i hi => h i (by omega)).comb 1 (c m) (h m (by omega))).congr fun k _ => by show sm m _ + _ = _; rw [Int.one_mul]
theorem SpZ.trans {R R' W : Nat} {A B : MatF} {v : Nat → Int} (h : SpZ R W A v) (hA : ∀ i, i < R → SpZ R' W B (A i)) : SpZ R' W B v := by
 obtain ⟨c, hc⟩ := h
 exact (SpZ.sum c A R hA).congr hc
theorem SpZ.mono {R W W' : Nat} {A : MatF} {v : Nat → Int} (h : SpZ R W A v) (hW : W' ≤ W) : SpZ R W' A v := by
 obtain ⟨c, hc⟩ := h
 exact ⟨c, fun k hk => hc k (by omega)⟩
def Eqv (R R' W : Nat) (A B : MatF) : Prop := (∀ i, i < R → SpZ R' W B (A i)) ∧ ∀ i, i < R' → SpZ R W A (B i)
theorem Eqv.refl (R W : Nat) (A : MatF) : Eqv R R W A A := ⟨fun _ h => SpZ.row A h, fun _ h => SpZ.row A h⟩
theorem Eqv.symm {R R' W : Nat} {A B : MatF} (h : Eqv R R' W A B) : Eqv R' R W B A := ⟨h.2, h.1⟩
theorem Eqv.trans {R R' R'' W : Nat} {A B D : MatF} (h : Eqv R R' W A B) (k : Eqv R' R'' W B D) : Eqv R R'' W A D := ⟨fun i hi => (h.1 i hi).trans k.1, fun i hi => (k.2 i hi).trans h.2⟩
theorem Eqv.mono {R R' W W' : Nat} {A B : MatF} (h : Eqv R R' W A B) (hW : W' ≤ W) : Eqv R R' W' A B := ⟨fun i hi => (h.1 i hi).mono hW, fun i hi => (h.2 i hi).mono hW⟩
theorem Eqv.of_eq {R W : Nat} {A B : MatF} (h : ∀ i k, i < R → k < W → A i k = B i k) : Eqv R R W A B :=
 ⟨fun i hi => (SpZ.row B hi).congr fun k hk => h i k hi hk, fun i hi => (SpZ.row A hi).congr fun k hk => (h i k hi hk).symm⟩
/-! ### Hermite's form -/
def HermF (R C : Nat) (A : MatF) : Prop := ∀ i, i < R → fc C (A i) < C → (0 < i → fc C (A (i - 1)) < fc C (A i)) ∧ 0 < A i (fc C (A i)) ∧ ∀ r, r < i → 0 ≤ A r (fc C (A i)) ∧ A r (fc C (A i)) < A i (fc C (A i))
theorem HermF.congr {R C : Nat} {A B : MatF} (h : HermF R C A) (e : ∀ i k, i < R → k < C → B i k = A i k) : HermF R C B := fun i hi hc => by
 have e1 : ∀ j, j < R → fc C (B j) = fc C (A j) := fun j hj => fc_congr fun k hk => e j k hj hk
 rw [e1 i hi] at hc
 obtain ⟨h1, h2, h3⟩ := h i hi hc
 rw [e1 i hi]
 refine ⟨fun h0 => by rw [e1 (i - 1) (by omega)]; exact h1 h0, by rw [e i _ hi hc]; exact h2, fun r hr => ?_⟩
 rw [e r _ (by omega) hc, e i _ hi hc]; exact h3 r hr
theorem HermF.up {R C : Nat} {A : MatF} (h : HermF R C A) {i : Nat} : ∀ {j : Nat}, i < j → j < R → fc C (A j) < C → fc C (A i) < fc C (A j)
  | j + 1, hij, hj, hc => by
    have h1 := (h (j + 1) hj hc).1 (by omega)
    rw [Nat.add_sub_cancel] at h1
    rcases Nat.lt_or_ge i j with h2 | h2
    · have := HermF.up h h2 (by omega) (by omega : fc C (A j) < C)
      omega
    · rw [show i = j by omega]; exact h1
theorem HermF.later {R C : Nat} {A : MatF} (h : HermF R C A) {i j k : Nat} (hij : i < j) (hj : j < R) (hi : fc C (A i) < C) (hk : k ≤ fc C (A i)) : A j k = 0 := by
 have := fc_le (A j) C
 rcases Nat.lt_or_ge (fc C (A j)) C with h1 | h1
 ·have := h.up hij hj h1
  exact vy (C := C) (by omega)
 ·exact vy (C := C) (by omega)
theorem dA {p : Nat → Prop} : ∀ n, (∃ i, i < n ∧ p i) → ∃ i, i < n ∧ p i ∧ ∀ j, j < i → ¬ p j
  | 0, ⟨i, hi, _⟩ => absurd hi (Nat.not_lt_zero _)
  | n + 1, h => by
    by_cases h1 : ∃ i, i < n ∧ p i
    · obtain ⟨i, h2, h3, h4⟩ := dA n h1
      exact ⟨i, by omega, h3, h4⟩
    · obtain ⟨i, hi, hp⟩ := h
      have : i = n := by
        rcases Nat.lt_or_ge i n with h2 | h2
        · exact absurd ⟨i, h2, hp⟩ h1
        · omega
      subst this
      exact ⟨i, by omega, hp, fun j hj hpj => h1 ⟨j, hj, hpj⟩⟩
theorem HermF.key {R C : Nat} {A : MatF} (h : HermF R C A) {v : Nat → Int} (hv : SpZ R C A v) {c : Nat} (hc : c < C) (h0 : ∀ k, k < c → v k = 0) (hn : v c ≠ 0) : ∃ i, i < R ∧ fc C (A i) = c ∧ A i c ∣ v c := by
 obtain ⟨a, ha⟩ := hv
 have hex : ∃ i, i < R ∧ (a i ≠ 0 ∧ fc C (A i) < C) := by
  refine Classical.byContradiction fun hno => hn ?_
  rw [ha c hc]
  refine vQ fun i hi => ?_
  by_cases h1 : a i = 0
  ·rw [h1, Int.zero_mul]
  ·have h2 : ¬ fc C (A i) < C := fun h2 => hno ⟨i, hi, h1, h2⟩
   rw [vy (f := A i) (C := C) (k := c) (by omega), Int.mul_zero]
 obtain ⟨i, hi, ⟨ha0, hfi⟩, hmin⟩ := dA R hex
 have hval : ∀ k, k ≤ fc C (A i) → v k = a i * A i k := fun k hk => by
  rw [ha k (by omega)]
  refine jc hi fun j hj hne => ?_
  rcases Nat.lt_or_ge j i with h1 | h1
  ·have h2 := hmin j h1
   by_cases h3 : a j = 0
   ·rw [h3, Int.zero_mul]
   ·have h4 : ¬ fc C (A j) < C := fun h4 => h2 ⟨h3, h4⟩
    rw [vy (f := A j) (C := C) (k := k) (by omega), Int.mul_zero]
  ·rw [h.later (show i < j by omega) hj hfi hk, Int.mul_zero]
 have hp := hval _ (Nat.le_refl _)
 have hpne : v (fc C (A i)) ≠ 0 := by
  rw [hp]; exact Int.mul_ne_zero ha0 (fc_ne hfi)
 have hfc : fc C (A i) = c := by
  rcases Nat.lt_trichotomy (fc C (A i)) c with h1 | h1 | h1
  ·exact absurd (h0 _ h1) hpne
  ·exact h1
  ·exact absurd (by rw [hval c (by omega), vy h1, Int.mul_zero]) hn
 subst hfc
 exact ⟨i, hi, rfl, ⟨a i, by rw [hp, Int.mul_comm]⟩⟩
theorem HermF.inj {R C : Nat} {A : MatF} (h : HermF R C A) {i j : Nat} (hi : i < R) (hj : j < R) (hc : fc C (A i) < C) (e : fc C (A i) = fc C (A j)) : i = j := by
 rcases Nat.lt_trichotomy i j with h1 | h1 | h1
 ·have := h.up h1 hj (by omega); omega
 ·exact h1
 ·have := h.up h1 hi hc; omega
end Go.Hp
namespace Go.En
open Go.Nt Go.Pz Go.Mz
abbrev Row : Type := Gr (Bool × List Nat) × List Int
abbrev rowV (r : Row) : VP := isGr r.1 (r.2.map nz).length
def pv (ps : List Nat) : List Int := ps.map fun (n : Nat) => (n : Int)
theorem ww (ps : List Nat) : (pv ps).length = ps.length := List.length_map _
def rowsOf (R C : Nat) (L : List Int) : List (List Int) := (List.range R).map fun i => (List.range C).map fun k => cf L (i * C + k)
theorem rowsOf_len (R C : Nat) (L : List Int) : (rowsOf R C L).length = R := by unfold rowsOf; rw [List.length_map, List.length_range]
theorem swap_perm {β : Type} {l : List β} {i j : Nat} {a b : β} (hi : l[i]? = some a) (hj : l[j]? = some b) (hne : i ≠ j) : ((l.set i b).set j a).Perm l := by
  have hil : i < l.length := by
    rcases Nat.lt_or_ge i l.length with h | h
    · exact h
    · rw [List.getElem?_eq_none h] at hi; cases hi
  have hjl : j < l.length := by
    rcases Nat.lt_or_ge j l.length with h | h
    · exact h
    · rw [List.getElem?_eq_none h] at hj; cases hj
  have p1 : ∀ (m : List β) (k : Nat) (x : β), m[k]? = some x → m.Perm (x :: m.eraseIdx k) := by
    intro m
    induction m with
    | nil => intro k x h; simp at h
    | cons y m ih =>
      intro k x h
      cases k with
      | zero =>
        obtain rfl : y = x := by simpa using h
        exact List.Perm.refl _
      | succ k => exact ((ih k x (by simpa using h)).cons y).trans (List.Perm.swap x y _)
  have q1 := p1 l i a hi
  have q2 := p1 (l.set i b) i b (List.getElem?_set_self hil)
  rw [List.eraseIdx_set_eq] at q2
  have q3 := p1 (l.set i b) j b (by rw [List.getElem?_set_ne hne]; exact hj)
  have q4 := p1 ((l.set i b).set j a) j a (List.getElem?_set_self (by rw [List.length_set]; exact hjl))
  rw [List.eraseIdx_set_eq] at q4
  have q5 : ((l.set i b).eraseIdx j).Perm (l.eraseIdx i) := (q3.symm.trans q2).cons_inv
  exact q4.trans ((q5.cons a).trans q1.symm)
def FindR (rs : List Row) (top col : Nat) (odd : Bool) (rs' : List Row) (odd' ok : Bool) : Prop :=
 (ok = false ∧ rs' = rs ∧ odd' = odd ∧ ∀ (j : Nat) (r : Row), top ≤ j → rs[j]? = some r → cf r.2 col = 0) ∨
 (ok = true ∧ ∃ (i : Nat) (r t : Row), top ≤ i ∧ rs[i]? = some r ∧ rs[top]? = some t ∧ cf r.2 col ≠ 0 ∧ (∀ (j : Nat) (r' : Row), top ≤ j → j < i → rs[j]? = some r' → cf r'.2 col = 0) ∧
  rs' = (if i = top then rs else (rs.set i t).set top r) ∧ odd' = if i = top then odd else !odd)
def exQ (x l : Int) : Int := if l ≠ 0 ∧ x.tmod l = 0 then x.tdiv l else 0
def clr (p row : List Int) (col : Nat) (last : Int) (k : Nat) : Int := exQ (cf row k * cf p col - cf row col * cf p k) last
def clrL (p row : List Int) (col : Nat) (last : Int) : List Int := (List.range row.length).map (clr p row col last)
def mixR (p row : List Int) (col : Nat) (last : Int) (k : Nat) : List Int := (clrL p row col last).take k ++ row.drop k
theorem clrL_len (p row : List Int) (col : Nat) (last : Int) : (clrL p row col last).length = row.length := by unfold clrL; rw [List.length_map, List.length_range]
theorem mixR_zero (p row : List Int) (col : Nat) (last : Int) : mixR p row col last 0 = row := by unfold mixR; rw [List.take_zero, List.drop_zero]; rfl
theorem ey (ps : List Nat) (n : Nat) : pv ps ++ [(n : Int)] = pv (ps ++ [n]) := by unfold pv; rw [List.map_append]; rfl
theorem set_same {β : Type} {l : List β} {i : Nat} {x : β} (h : l[i]? = some x) : l.set i x = l := by
 have hi : i < l.length := by
  rcases Nat.lt_or_ge i l.length with h' | h'
  ·exact h'
  ·rw [List.getElem?_eq_none h'] at h; cases h
 have e : l[i] = x := by rw [List.getElem?_eq_getElem hi] at h; exact Option.some.inj h
 subst e
 exact List.set_getElem_self hi
theorem jT {rs : List Row} {i col : Nat} {r : Row} {p : List Int} {last : Int} (h : rs[i]? = some r) : rs = rs.set i (r.1, mixR p r.2 col last 0) := by rw [mixR_zero]; exact (set_same h).symm
end Go.En
namespace Go.Br
open Go.Nt Go.Pz
structure BS where
 rows : List (List Int)
 ps : List Nat
 last : Int
 odd : Bool
def BStep (c : Nat) (s s' : BS) : Prop :=
  (s' = s ∧ ∀ (j : Nat) (r : List Int), s.ps.length ≤ j → s.rows[j]? = some r → cf r c = 0) ∨
  ∃ (i : Nat) (r t : List Int) (sw : List (List Int)), s.ps.length ≤ i ∧ s.rows[i]? = some r ∧ s.rows[s.ps.length]? = some t ∧ cf r c ≠ 0 ∧ sw = (if i = s.ps.length then s.rows else (s.rows.set i t).set s.ps.length r) ∧
    s'.rows.length = s.rows.length ∧ (∀ j : Nat, s'.rows[j]? = if s.ps.length < j then (sw[j]?).map (fun row => Go.En.clrL r row c s.last) else sw[j]?) ∧ s'.ps = s.ps ++ [c] ∧ s'.last = cf r c ∧ s'.odd = if i = s.ps.length then s.odd else !s.odd
inductive BRun (s0 : BS) : Nat → BS → Prop
 | zero : BRun s0 0 s0
 | step {c : Nat} {s s' : BS} : BRun s0 c s → BStep c s s' → BRun s0 (c + 1) s'
theorem BRun.full {s0 s : BS} {c : Nat} (h : BRun s0 c s) (hf : s.rows.length ≤ s.ps.length) : ∀ d, BRun s0 (c + d) s
 | 0 => h
 | d + 1 => (BRun.full h hf d).step (.inl ⟨rfl, fun j r hj hr => by rw [List.getElem?_eq_none (by omega)] at hr; cases hr⟩)
end Go.Br
namespace Go.En
open Go.Nt Go.Pz Go.Br
structure RunI (s0 : BS) (C K R c : Nat) (rs : List Row) (ps : List Nat) (last : Int) (odd : Bool) : Prop where
 hc : c ≤ C
 hlen : rs.length = R
 hrow : ∀ r ∈ rs, r.2.length = C
 hps : ps.length ≤ R
 hb : ∀ r ∈ rs, Bd r.2 ((K + 1) * 2 ^ ps.length - 1)
 hl : (List.length (zA last.natAbs)) ≤ (K + 1) * 2 ^ ps.length - 1
 run : BRun s0 c ⟨rs.map Prod.snd, ps, last, odd⟩
theorem RunI.no {s0 : BS} {C K R c : Nat} {rs rs2 : List Row} {ps : List Nat} {last : Int} {odd odd2 : Bool} (h : RunI s0 C K R c rs ps last odd) (hc : c < C) (hF : FindR rs ps.length c odd rs2 odd2 false) : RunI s0 C K R (c + 1) rs2 ps last odd2 := by
  rcases hF with ⟨_, rfl, rfl, hz⟩ | ⟨h0, _⟩
  · refine ⟨hc, h.hlen, h.hrow, h.hps, h.hb, h.hl, h.run.step (.inl ⟨rfl, fun j r hj hr => ?_⟩)⟩
    rw [List.getElem?_map] at hr
    cases hq : rs2[j]? with
    | none => rw [hq] at hr; cases hr
    | some q =>
      rw [hq] at hr
      obtain rfl : q.2 = r := by simpa using hr
      exact hz j q hj hq
  · cases h0
theorem RunI.fin {s0 : BS} {C K R c : Nat} {rs : List Row} {ps : List Nat} {last : Int} {odd : Bool} (h : RunI s0 C K R c rs ps last odd) (he : C ≤ c ∨ R ≤ ps.length) : RunI s0 C K R C rs ps last odd := by
 rcases he with he | he
 ·obtain rfl : C = c := Nat.le_antisymm he h.hc
  exact h
 ·refine ⟨Nat.le_refl _, h.hlen, h.hrow, h.hps, h.hb, h.hl, ?_⟩
  have := h.run.full (by show (rs.map Prod.snd).length ≤ ps.length; rw [List.length_map, h.hlen]; exact he) (C - c)
  rwa [show c + (C - c) = C by have := h.hc; omega] at this
end Go.En
namespace Go.Dt
open RowF Go.Br Go.Pz
theorem exQ_mul {D w : Int} (h : D ≠ 0) : Go.En.exQ (D * w) D = w := by
 unfold Go.En.exQ
 rw [if_pos ⟨h, Int.mul_tmod_right D w⟩, Int.mul_tdiv_cancel_left w h]
theorem getD_some {β : Type} {l : List β} {i : Nat} {x d : β} (h : l[i]? = some x) : l.getD i d = x := by rw [List.getD, h]; rfl
theorem jK {l : List Nat} {i : Nat} (h : i < l.length) : l[i]? = some (l.getD i 0) := by rw [List.getD, List.getElem?_eq_getElem h]; rfl
theorem jh {β : Type} {l : List β} {i : Nat} {x : β} (h : l[i]? = some x) : i < l.length := by
 rcases Nat.lt_or_ge i l.length with h' | h'
 ·exact h'
 ·rw [List.getElem?_eq_none h'] at h; cases h
theorem clrL_cf {p row : List Int} {col k : Nat} {last : Int} (h : k < row.length) : cf (Go.En.clrL p row col last) k = Go.En.clr p row col last k := by
 unfold Go.En.clrL; rw [xF, if_pos h]
structure BI (A : MatF) (R C c : Nat) (s : BS) (q : List Nat) : Prop where
 hR : s.rows.length = R
 hq : q.length = R
 lt : ∀ x ∈ q, x < R
 nd : q.Nodup
 pm : q.Perm (List.range R)
 hps : s.ps.length ≤ R
 psl : s.ps.Sublist (List.range c)
 hl : s.last = mn A (q.take s.ps.length).reverse s.ps.reverse
 h0 : s.last ≠ 0
 len : ∀ (i : Nat) (r : List Int), s.rows[i]? = some r → r.length = C
 row : ∀ (i : Nat) (r : List Int), s.ps.length ≤ i → s.rows[i]? = some r → ∀ k, k < C → cf r k = mn A (q.getD i 0 :: (q.take s.ps.length).reverse) (k :: s.ps.reverse)
 zero : ∀ (i : Nat) (r : List Int), s.ps.length ≤ i → s.rows[i]? = some r → ∀ k, k < c → cf r k = 0
 sign : ∀ F, RowF R F → F (fun i j => A (q.getD i 0) j) = (if s.odd then -1 else 1) * F A
theorem BI.start (A : MatF) {R C : Nat} {L : List Int} (hA : ∀ i k, i < R → k < C → A i k = cf L (i * C + k)) : BI A R C 0 ⟨Go.En.rowsOf R C L, [], 1, false⟩ (List.range R) where
 hR := Go.En.rowsOf_len R C L
 hq := List.length_range
 lt x hx := List.mem_range.1 hx
 nd := List.nodup_range
 pm := List.Perm.refl _
 hps := Nat.zero_le _
 psl := List.nil_sublist _
 hl := rfl
 h0 := (by decide : (1 : Int) ≠ 0)
 len i r h := by
  unfold Go.En.rowsOf at h
  obtain ⟨j, _, e⟩ := List.mem_map.1 (List.mem_of_getElem? h)
  rw [← e, List.length_map, List.length_range]
 row i r _ h k hk := by
  have hi : i < R := by have := jh h; rwa [Go.En.rowsOf_len] at this
  have e : r = (List.range C).map fun k => cf L (i * C + k) := by
   unfold Go.En.rowsOf at h
   rw [List.getElem?_map, List.getElem?_range hi] at h
   exact (Option.some.inj h).symm
  have e2 : (List.range R).getD i 0 = i := getD_some (List.getElem?_range hi)
  show cf r k = mn A [(List.range R).getD i 0] [k]
  rw [e, xF, if_pos hk, e2, ← hA i k hi hk]
  show A i k = det 1 _
  rw [xP]
  show _ = 0 + 1 * (A i k * 1)
  omega
 zero i r _ _ k hk := by omega
 sign F hF := by
  rw [hF.congr (A := fun i j => A ((List.range R).getD i 0) j) (B := A) fun i j hi _ => by
   show A ((List.range R).getD i 0) j = A i j
   rw [getD_some (List.getElem?_range hi)]]
  show _ = 1 * _
  omega
theorem dn {l : List Nat} {t i : Nat} (h : t ≤ i) (a b : Nat) : ((l.set i a).set t b).take t = l.take t := by
 apply List.ext_getElem?
 intro j
 rw [List.getElem?_take, List.getElem?_take]
 split
 ·rw [List.getElem?_set_ne (by omega), List.getElem?_set_ne (by omega)]
 ·rfl
theorem eh {β : Type} {l : List β} {t i : Nat} {a b : β} (ht : l[t]? = some a) (hi : l[i]? = some b) (hne : i ≠ t) (j : Nat) : ((l.set i a).set t b)[j]? = if j = t then some b else if j = i then some a else l[j]? := by
 have h1 := jh ht
 have h2 := jh hi
 by_cases e : j = t
 ·subst e
  rw [if_pos rfl, List.getElem?_set_self (by rw [List.length_set]; exact h1)]
 ·rw [if_neg e, List.getElem?_set_ne (fun h => e h.symm)]
  by_cases e2 : j = i
  ·subst e2
   rw [if_pos rfl, List.getElem?_set_self h2]
  ·rw [if_neg e2, List.getElem?_set_ne (fun h => e2 h.symm)]
theorem BI.swap {A : MatF} {R C c i : Nat} {s : BS} {q : List Nat} {ri rt : List Int} (h : BI A R C c s q) (hti : s.ps.length ≤ i) (hi : s.rows[i]? = some ri) (ht : s.rows[s.ps.length]? = some rt) (hne : i ≠ s.ps.length) :
  BI A R C c ⟨(s.rows.set i rt).set s.ps.length ri, s.ps, s.last, !s.odd⟩ ((q.set i (q.getD s.ps.length 0)).set s.ps.length (q.getD i 0)) := by
 have hiR : i < R := by have := jh hi; have := h.hR; omega
 have htR : s.ps.length < R := by omega
 have hqi : q[i]? = some (q.getD i 0) := jK (by rw [h.hq]; exact hiR)
 have hqt : q[s.ps.length]? = some (q.getD s.ps.length 0) := jK (by rw [h.hq]; exact htR)
 have hp := Go.En.swap_perm hqi hqt hne
 have hat := eh ht hi hne
 have hqat := eh hqt hqi hne
 have hqd : ∀ j, ((q.set i (q.getD s.ps.length 0)).set s.ps.length (q.getD i 0)).getD j 0 = if j = s.ps.length then q.getD i 0 else if j = i then q.getD s.ps.length 0 else q.getD j 0 := fun j => by
  rw [List.getD, hqat]
  by_cases e : j = s.ps.length
  ·rw [if_pos e, if_pos e]; rfl
  ·rw [if_neg e, if_neg e]
   by_cases e2 : j = i
   ·rw [if_pos e2, if_pos e2]; rfl
   ·rw [if_neg e2, if_neg e2]; rfl
 refine ⟨by rw [List.length_set, List.length_set]; exact h.hR, by rw [List.length_set, List.length_set]; exact h.hq, fun x hx => h.lt x (hp.mem_iff.1 hx), hp.nodup_iff.2 h.nd, hp.trans h.pm, h.hps, h.psl, by rw [dn hti]; exact h.hl, h.h0, fun j r hj => ?_, fun j r htj hj k hk => ?_, fun j r htj hj k hk => ?_, fun F hF => ?_⟩
 ·rw [hat] at hj
  split at hj
  ·rw [← Option.some.inj hj]; exact h.len _ _ hi
  ·split at hj
   ·rw [← Option.some.inj hj]; exact h.len _ _ ht
   ·exact h.len _ _ hj
 ·show cf r k = mn A (_ :: _) _
  rw [dn hti, hqd]
  rw [hat] at hj
  by_cases e : j = s.ps.length
  ·rw [if_pos e] at hj ⊢
   rw [← Option.some.inj hj]; exact h.row i ri hti hi k hk
  ·rw [if_neg e] at hj ⊢
   by_cases e2 : j = i
   ·rw [if_pos e2] at hj ⊢
    rw [← Option.some.inj hj]; exact h.row _ rt (Nat.le_refl _) ht k hk
   ·rw [if_neg e2] at hj ⊢
    exact h.row j r htj hj k hk
 ·rw [hat] at hj
  split at hj
  ·rw [← Option.some.inj hj]; exact h.zero i ri hti hi k hk
  ·split at hj
   ·rw [← Option.some.inj hj]; exact h.zero _ rt (Nat.le_refl _) ht k hk
   ·exact h.zero j r htj hj k hk
 ·have hs := h.sign F hF
  obtain ⟨P, hP⟩ : ∃ P : MatF, P = fun i j => A (q.getD i 0) j := ⟨_, rfl⟩
  rw [← hP] at hs
  have e : (fun (x : Nat) (j : Nat) => A (((q.set i (q.getD s.ps.length 0)).set s.ps.length (q.getD i 0)).getD x 0) j) = setr (setr P i (P s.ps.length)) s.ps.length (P i) := by
   funext x j
   rw [hqd, hP]
   unfold setr
   by_cases e : x = s.ps.length
   ·rw [if_pos e, if_pos e]
   ·rw [if_neg e, if_neg e]
    by_cases e2 : x = i
    ·rw [if_pos e2, if_pos e2]
    ·rw [if_neg e2, if_neg e2]
  rw [e, hF.swap P hiR htR hne, set_self, set_self, hs]
  show _ = (if (!s.odd) = true then _ else _) * _
  cases s.odd
  ·show -(1 * F A) = -1 * F A; omega
  ·show -(-1 * F A) = 1 * F A; omega
theorem BI.clear {A : MatF} {R C c : Nat} {s s' : BS} {q : List Nat} {r : List Int} (h : BI A R C c s q) (hc : c < C) (hr : s.rows[s.ps.length]? = some r) (hne : cf r c ≠ 0) (h1 : s'.rows.length = s.rows.length)
    (h2 : ∀ j : Nat, s'.rows[j]? = if s.ps.length < j then (s.rows[j]?).map (fun row => Go.En.clrL r row c s.last) else s.rows[j]?) (h3 : s'.ps = s.ps ++ [c]) (h4 : s'.last = cf r c) (h5 : s'.odd = s.odd) : BI A R C (c + 1) s' q := by
  have htR : s.ps.length < R := by have := jh hr; have := h.hR; omega
  have hl1 : s'.ps.length = s.ps.length + 1 := by rw [h3]; simp
  have htk : (q.take s'.ps.length).reverse = q.getD s.ps.length 0 :: (q.take s.ps.length).reverse := by
    rw [hl1, List.take_add_one, jK (by rw [h.hq]; exact htR), List.reverse_append]; rfl
  have hpr : s'.ps.reverse = c :: s.ps.reverse := by rw [h3, List.reverse_append]; rfl
  have hrow := h.row _ r (Nat.le_refl _) hr
  have hD : mn A (q.take s.ps.length).reverse s.ps.reverse ≠ 0 := by rw [← h.hl]; exact h.h0
  have hlen : (s.ps.reverse).length = ((q.take s.ps.length).reverse).length := by
    rw [List.length_reverse, List.length_reverse, List.length_take, h.hq]; have := h.hps; omega
  have hnew : ∀ (i : Nat) (row : List Int), s'.ps.length ≤ i → s'.rows[i]? = some row → ∃ r0, s.rows[i]? = some r0 ∧ row = Go.En.clrL r r0 c s.last := by
    intro i row hi hrw
    rw [h2, if_pos (by omega)] at hrw
    cases e : s.rows[i]? with
    | none => rw [e] at hrw; cases hrw
    | some r0 => rw [e] at hrw; exact ⟨r0, rfl, (Option.some.inj hrw).symm⟩
  have hclr : ∀ (i : Nat) (r0 : List Int), s'.ps.length ≤ i → s.rows[i]? = some r0 → ∀ k, k < C → cf (Go.En.clrL r r0 c s.last) k = mn A (q.getD i 0 :: q.getD s.ps.length 0 :: (q.take s.ps.length).reverse) (k :: c :: s.ps.reverse) := by
    intro i r0 hi hr0 k hk
    rw [clrL_cf (by rw [h.len i r0 hr0]; exact hk)]
    unfold Go.En.clr
    rw [h.row i r0 (by omega) hr0 k hk, h.row i r0 (by omega) hr0 c hc, hrow c hc, hrow k hk, mn_step A hlen hD, h.hl, exQ_mul hD]
  refine ⟨by rw [h1]; exact h.hR, h.hq, h.lt, h.nd, h.pm, by omega, ?_, by rw [htk, hpr, h4]; exact hrow c hc, by rw [h4]; exact hne, fun i row hi => ?_, fun i row hi hrw k hk => ?_, fun i row hi hrw k hk => ?_, fun F hF => by rw [h5]; exact h.sign F hF⟩
  · rw [h3, List.range_succ]; exact h.psl.append (List.Sublist.refl _)
  · rw [h2] at hi
    split at hi
    · cases e : s.rows[i]? with
      | none => rw [e] at hi; cases hi
      | some r0 =>
        rw [e] at hi
        rw [← Option.some.inj hi, Go.En.clrL_len]; exact h.len i r0 e
    · exact h.len i row hi
  · obtain ⟨r0, hr0, rfl⟩ := hnew i row hi hrw
    rw [htk, hpr]
    exact hclr i r0 hi hr0 k hk
  · obtain ⟨r0, hr0, rfl⟩ := hnew i row hi hrw
    rw [clrL_cf (by rw [h.len i r0 hr0]; omega)]
    unfold Go.En.clr
    have e : cf r0 k * cf r c - cf r0 c * cf r k = s.last * 0 := by
      rw [Int.mul_zero]
      rcases Nat.lt_succ_iff_lt_or_eq.1 hk with hk2 | hk2
      · rw [h.zero i r0 (by omega) hr0 k hk2, h.zero _ r (Nat.le_refl _) hr k hk2, Int.zero_mul, Int.mul_zero]; rfl
      · rw [hk2]; omega
    rw [e, exQ_mul h.h0]
theorem BI.keep {A : MatF} {R C c : Nat} {s : BS} {q : List Nat} (h : BI A R C c s q) (hz : ∀ (j : Nat) (r : List Int), s.ps.length ≤ j → s.rows[j]? = some r → cf r c = 0) : BI A R C (c + 1) s q :=
 {h with
  psl := by rw [List.range_succ]; exact h.psl.trans (List.sublist_append_left _ _)
  zero := fun i r hi hr k hk => by
   rcases Nat.lt_succ_iff_lt_or_eq.1 hk with hk2 | hk2
   ·exact h.zero i r hi hr k hk2
   ·rw [hk2]; exact hz i r hi hr }
theorem BI.step {A : MatF} {R C c : Nat} {s s' : BS} {q : List Nat} (h : BI A R C c s q) (hc : c < C) (hs : BStep c s s') : ∃ q', BI A R C (c + 1) s' q' := by
 rcases hs with ⟨rfl, hz⟩ | ⟨i, r, t, sw, hti, hi, ht, hne, hsw, k1, k2, k3, k4, k5⟩
 ·exact ⟨q, h.keep hz⟩
 ·by_cases e : i = s.ps.length
  ·rw [if_pos e] at hsw k5
   subst hsw
   subst e
   exact ⟨q, h.clear hc hi hne k1 k2 k3 k4 k5⟩
  ·rw [if_neg e] at hsw k5
   have hb := h.swap hti hi ht e
   refine ⟨_, hb.clear (r := r) hc ?_ hne ?_ ?_ k3 k4 k5⟩
   ·exact (eh ht hi e _).trans (if_pos rfl)
   ·rw [k1]; show _ = ((s.rows.set i t).set s.ps.length r).length; rw [List.length_set, List.length_set]
   ·intro j; rw [k2 j, hsw]
theorem BI.all {A : MatF} {R C : Nat} {s0 : BS} {q0 : List Nat} (h0 : BI A R C 0 s0 q0) : ∀ {c : Nat} {s : BS}, BRun s0 c s → c ≤ C → ∃ q, BI A R C c s q := by
 intro c s h
 induction h with
 | zero => exact fun _ => ⟨q0, h0⟩
 | step _ hs ih =>
   intro hc
   obtain ⟨q, hq⟩ := ih (by omega)
   exact hq.step (by omega) hs
end Go.Dt
namespace Go.Mz
open Go.Pz Go.Nt Go.En Go.Dt
def mf (C : Nat) (L : List Int) : MatF := fun i k => cf L (i * C + k)
def tabR (N C : Nat) (g : Nat → Nat → Bool × List Nat) : List (Bool × List Nat) := (List.range N).map fun j => g (j / C) (j % C)
theorem xL (N C : Nat) (g : Nat → Nat → Bool × List Nat) : (tabR N C g).length = N := by unfold tabR; rw [List.length_map, List.length_range]
theorem wS (N C : Nat) (g : Nat → Nat → Bool × List Nat) : vals (tabR N C g) = tab N C fun i k => zv (g i k).1 (g i k).2 := by
 unfold vals tabR tab; rw [List.map_map]; rfl
def cn (k c : Nat) : Nat := if c ≤ k then c else c - 1
theorem cn_zero (k : Nat) : cn k 0 = 0 := if_pos (Nat.zero_le _)
theorem cn_self (k : Nat) : cn k (k + 1) = cn k k := by unfold cn; rw [if_neg (by omega), if_pos (Nat.le_refl _)]; rfl
theorem cn_succ {k c : Nat} (h : c ≠ k) : cn k (c + 1) = cn k c + 1 := by unfold cn; (repeat' split) <;> omega
theorem skip_cn {k c : Nat} (h : c ≠ k) : skip k (cn k c) = c := by unfold skip cn; (repeat' split) <;> omega
theorem cn_all {k n : Nat} (h : k < n) : cn k n = n - 1 := by unfold cn; rw [if_neg (by omega)]
theorem cn_lt {k c n : Nat} (hk : k < n) (hc : c < n) (h : c ≠ k) : cn k c < n - 1 := by unfold cn; split <;> omega
def woG (C i k : Nat) (xs : List (Bool × List Nat)) : Nat → Nat → Bool × List Nat := fun r c => xs.getD (skip i r * C + skip k c) (false, [])
def wo (R C i k : Nat) (xs : List (Bool × List Nat)) : List (Bool × List Nat) := tabR ((R - 1) * (C - 1)) (C - 1) (woG C i k xs)
def woN (C i k r c : Nat) : Nat := cn i r * (C - 1) + if r = i then 0 else cn k c
theorem aY (C i k r : Nat) : woN C i k r 0 = cn i r * (C - 1) := by unfold woN; rw [cn_zero]; split <;> rfl
theorem woN_zero (C i k : Nat) : woN C i k 0 0 = 0 := by rw [aY, cn_zero, Nat.zero_mul]
theorem bN {C i k r c : Nat} (h : ¬ (r ≠ i ∧ c ≠ k)) : woN C i k r (c + 1) = woN C i k r c := by
 unfold woN
 split
 ·rfl
 ·rename_i hr
  obtain rfl : c = k := Classical.byContradiction fun e => h ⟨hr, e⟩
  rw [cn_self]
theorem woN_on {C i k r c : Nat} (hr : r ≠ i) (hc : c ≠ k) : woN C i k r (c + 1) = woN C i k r c + 1 := by
 unfold woN; rw [if_neg hr, if_neg hr, cn_succ hc]; omega
theorem woN_next {C i k r : Nat} (hk : k < C) : woN C i k r C = woN C i k (r + 1) 0 := by
 rw [aY]
 unfold woN
 by_cases hr : r = i
 ·rw [if_pos hr, hr, cn_self, Nat.add_zero]
 ·rw [if_neg hr, cn_succ hr, cn_all hk, Nat.succ_mul]
theorem woN_all {R C i k : Nat} (hi : i < R) : woN C i k R 0 = (R - 1) * (C - 1) := by rw [aY, cn_all hi]
theorem wo_app {C i k r c : Nat} {xs : List (Bool × List Nat)} (hr : r ≠ i) (hc : c ≠ k) (hcC : c < C) (hk : k < C) :
  tabR (woN C i k r c) (C - 1) (woG C i k xs) ++ [xs.getD (r * C + c) (false, [])] = tabR (woN C i k r (c + 1)) (C - 1) (woG C i k xs) := by
 rw [woN_on hr hc]
 unfold tabR
 rw [List.range_succ, List.map_append, List.map_singleton]
 refine congrArg _ (congrArg (fun z => [z]) ?_)
 have e : woN C i k r c = cn i r * (C - 1) + cn k c := by unfold woN; rw [if_neg hr]
 obtain ⟨d1, d2⟩ := jo (i := cn i r) (cn_lt hk hcC hc)
 rw [e, d1, d2]
 unfold woG
 rw [skip_cn hr, skip_cn hc]
theorem woN_le {R C i k r c : Nat} (hi : i < R) (hk : k < C) (hr : r < R) (hc : c ≤ C) : woN C i k r c ≤ (R - 1) * (C - 1) := by
 have h1 : cn i r * (C - 1) + (if r = i then 0 else cn k c) ≤ (R - 1) * (C - 1) := by
  by_cases e : r = i
  ·rw [if_pos e, Nat.add_zero]
   refine Nat.mul_le_mul_right _ ?_
   unfold cn; split <;> omega
  ·rw [if_neg e]
   have h2 : cn i r + 1 ≤ R - 1 := by have := cn_lt hi hr e; omega
   have h3 : cn k c ≤ C - 1 := by unfold cn; split <;> omega
   have h4 := Nat.mul_le_mul_right (C - 1) h2
   rw [Nat.succ_mul] at h4; omega
 exact h1
theorem wo_bd {R C i k K : Nat} {xs : List (Bool × List Nat)} (h : Bd (vals xs) K) : Bd (vals (wo R C i k xs)) K := by
 unfold wo
 rw [wS]
 exact ju fun r c => by
  unfold woG
  rw [← zi]; exact h _
theorem wo_len (R C i k : Nat) (xs : List (Bool × List Nat)) : (wo R C i k xs).length = (R - 1) * (C - 1) := xL _ _ _
theorem wo_mf {n k i j : Nat} {xs : List (Bool × List Nat)} (hi : i < n) (hj : j < n) : mf n (vals (wo (n + 1) (n + 1) 0 k xs)) i j = mf (n + 1) (vals xs) (i + 1) (skip k j) := by
 unfold mf wo
 rw [wS, show n + 1 - 1 = n by omega, wh _ hj (qG hi hj)]
 unfold woG
 rw [← zi]
 have e : skip 0 i = i + 1 := by unfold skip; rw [if_neg (by omega)]
 rw [e]
theorem det_wo {n k : Nat} {xs : List (Bool × List Nat)} : det n (mf n (vals (wo (n + 1) (n + 1) 0 k xs))) = det n fun i j => mf (n + 1) (vals xs) (i + 1) (skip k j) := qB fun _ _ hi hj => wo_mf hi hj
def dtT (n : Nat) (A : MatF) (k : Nat) : Int := sg k * (A 0 k * det n fun i j => A (i + 1) (skip k j))
theorem det_sum (n : Nat) (A : MatF) : det (n + 1) A = sm (n + 1) (dtT n A) := rfl
theorem sg_nw (k : Nat) (z : Int) : (sg k * z).natAbs = z.natAbs := by
 unfold sg; split
 ·rw [Int.neg_mul, Int.one_mul, Int.natAbs_neg]
 ·rw [Int.one_mul]
theorem sm_nw {f : Nat → Int} {K : Nat} (h : ∀ i, (List.length (zA (f i).natAbs)) ≤ K) : ∀ n, (List.length (zA (sm n f).natAbs)) ≤ K + n
  | 0 => by show (List.length (zA (Int.natAbs 0))) ≤ _; rw [Int.natAbs_zero, zF]; exact Nat.zero_le _
  | n + 1 => by
    have h1 := sm_nw h n
    have h2 := xU (sm n f) (f n)
    have h3 := h n
    show (List.length (zA (sm n f + f n).natAbs)) ≤ _
    omega
theorem det_nw {A : MatF} {K : Nat} (h : ∀ i j, (List.length (zA (A i j).natAbs)) ≤ K) (n : Nat) : (List.length (zA (det n A).natAbs)) ≤ n * (K + n) + 1 := by
  induction n generalizing A with
  | zero =>
    show (List.length (zA (Int.natAbs 1))) ≤ _
    exact Nat.le_trans (zz (by decide)) (by omega)
  | succ n ih =>
    have h1 : ∀ k, (List.length (zA (dtT n A k).natAbs)) ≤ K + (n * (K + n) + 1) := fun k => by
      unfold dtT
      rw [sg_nw]
      have := qD (A 0 k) (det n fun i j => A (i + 1) (skip k j))
      have := h 0 k
      have := ih (A := fun i j => A (i + 1) (skip k j)) (fun i j => h _ _)
      omega
    rw [det_sum]
    have h2 := sm_nw h1 (n + 1)
    have e : (n + 1) * (K + (n + 1)) = n * (K + n) + n + (K + (n + 1)) := by rw [Nat.succ_mul, ← Nat.add_assoc K n 1, Nat.mul_succ]
    omega
theorem dtT_nw {A : MatF} {K : Nat} (h : ∀ i j, (List.length (zA (A i j).natAbs)) ≤ K) (n k : Nat) : (List.length (zA (dtT n A k).natAbs)) ≤ K + (n * (K + n) + 1) := by
 unfold dtT
 rw [sg_nw]
 have := qD (A 0 k) (det n fun i j => A (i + 1) (skip k j))
 have := h 0 k
 have := det_nw (A := fun i j => A (i + 1) (skip k j)) (fun i j => h _ _) n
 omega
theorem mf_bd {C K : Nat} {L : List Int} (h : Bd L K) : ∀ i j, (List.length (zA (mf C L i j).natAbs)) ≤ K := fun _ _ => h _
end Go.Mz
namespace Go.En
open Go.Nt Go.Pz Go.Mz
theorem jl {α : Type} {fk : α → List VP} {g : Gr α} {ys ys' : List α} {n : Nat} {b : Nat} {A B : VP} {r : Mem} (hn : n = ys'.length) (h : ys = ys') : (grMK fk g ys :: (some b, zB [A, B, isGr g n]) :: r : Mem) = grMK fk g ys' :: (some b, zB [A, B, isGr g ys'.length]) :: r := by subst h; subst hn; rfl
section
variable {E : Env} {P : Program} {Γ : Ctx} {M : Mem} {x : Operand}
theorem Has.okM {r c : Int} {xs : List (Bool × List Nat)} (h : Has E Γ M x (isM r c xs)) : ∀ a w F, Sat E Γ M a w F → ∀ p ∈ xs, (∀ y ∈ p.2, y < 18446744073709551616) ∧ p.2.length ≤ 9223372036854775807 := by
 intro a w F s p hp
 obtain ⟨vs0, _, hv0⟩ := h a w F s
 obtain ⟨v0, _, ad, cap, e, g1, g2, g3, g4⟩ := hv0.get 2 (SlK 2 zc xs) rfl
 obtain ⟨i, hi, rfl⟩ := List.mem_iff_getElem.1 hp
 rcases g4 with g4 | ⟨b, off, _, _, vs, hv, _⟩
 ·omega
 ·have hd := (hv.drop (i * 2)).take 2
  rw [vb xs i xs[i] (fun y _ => zO y) (List.getElem?_eq_getElem hi)] at hd
  obtain ⟨v, _, ad, cap, e, g1, g2, g3, g4⟩ := hd.get 1 (zD xs[i].2) rfl
  refine ⟨fun y hy => ?_, by rw [zf] at g2; omega⟩
  obtain ⟨j, hj, rfl⟩ := List.mem_iff_getElem.1 hy
  rcases g4 with g4 | ⟨b, off, _, _, us, hu, _⟩
  ·omega
  ·obtain ⟨u, _, h2⟩ := hu.get j (isU xs[i].2[j]) (by simp [hj])
   exact h2.2
end
end Go.En
namespace Go.Hp
open Go.Dt Go.Hn Go.Pz Go.Nt Go.Mz
def E (rs : List (List Int)) : MatF := fun i k => cf (rs.getD i []) k
theorem jw {rs : List (List Int)} {i : Nat} {x : List Int} (hi : i < rs.length) (j : Nat) : E (rs.set i x) j = if j = i then cf x else E rs j := by
 funext k
 unfold E
 by_cases e : j = i
 ·subst e
  rw [if_pos rfl, List.getD, List.getElem?_set_self hi]; rfl
 ·rw [if_neg e, List.getD, List.getElem?_set_ne (fun h => e h.symm)]; rfl
theorem E_of {rs : List (List Int)} {i : Nat} {x : List Int} (h : rs[i]? = some x) : E rs i = cf x := by funext k; unfold E; rw [qr h]
theorem E_same {rs rs' : List (List Int)} {i : Nat} (h : rs'[i]? = rs[i]?) : E rs' i = E rs i := by funext k; unfold E; rw [List.getD, List.getD, h]
theorem eqv_set {rs : List (List Int)} {W t : Nat} {x : List Int} {y z : Int} (ht : t < rs.length) {b : Nat} (hb : b < rs.length) (hne : b ≠ t)
  (hx : ∀ k, cf x k = E rs t k + z * E rs b k) (hy : y = -z) : Eqv rs.length rs.length W (E rs) (E (rs.set t x)) := by
 subst hy
 have e := jw (x := x) ht
 refine ⟨fun i hi => ?_, fun i hi => ?_⟩
 ·by_cases hit : i = t
  ·subst hit
   refine ((SpZ.row (E (rs.set i x)) ht).comb 1 (-z) (SpZ.row (E (rs.set i x)) hb)).congr fun k _ => ?_
   show _ = 1 * E (rs.set i x) i k + (-z) * E (rs.set i x) b k
   rw [e i, if_pos rfl, e b, if_neg hne, hx]
   grind
  ·exact (SpZ.row (E (rs.set t x)) hi).congr fun k _ => by rw [e i, if_neg hit]
 ·by_cases hit : i = t
  ·subst hit
   refine ((SpZ.row (E rs) ht).comb 1 z (SpZ.row (E rs) hb)).congr fun k _ => ?_
   rw [e i, if_pos rfl, hx]
   show _ = 1 * E rs i k + z * E rs b k
   omega
  ·exact (SpZ.row (E rs) hi).congr fun k _ => by rw [e i, if_neg hit]
theorem jn_eqv {rs : List (List Int)} {t i col W V : Nat} (hrow : ∀ r ∈ rs, r.length = W) (hti : t ≠ i) (ht : t < rs.length) (hi : i < rs.length) : Eqv rs.length rs.length V (E rs) (E (jn rs t i col)) := by
 obtain ⟨p, hp⟩ : ∃ p, rs[t]? = some p := ⟨_, List.getElem?_eq_getElem ht⟩
 obtain ⟨q, hq⟩ : ∃ q, rs[i]? = some q := ⟨_, List.getElem?_eq_getElem hi⟩
 by_cases h : xgg (cf p col) (cf q col) = 0
 ·rw [jn_no hp hq h]; exact Eqv.refl _ _ _
 rw [jn_go hp hq h]
 have hl : q.length = p.length := (hrow q (List.mem_of_getElem? hq)).trans (hrow p (List.mem_of_getElem? hp)).symm
 have hb := dh (cf p col) (cf q col)
 obtain ⟨u, hu⟩ := aD (cf p col) (cf q col)
 obtain ⟨v, hv⟩ := wP (cf p col) (cf q col)
 have eu : (cf p col).tdiv (xgg (cf p col) (cf q col)) = u := by
  conv => lhs; lhs; rw [hu]
  exact Int.mul_tdiv_cancel_left _ h
 have ev : (cf q col).tdiv (xgg (cf p col) (cf q col)) = v := by
  conv => lhs; lhs; rw [hv]
  exact Int.mul_tdiv_cancel_left _ h
 rw [eu, ev]
 generalize hX : xgx (cf p col) (cf q col) = X at *
 generalize hY : xgy (cf p col) (cf q col) = Y at *
 have h1 : X * u + Y * v = 1 := by
  generalize xgg (cf p col) (cf q col) = g at *
  have : g * (X * u + Y * v) = g * 1 := by rw [hu, hv] at hb; grind
  exact Int.eq_of_mul_eq_mul_left h this
 have ep := E_of hp
 have eq' := E_of hq
 have e : ∀ j, E ((rs.set t (mx2 X p Y q)).set i (mx2 (-v) p u q)) j = if j = i then cf (mx2 (-v) p u q) else if j = t then cf (mx2 X p Y q) else E rs j := fun j => by
  rw [jw (by rw [List.length_set]; exact hi), jw ht]
 have c1 : ∀ k, cf (mx2 X p Y q) k = X * cf p k + Y * cf q k := vP hl
 have c2 : ∀ k, cf (mx2 (-v) p u q) k = -v * cf p k + u * cf q k := vP hl
 generalize hr : (rs.set t (mx2 X p Y q)).set i (mx2 (-v) p u q) = rs' at *
 have rt : SpZ rs.length V (E rs') (cf (mx2 X p Y q)) := (SpZ.row (E rs') ht).congr fun k _ => by rw [e t, if_neg hti, if_pos rfl]
 have ri : SpZ rs.length V (E rs') (cf (mx2 (-v) p u q)) := (SpZ.row (E rs') hi).congr fun k _ => by rw [e i, if_pos rfl]
 have sp : SpZ rs.length V (E rs) (cf p) := (SpZ.row (E rs) ht).congr fun k _ => by rw [ep]
 have sq : SpZ rs.length V (E rs) (cf q) := (SpZ.row (E rs) hi).congr fun k _ => by rw [eq']
 refine ⟨fun j hj => ?_, fun j hj => ?_⟩
 ·by_cases hjt : j = t
  ·subst hjt
   refine (rt.comb u (-Y) ri).congr fun k _ => ?_
   rw [ep]
   show cf p k = u * cf (mx2 X p Y q) k + (-Y) * cf (mx2 (-v) p u q) k
   rw [c1, c2]
   have : cf p k = (X * u + Y * v) * cf p k := by rw [h1, Int.one_mul]
   grind
  ·by_cases hji : j = i
   ·subst hji
    refine (rt.comb v X ri).congr fun k _ => ?_
    rw [eq']
    show cf q k = v * cf (mx2 X p Y q) k + X * cf (mx2 (-v) p u q) k
    rw [c1, c2]
    have : cf q k = (X * u + Y * v) * cf q k := by rw [h1, Int.one_mul]
    grind
   ·exact (SpZ.row (E rs') hj).congr fun k _ => by rw [e j, if_neg hji, if_neg hjt]
 ·rw [show E rs' j = if j = i then cf (mx2 (-v) p u q) else if j = t then cf (mx2 X p Y q) else E rs j from e j]
  split
  ·exact (sp.comb (-v) u sq).congr fun k _ => c2 k
  ·split
   ·exact (sp.comb X Y sq).congr fun k _ => c1 k
   ·exact SpZ.row (E rs) hj
theorem jns_eqv {rs : List (List Int)} {t col W V : Nat} (hrow : ∀ r ∈ rs, r.length = W) (ht : t < rs.length) : ∀ n, t + 1 + n ≤ rs.length → Eqv rs.length rs.length V (E rs) (E (jns rs t col n))
  | 0, _ => Eqv.refl _ _ _
  | n + 1, hn => by
    have ih := jns_eqv hrow ht (col := col) (V := V) n (by omega)
    have hl := qj rs t col n
    have h2 := jn_eqv (V := V) (col := col) (xl hrow ht (col := col) n) (show t ≠ t + 1 + n by omega) (by omega) (show t + 1 + n < _ by omega)
    rw [hl] at h2
    exact ih.trans h2
theorem rds_eqv {rs : List (List Int)} {t col W V : Nat} (hrow : ∀ r ∈ rs, r.length = W) (ht : t < rs.length) : ∀ n, n ≤ t → Eqv rs.length rs.length V (E rs) (E (rds rs t col n))
  | 0, _ => Eqv.refl _ _ _
  | n + 1, hn => by
    have ih := rds_eqv hrow ht (col := col) (V := V) n (by omega)
    have hl := jf rs t col n
    have hr := bS hrow ht (col := col) n (by omega)
    have h2 := eqv_set (rs := rds rs t col n) (W := V) (t := n) (b := t) (x := mx2 1 ((rds rs t col n).getD n []) (-(cf ((rds rs t col n).getD n []) col / cf ((rds rs t col n).getD t []) col)) ((rds rs t col n).getD t [])) (z := -(cf ((rds rs t col n).getD n []) col / cf ((rds rs t col n).getD t []) col)) (by omega) (by omega) (by omega) (fun k => by
      rw [vP ((qe hr (by omega)).trans (qe hr (by omega)).symm), Int.one_mul]; rfl) rfl
    rw [hl] at h2
    exact ih.trans h2
theorem hsg_eqv {rs : List (List Int)} {t col V : Nat} (ht : t < rs.length) : Eqv rs.length rs.length V (E rs) (E (hsg rs t col)) := by
 unfold hsg
 split
 ·have e := jw (x := mx2 (-1) (rs.getD t []) 0 (rs.getD t [])) ht
  have c : ∀ k, cf (mx2 (-1) (rs.getD t []) 0 (rs.getD t [])) k = -1 * E rs t k + 0 * E rs t k := vP rfl
  refine ⟨fun i hi => ?_, fun i hi => ?_⟩
  ·by_cases hit : i = t
   ·subst hit
    refine ((SpZ.row (E (rs.set i (mx2 (-1) (rs.getD i []) 0 (rs.getD i [])))) ht).comb (-1) 0 (SpZ.row _ ht)).congr fun k _ => ?_
    show _ = -1 * E _ i k + 0 * E _ i k
    rw [e i, if_pos rfl, c]; omega
   ·exact (SpZ.row _ hi).congr fun k _ => by rw [e i, if_neg hit]
  ·by_cases hit : i = t
   ·subst hit
    exact ((SpZ.row (E rs) ht).comb (-1) 0 (SpZ.row _ ht)).congr fun k _ => by rw [e i, if_pos rfl, c]
   ·exact (SpZ.row _ hi).congr fun k _ => by rw [e i, if_neg hit]
 ·exact Eqv.refl _ _ _
theorem hcol_eqv {s : HS} {W V : Nat} (col : Nat) (h : s.top < s.rows.length) (hr : ∀ r ∈ s.rows, r.length = W) : Eqv s.rows.length s.rows.length V (E s.rows) (E (hcol s col).rows) := by
 have h1 := jns_eqv (V := V) (col := col) hr h (s.rows.length - (s.top + 1)) (by omega)
 unfold hcol hjs
 split
 ·exact h1
 ·have hl := qj s.rows s.top col (s.rows.length - (s.top + 1))
  have h2 := hsg_eqv (V := V) (col := col) (rs := jns s.rows s.top col (s.rows.length - (s.top + 1))) (t := s.top) (by omega)
  have h3 := rds_eqv (V := V) (col := col) (rs := hsg (jns s.rows s.top col (s.rows.length - (s.top + 1))) s.top col) (t := s.top) (bf (xl hr h _) (by omega)) (by rw [vU]; omega) s.top (Nat.le_refl _)
  rw [vU, hl] at h3
  rw [hl] at h2
  exact h1.trans (h2.trans h3)
theorem hred_eqv {R W K V : Nat} {s : HS} (h : HOk R W K s) : ∀ c, Eqv R R V (E s.rows) (E (hred s c).rows)
  | 0 => Eqv.refl _ _ _
  | c + 1 => by
    have ih := hred_eqv (V := V) h c
    have ho := vw h c
    show Eqv R R V _ (E (if _ then _ else _ : HS).rows)
    split
    · rename_i ht
      have h2 := hcol_eqv (V := V) c ht ho.row
      rw [ho.len] at h2
      exact ih.trans h2
    · exact ih
/-! ### the form's shape -/
structure HI (R : Nat) (s : HS) (P : Nat → Nat) (c : Nat) : Prop where
 plt : ∀ i, i < s.top → P i < c
 pup : ∀ i j, i < j → j < s.top → P i < P j
 lead : ∀ i k, i < s.top → k < P i → E s.rows i k = 0
 pos : ∀ i, i < s.top → 0 < E s.rows i (P i)
 zero : ∀ i k, s.top ≤ i → i < R → k < c → E s.rows i k = 0
 red : ∀ i r, r < i → i < s.top → 0 ≤ E s.rows r (P i) ∧ E s.rows r (P i) < E s.rows i (P i)
theorem jns_zero {rs : List (List Int)} {t col W k : Nat} (hrow : ∀ r ∈ rs, r.length = W) (ht : t < rs.length) (h0 : ∀ i, t ≤ i → i < rs.length → E rs i k = 0) : ∀ n, t + 1 + n ≤ rs.length → ∀ i, t ≤ i → i < rs.length → E (jns rs t col n) i k = 0
  | 0, _ => h0
  | n + 1, hn => by
    have ih := jns_zero hrow ht (col := col) h0 n (by omega)
    have hl := qj rs t col n
    have hr := xl hrow ht (col := col) n
    intro i hi hiR
    show E (jn _ _ _ _) i k = 0
    unfold jn
    split
    · exact ih i hi hiR
    · have e1 : ((jns rs t col n).getD (t + 1 + n) []).length = ((jns rs t col n).getD t []).length := (qe hr (by omega)).trans (qe hr (by omega)).symm
      have z1 : cf ((jns rs t col n).getD t []) k = 0 := ih t (Nat.le_refl _) ht
      have z2 : cf ((jns rs t col n).getD (t + 1 + n) []) k = 0 := ih (t + 1 + n) (by omega) (by omega)
      rw [jw (by rw [List.length_set]; omega), jw (by omega)]
      split
      · rw [vP e1, z1, z2]; omega
      · split
        · rw [vP e1, z1, z2]; omega
        · exact ih i hi hiR
theorem jns_done {rs : List (List Int)} {t col W : Nat} (hrow : ∀ r ∈ rs, r.length = W) (ht : t < rs.length) : ∀ n, t + 1 + n ≤ rs.length → ∀ i, t < i → i < t + 1 + n → E (jns rs t col n) i col = 0
  | 0, _, i, h1, h2 => absurd h2 (by omega)
  | n + 1, hn, i, h1, h2 => by
    have ih := jns_done hrow ht (col := col) n (by omega)
    have hl := qj rs t col n
    have hr := xl hrow ht (col := col) n
    have e1 : ((jns rs t col n).getD (t + 1 + n) []).length = ((jns rs t col n).getD t []).length := (qe hr (by omega)).trans (qe hr (by omega)).symm
    show E (jn _ _ _ _) i col = 0
    unfold jn
    split
    · rename_i h0
      rcases Nat.lt_or_ge i (t + 1 + n) with h3 | h3
      · exact ih i h1 h3
      · rw [show i = t + 1 + n by omega]; exact (xgg_zero.1 h0).2
    · rename_i h0
      rw [jw (by rw [List.length_set]; omega), jw (by omega)]
      split
      · rw [vP e1]
        obtain ⟨u, hu⟩ := aD (cf ((jns rs t col n).getD t []) col) (cf ((jns rs t col n).getD (t + 1 + n) []) col)
        obtain ⟨v, hv⟩ := wP (cf ((jns rs t col n).getD t []) col) (cf ((jns rs t col n).getD (t + 1 + n) []) col)
        generalize xgg (cf ((jns rs t col n).getD t []) col) (cf ((jns rs t col n).getD (t + 1 + n) []) col) = g at *
        generalize cf ((jns rs t col n).getD t []) col = a at *
        generalize cf ((jns rs t col n).getD (t + 1 + n) []) col = b at *
        subst hu; subst hv
        rw [Int.mul_tdiv_cancel_left _ h0, Int.mul_tdiv_cancel_left _ h0]
        grind
      · rename_i h3
        rw [if_neg (by omega)]
        exact ih i h1 (by omega)
theorem E_low {rs : List (List Int)} {t col n j : Nat} (hj : j < t) : E (jns rs t col n) j = E rs j := E_same (jk hj n)
theorem rds_at {rs : List (List Int)} {t col W : Nat} (hrow : ∀ r ∈ rs, r.length = W) (ht : t < rs.length) : ∀ n, n ≤ t → ∀ i k, E (rds rs t col n) i k = if i < n then E rs i k - (E rs i col / E rs t col) * E rs t k else E rs i k
  | 0, _, i, k => by rw [if_neg (by omega)]; rfl
  | n + 1, hn, i, k => by
    have ih := rds_at hrow ht (col := col) n (by omega)
    have hl := jf rs t col n
    have hr := bS hrow ht (col := col) n (by omega)
    show E (rd _ _ _ _) i k = _
    unfold rd
    rw [jw (by omega)]
    have e1 : ∀ k, cf ((rds rs t col n).getD t []) k = E rs t k := fun k => (ih t k).trans (if_neg (by omega))
    have e2 : ∀ k, cf ((rds rs t col n).getD n []) k = E rs n k := fun k => (ih n k).trans (if_neg (by omega))
    split
    · rename_i h1
      subst h1
      rw [if_pos (by omega), vP ((qe hr (by omega)).trans (qe hr (by omega)).symm), e1, e2, e1, e2]
      grind
    · rw [ih i k]
      by_cases h2 : i < n
      · rw [if_pos h2, if_pos (by omega)]
      · rw [if_neg h2, if_neg (by omega)]
theorem hsg_at {rs : List (List Int)} {t col : Nat} (ht : t < rs.length) (i k : Nat) : E (hsg rs t col) i k = if i = t ∧ E rs t col < 0 then -(E rs t k) else E rs i k := by
 unfold hsg
 have e : cf (rs.getD t []) col = E rs t col := rfl
 rw [e]
 split
 ·rename_i h
  rw [jw ht]
  split
  ·rename_i h2
   rw [if_pos ⟨h2, h⟩, vP rfl]
   show -1 * E rs t k + 0 * E rs t k = _
   omega
  ·rename_i h2
   rw [if_neg fun h3 => h2 h3.1]
 ·rename_i h
  rw [if_neg fun h3 => h h3.2]
theorem HI.step {R W : Nat} {s : HS} {P : Nat → Nat} {c : Nat} (h : HI R s P c) (hl : s.rows.length = R) (hr : ∀ r ∈ s.rows, r.length = W) (ht : s.top < R) : ∃ P', HI R (hcol s c) P' (c + 1) := by
 subst hl
 obtain ⟨A, hA⟩ : ∃ A, A = jns s.rows s.top c (s.rows.length - (s.top + 1)) := ⟨_, rfl⟩
 have hAl : A.length = s.rows.length := by rw [hA]; exact qj _ _ _ _
 have hAr : ∀ r ∈ A, r.length = W := by rw [hA]; exact xl hr ht _
 have hAlow : ∀ i, i < s.top → E A i = E s.rows i := fun i hi => by rw [hA]; exact E_low hi
 have hAz : ∀ i k, s.top ≤ i → i < s.rows.length → k < c → E A i k = 0 := fun i k h1 h2 h3 => by rw [hA]; exact jns_zero hr ht (fun j g1 g2 => h.zero j k g1 g2 h3) _ (by omega) i h1 h2
 have hAd : ∀ i, s.top < i → i < s.rows.length → E A i c = 0 := fun i h1 h2 => by rw [hA]; exact jns_done hr ht _ (by omega) i h1 (by omega)
 have he : hcol s c = if E A s.top c = 0 then ⟨A, s.top⟩ else ⟨rds (hsg A s.top c) s.top c s.top, s.top + 1⟩ := by rw [hA]; rfl
 rw [he]
 by_cases h0 : E A s.top c = 0
 ·rw [if_pos h0]
  refine ⟨P, fun i hi => Nat.lt_succ_of_lt (h.plt i hi), h.pup, fun i k hi hk => ?_, fun i hi => ?_, fun i k h1 h2 h3 => ?_, fun i r h1 h2 => ?_⟩
  ·show E A i k = 0; rw [hAlow i hi]; exact h.lead i k hi hk
  ·show 0 < E A i (P i); rw [hAlow i hi]; exact h.pos i hi
  ·show E A i k = 0
   rcases Nat.lt_or_ge k c with h4 | h4
   ·exact hAz i k h1 h2 h4
   ·obtain rfl : k = c := by omega
    rcases Nat.lt_or_ge s.top i with h5 | h5
    ·exact hAd i h5 h2
    ·have h6 : s.top ≤ i := h1
     rw [show i = s.top by omega]; exact h0
  ·show 0 ≤ E A r (P i) ∧ E A r (P i) < E A i (P i)
   have h2' : i < s.top := h2
   rw [hAlow i h2, hAlow r (by omega)]; exact h.red i r h1 h2
 ·rw [if_neg h0]
  obtain ⟨B, hB⟩ : ∃ B, B = hsg A s.top c := ⟨_, rfl⟩
  have hBat : ∀ i k, E B i k = if i = s.top ∧ E A s.top c < 0 then -(E A s.top k) else E A i k := by rw [hB]; exact hsg_at (by omega)
  have hBl : B.length = s.rows.length := by rw [hB, vU, hAl]
  have hBr : ∀ r ∈ B, r.length = W := by rw [hB]; exact bf hAr (by omega)
  have hBc : 0 < E B s.top c := by
   rw [hBat]
   by_cases h1 : E A s.top c < 0
   ·rw [if_pos ⟨rfl, h1⟩]; omega
   ·rw [if_neg fun h2 => h1 h2.2]; omega
  have hBlow : ∀ i k, i ≠ s.top → E B i k = E A i k := fun i k hi => by rw [hBat, if_neg fun h2 => hi h2.1]
  have hBz : ∀ k, k < c → E B s.top k = 0 := fun k hk => by
   rw [hBat]
   have := hAz s.top k (Nat.le_refl _) ht hk
   split <;> omega
  rw [← hB]
  have hDat := rds_at (col := c) hBr (show s.top < B.length by omega) s.top (Nat.le_refl _)
  obtain ⟨D, hD⟩ : ∃ D, D = rds B s.top c s.top := ⟨_, rfl⟩
  rw [← hD] at hDat ⊢
  have hDlow : ∀ i k, i < s.top → k < c → E D i k = E s.rows i k := fun i k hi hk => by
   rw [hDat, if_pos hi, hBz k hk, Int.mul_zero, Int.sub_zero, hBlow i k (by omega), hAlow i hi]
  refine ⟨fun i => if i = s.top then c else P i, fun i hi => ?_, fun i j h1 h2 => ?_, fun i k hi hk => ?_, fun i hi => ?_, fun i k h1 h2 h3 => ?_, fun i r h1 h2 => ?_⟩
  ·have hi' : i < s.top + 1 := hi
   show (if i = s.top then c else P i) < c + 1
   split
   ·omega
   ·have := h.plt i (by omega); omega
  ·have h2' : j < s.top + 1 := h2
   show (if i = s.top then c else P i) < if j = s.top then c else P j
   rw [if_neg (show ¬ i = s.top by omega)]
   split
   ·exact h.plt i (by omega)
   ·exact h.pup i j h1 (by omega)
  ·have hi' : i < s.top + 1 := hi
   show E D i k = 0
   by_cases e : i = s.top
   ·simp only [if_pos e] at hk
    subst e
    rw [hDat, if_neg (by omega)]; exact hBz k hk
   ·simp only [if_neg e] at hk
    have := h.plt i (by omega)
    rw [hDlow i k (by omega) (by omega)]; exact h.lead i k (by omega) hk
  ·have hi' : i < s.top + 1 := hi
   show 0 < E D i (if i = s.top then c else P i)
   by_cases e : i = s.top
   ·rw [if_pos e, e, hDat, if_neg (by omega)]; exact hBc
   ·rw [if_neg e, hDlow i _ (by omega) (h.plt i (by omega))]; exact h.pos i (by omega)
  ·have h1' : s.top + 1 ≤ i := h1
   show E D i k = 0
   rw [hDat, if_neg (by omega), hBlow i k (by omega)]
   rcases Nat.lt_or_ge k c with h4 | h4
   ·exact hAz i k (by omega) h2 h4
   ·obtain rfl : k = c := by omega
    exact hAd i (by omega) h2
  ·have h2' : i < s.top + 1 := h2
   show 0 ≤ E D r (if i = s.top then c else P i) ∧ E D r (if i = s.top then c else P i) < E D i (if i = s.top then c else P i)
   by_cases e : i = s.top
   ·rw [if_pos e, e, hDat r, if_pos (by omega), hDat s.top, if_neg (by omega)]
    have e1 := Int.emod_nonneg (E B r c) (show E B s.top c ≠ 0 by omega)
    have e2 := Int.emod_lt_of_pos (E B r c) hBc
    have e3 := Int.emod_add_mul_ediv (E B r c) (E B s.top c)
    rw [Int.mul_comm] at e3
    omega
   ·have := h.plt i (by omega)
    rw [if_neg e, hDlow i _ (by omega) this, hDlow r _ (by omega) this]
    exact h.red i r h1 (by omega)
theorem HI.start (R : Nat) (rows : List (List Int)) : HI R ⟨rows, 0⟩ (fun _ => 0) 0 where
 plt i h := absurd h (Nat.not_lt_zero _)
 pup i j _ h := absurd h (Nat.not_lt_zero _)
 lead i k h := absurd h (Nat.not_lt_zero _)
 pos i h := absurd h (Nat.not_lt_zero _)
 zero i k _ _ h := absurd h (Nat.not_lt_zero _)
 red i r _ h := absurd h (Nat.not_lt_zero _)
theorem HI.wait {R : Nat} {s : HS} {P : Nat → Nat} {c : Nat} (h : HI R s P c) (ht : R ≤ s.top) : HI R s P (c + 1) where
 plt i hi := Nat.lt_succ_of_lt (h.plt i hi)
 pup := h.pup
 lead := h.lead
 pos := h.pos
 zero i k h1 h2 _ := absurd h2 (by omega)
 red := h.red
theorem hred_HI {R W K : Nat} {rows : List (List Int)} (h : HOk R W K ⟨rows, 0⟩) : ∀ c, ∃ P, HI R (hred ⟨rows, 0⟩ c) P c
  | 0 => ⟨_, HI.start R rows⟩
  | c + 1 => by
    obtain ⟨P, hP⟩ := hred_HI h c
    have ho := vw h c
    show ∃ P, HI R (if (hred ⟨rows, 0⟩ c).top < (hred ⟨rows, 0⟩ c).rows.length then hcol (hred ⟨rows, 0⟩ c) c else hred ⟨rows, 0⟩ c) P (c + 1)
    split
    · rename_i ht
      exact hP.step ho.len ho.row (by rw [ho.len] at ht; exact ht)
    · rename_i ht
      exact ⟨P, hP.wait (by rw [ho.len] at ht; omega)⟩
theorem HI.form {R C : Nat} {s : HS} {P : Nat → Nat} (h : HI R s P C) : HermF R C (E s.rows) := by
 have hfc : ∀ i, i < R → (i < s.top → fc C (E s.rows i) = P i) ∧ (s.top ≤ i → fc C (E s.rows i) = C) := fun i hi => by
  refine ⟨fun h1 => fc_at (h.plt i h1) (fun k hk => h.lead i k h1 hk) (by have := h.pos i h1; omega), fun h1 => fc_all fun k hk => h.zero i k h1 hi hk⟩
 intro i hi hc
 have hit : i < s.top := by
  rcases Nat.lt_or_ge i s.top with h1 | h1
  ·exact h1
  ·have := (hfc i hi).2 h1; omega
 rw [(hfc i hi).1 hit]
 refine ⟨fun h0 => by rw [(hfc (i - 1) (by omega)).1 (by omega)]; exact h.pup _ _ (by omega) hit, h.pos i hit, fun r hr => h.red i r hr hit⟩
/-! ### all of it -/
theorem row0_E {C R : Nat} {L : List Int} {i : Nat} (hi : i < R) (k : Nat) : E (qH C R L R) i k = if k < C + R then (if k < C then cf L (i * C + k) else if k = C + i then 1 else 0) else 0 := by
 have h : (qH C R L R)[i]? = some (row0 C R L i) := by unfold qH; rw [List.getElem?_map, List.getElem?_range hi]; rfl
 rw [E_of h]
 unfold row0
 rw [xF]
def hF (R C : Nat) (L : List Int) : MatF := fun i k => E (hrm R C L).rows i k
def uF (R C : Nat) (L : List Int) : MatF := fun i j => E (hrm R C L).rows i (C + j)
theorem hrm_form {R C K : Nat} {L : List Int} (h : Bd L K) : HermF R C (hF R C L) := by
 obtain ⟨P, hP⟩ := hred_HI (vJ (R := R) (C := C) h) C
 exact hP.form
theorem hrm_all {R C K : Nat} {L : List Int} (h : Bd L K) : Eqv R R (C + R) (E (qH C R L R)) (E (hrm R C L).rows) := hred_eqv (vJ h) C
theorem hrm_eqv {R C K : Nat} {L : List Int} (h : Bd L K) : Eqv R R C (mf C L) (hF R C L) := by
 refine Eqv.trans (Eqv.of_eq fun i k hi hk => ?_) ((hrm_all h).mono (Nat.le_add_right _ _))
 rw [row0_E hi, if_pos (by omega), if_pos hk]; rfl
end Go.Hp
namespace Go.Hp
open Go.Dt Go.Hn Go.Pz Go.Nt Go.Mz Go.En
def hL (R C : Nat) (L : List Int) : List Int := qh 0 C (hrm R C L).rows
def uL (R C : Nat) (L : List Int) : List Int := qh C (C + R) (hrm R C L).rows
theorem hrm_ok {R C K : Nat} {L : List Int} (h : Bd L K) : HOk R (C + R) ((K + 4) * (R + 2) ^ C - 3) (hrm R C L) := vw (vJ h) C
theorem hL_tab {R C K : Nat} {L : List Int} (h : Bd L K) : hL R C L = tab (R * C) C (hF R C L) := by
 have ho := hrm_ok (R := R) (C := C) h
 unfold hL
 rw [eL (Nat.zero_le _) (Nat.le_add_right C R) ho.row, ho.len]
 show tab (R * C) C _ = _
 refine congrArg _ ?_
 funext i k
 rw [Nat.zero_add]; rfl
theorem uL_tab {R C K : Nat} {L : List Int} (h : Bd L K) : uL R C L = tab (R * R) R (uF R C L) := by
 have ho := hrm_ok (R := R) (C := C) h
 unfold uL
 rw [eL (Nat.le_add_right C R) (Nat.le_refl _) ho.row, ho.len, Nat.add_sub_cancel_left]
 rfl
theorem hL_len {R C K : Nat} {L : List Int} (h : Bd L K) : (hL R C L).length = R * C := by rw [hL_tab h, xG]
theorem uL_len {R C K : Nat} {L : List Int} (h : Bd L K) : (uL R C L).length = R * R := by rw [uL_tab h, xG]
theorem E_bd {rs : List (List Int)} {K : Nat} (h : ∀ r ∈ rs, Bd r K) (i k : Nat) : (List.length (zA (E rs i k).natAbs)) ≤ K := vW h i k
theorem uL_bd {R C K : Nat} {L : List Int} (h : Bd L K) : Bd (uL R C L) ((K + 4) * (R + 2) ^ C) := by
 rw [uL_tab h]
 exact (ju fun i k => E_bd (hrm_ok (R := R) (C := C) h).bd i (C + k)).mono (Nat.sub_le _ _)
theorem hL_at {R C K i k : Nat} {L : List Int} (h : Bd L K) (hi : i < R) (hk : k < C) : mf C (hL R C L) i k = hF R C L i k := by
 show cf _ (i * C + k) = _
 rw [hL_tab h, wh _ hk (qG hi hk)]
theorem hL_form {R C K : Nat} {L : List Int} (h : Bd L K) : HermF R C (mf C (hL R C L)) := (hrm_form h).congr fun i k hi hk => hL_at h hi hk
theorem hL_eqv {R C K : Nat} {L : List Int} (h : Bd L K) : Eqv R R C (mf C L) (mf C (hL R C L)) := (hrm_eqv h).trans (Eqv.of_eq fun i k hi hk => (hL_at h hi hk).symm)
theorem place_of {R C j : Nat} (h : j < R * C) : ∃ i k, i < R ∧ k < C ∧ j = i * C + k := by
 have hC : 0 < C := by
  rcases Nat.eq_zero_or_pos C with h0 | h0
  ·subst h0; rw [Nat.mul_zero] at h; omega
  ·exact h0
 have h1 := Nat.div_add_mod j C
 rw [Nat.mul_comm] at h1
 exact ⟨j / C, j % C, Nat.div_lt_of_lt_mul (by rwa [Nat.mul_comm]), Nat.mod_lt _ hC, by omega⟩
theorem HermF.snoc {n C : Nat} {A : MatF} (h : HermF n C A) (h2 : fc C (A n) < C → (0 < n → fc C (A (n - 1)) < fc C (A n)) ∧ 0 < A n (fc C (A n)) ∧ ∀ r, r < n → 0 ≤ A r (fc C (A n)) ∧ A r (fc C (A n)) < A n (fc C (A n))) : HermF (n + 1) C A := fun i hi hc => by
 rcases Nat.lt_or_ge i n with h1 | h1
 ·exact h i h1 hc
 ·obtain rfl : i = n := by omega
  exact h2 hc
end Go.Hp
namespace Go.Hp
open Go.Dt Go.Hn Go.Pz Go.Nt Go.Mz Go.En
def fir (C : Nat) (f : Nat → Int) : Int := if fc C f < C then ((fc C f : Nat) : Int) else -1
theorem fir_at {C i : Nat} {f : Nat → Int} (hi : i < C) (h0 : ∀ j, j < i → f j = 0) (h : f i ≠ 0) : fir C f = (i : Int) := by
 have := fc_at hi h0 h
 unfold fir
 rw [this, if_pos hi]
theorem fir_all {C : Nat} {f : Nat → Int} (h : ∀ j, j < C → f j = 0) : fir C f = -1 := by
 unfold fir
 rw [fc_all h, if_neg (Nat.lt_irrefl _)]
theorem fir_congr {C : Nat} {f g : Nat → Int} (h : ∀ k, k < C → f k = g k) : fir C f = fir C g := by unfold fir; rw [fc_congr h]
theorem fir_lt {C : Nat} {f : Nat → Int} (h : 0 ≤ fir C f) : fc C f < C := by
 unfold fir at h
 split at h
 ·assumption
 ·omega
theorem fir_no {C : Nat} {f : Nat → Int} (h : fir C f < 0) : ¬ fc C f < C := fun h2 => by
 unfold fir at h
 rw [if_pos h2] at h; omega
theorem vals_drop (xs : List (Bool × List Nat)) (n : Nat) : vals (xs.drop n) = (vals xs).drop n := List.map_drop
theorem dl (xs : List (Bool × List Nat)) (n : Nat) : vals (xs.take n) = (vals xs).take n := List.map_take
theorem bH {xs : List (Bool × List Nat)} {a b k : Nat} (h : a + k < b) : cf (vals ((xs.take b).drop a)) k = cf (vals xs) (a + k) := by
 rw [vals_drop, dl]
 unfold cf
 rw [List.getD, List.getElem?_drop, List.getElem?_take_of_lt h]; rfl
def pivL (C : Nat) (A : MatF) : Nat → List Nat
 | 0 => []
 | n + 1 => if fc C (A n) < C then pivL C A n ++ [fc C (A n)] else pivL C A n
theorem cY {C n : Nat} {A : MatF} (h : fc C (A n) < C) : pivL C A (n + 1) = pivL C A n ++ [fc C (A n)] := if_pos h
theorem ez {C n : Nat} {A : MatF} (h : ¬ fc C (A n) < C) : pivL C A (n + 1) = pivL C A n := if_neg h
theorem pivL_len (C : Nat) (A : MatF) : ∀ n, (pivL C A n).length ≤ n
  | 0 => Nat.le_refl _
  | n + 1 => by
    have := pivL_len C A n
    by_cases h : fc C (A n) < C
    · rw [cY h, List.length_append]; show _ + 1 ≤ _; omega
    · rw [ez h]; omega
theorem pv_app (l : List Nat) (n : Nat) : pv (l ++ [n]) = pv l ++ [(n : Int)] := by unfold pv; rw [List.map_append]; rfl
theorem dC {a b : List Int} (hl : a.length = b.length) (h : ∀ j, j < a.length → cf a j = cf b j) : a = b := by
 refine List.ext_getElem? fun j => ?_
 rcases Nat.lt_or_ge j a.length with h1 | h1
 ·rw [vl h1, vl (by omega), h j h1]
 ·rw [List.getElem?_eq_none h1, List.getElem?_eq_none (by omega)]
end Go.Hp
namespace Go.Hp
open Go.Dt Go.Hn Go.Pz Go.Nt Go.Mz Go.En
def rowL (C : Nat) (L : List Int) (i : Nat) : List Int := (List.range C).map fun k => cf L (i * C + k)
theorem rowL_len (C : Nat) (L : List Int) (i : Nat) : (rowL C L i).length = C := by unfold rowL; rw [List.length_map, List.length_range]
theorem cf_rowL {C i k : Nat} {L : List Int} (h : k < C) : cf (rowL C L i) k = mf C L i k := by unfold rowL; rw [xF, if_pos h]; rfl
theorem rowL_of {C i : Nat} {xs : List (Bool × List Nat)} (h : (i + 1) * C ≤ xs.length) : vals ((xs.take ((i + 1) * C)).drop (i * C)) = rowL C (vals xs) i := by
 have h2 : (i + 1) * C = i * C + C := Nat.succ_mul _ _
 have hl : (vals ((xs.take ((i + 1) * C)).drop (i * C))).length = C := by rw [qJ, List.length_drop, List.length_take]; omega
 refine dC (by rw [hl, rowL_len]) fun j hj => ?_
 rw [hl] at hj
 rw [bH (by omega), cf_rowL hj]; rfl
theorem HermF.sub {R C n : Nat} {A : MatF} (h : HermF R C A) (hn : n ≤ R) : HermF n C A := fun i hi hc => h i (by omega) hc
/-! ### rows within others -/
def stkL (R R' C : Nat) (L L' : List Int) : List Int := tab ((R + R') * C) C fun i k => if i < R then cf L (i * C + k) else cf L' ((i - R) * C + k)
end Go.Hp
namespace Go.Hp
open Go.Dt Go.Hn Go.Pz Go.Nt Go.Mz Go.En
end Go.Hp
namespace Go.Hp
open Go.Dt Go.Hn Go.Pz Go.Nt Go.Mz Go.En
theorem eF {rs : List (List Int)} {t col W : Nat} (hrow : ∀ r ∈ rs, r.length = W) (ht : t < rs.length) : ∀ n, t + 1 + n ≤ rs.length → E (jns rs t col n) t col = 0 → jns rs t col n = rs
  | 0, _, _ => rfl
  | n + 1, hn, h0 => by
    have hl := qj rs t col n
    have hr := xl hrow ht (col := col) n
    have e1 : ((jns rs t col n).getD (t + 1 + n) []).length = ((jns rs t col n).getD t []).length := (qe hr (by omega)).trans (qe hr (by omega)).symm
    have ih := eF hrow ht (col := col) n (by omega)
    revert h0
    show E (jn _ _ _ _) t col = 0 → jn _ _ _ _ = rs
    unfold jn
    split
    · exact ih
    · rename_i hg
      intro h0
      rw [jw (by rw [List.length_set]; omega), jw (by omega), if_neg (by omega), if_pos rfl, vP e1, dh] at h0
      exact absurd h0 hg
def hq (R K : Nat) : Nat → Nat
 | 0 => K
 | t + 1 => hq R K t * (R + 1 - t)
theorem hq_mono {R K t u : Nat} (h : t ≤ u) (hu : u ≤ R) : hq R K t ≤ hq R K u := by
  induction u with
  | zero => rw [show t = 0 by omega]; exact Nat.le_refl _
  | succ u ih =>
    rcases Nat.lt_or_ge u t with g | g
    · rw [show t = u + 1 by omega]; exact Nat.le_refl _
    · exact Nat.le_trans (ih g (by omega)) (Nat.le_mul_of_pos_right _ (by omega))
theorem hq_pow {R K : Nat} : ∀ t, hq R K t ≤ K * (R + 2) ^ t
  | 0 => by rw [Nat.pow_zero, Nat.mul_one]; exact Nat.le_refl _
  | t + 1 => by
    rw [Nat.pow_succ, ← Nat.mul_assoc]
    exact Nat.mul_le_mul (hq_pow t) (by omega)
theorem hcol_bd2 {s : HS} {K W : Nat} (col : Nat) (hr : ∀ r ∈ s.rows, r.length = W) (ht : s.top < s.rows.length) (h : ∀ r ∈ s.rows, Bd r K) :
  ((hcol s col).top = s.top ∧ ∀ r ∈ (hcol s col).rows, Bd r K) ∨ ((hcol s col).top = s.top + 1 ∧ ∀ r ∈ (hcol s col).rows, Bd r ((K + 3) * (s.rows.length + 1 - s.top) - 3)) := by
 have hj := ck (t := s.top) (col := col) h (s.rows.length - (s.top + 1))
 unfold hcol hjs
 split
 ·rename_i h0
  refine .inl ⟨rfl, ?_⟩
  have e := eF hr ht (col := col) (s.rows.length - (s.top + 1)) (by omega) h0
  show ∀ r ∈ jns s.rows s.top col (s.rows.length - (s.top + 1)), Bd r K
  rw [e]; exact h
 ·rename_i h0
  refine .inr ⟨rfl, ?_⟩
  have hg := hsg_bd (t := s.top) (col := col) hj
  have htj : s.top < (jns s.rows s.top col (s.rows.length - (s.top + 1))).length := by rw [qj]; exact ht
  have hpos := hsg_pos (rs := jns s.rows s.top col (s.rows.length - (s.top + 1))) (t := s.top) (col := col) (List.getElem?_eq_getElem htj) (by rwa [List.getD, List.getElem?_eq_getElem htj] at h0)
  have hlow : ∀ i, i < s.top → Bd ((hsg (jns s.rows s.top col (s.rows.length - (s.top + 1))) s.top col).getD i []) K := fun i hi => by
   have e : (hsg (jns s.rows s.top col (s.rows.length - (s.top + 1))) s.top col).getD i [] = s.rows.getD i [] := by
    unfold hsg
    split
    ·rw [List.getD, List.getElem?_set_ne (by omega), jk hi]; rfl
    ·rw [List.getD, jk hi]; rfl
   rw [e]; exact vW h i
  have em : (K + 3) * (s.rows.length + 1 - s.top) = (s.rows.length - (s.top + 1)) * (K + 3) + 2 * (K + 3) := by
   rw [show s.rows.length + 1 - s.top = (s.rows.length - (s.top + 1)) + 2 by omega, Nat.mul_add, Nat.mul_comm (K + 3), Nat.mul_comm (K + 3)]
  exact fun r hr => (rds_bd hpos (vW hg _) hlow hg (by omega) s.top (Nat.le_refl _) r hr).mono (by omega)
theorem hq_ge {R K t : Nat} (h : t ≤ R) : K ≤ hq R K t := hq_mono (R := R) (K := K) (Nat.zero_le t) h
theorem hred_hq {R W K : Nat} {s : HS} (h : HOk R W K s) (h0 : s.top = 0) : ∀ c, ∀ r ∈ (hred s c).rows, Bd r (hq R (K + 3) (hred s c).top - 3)
  | 0 => fun r hr => (h.bd r hr).mono (by show K ≤ hq R (K + 3) s.top - 3; rw [h0]; show K ≤ K + 3 - 3; omega)
  | c + 1 => by
    have ih := hred_hq h h0 c
    have ho := vw h c
    have hg := hq_ge (K := K + 3) ho.top
    show ∀ r ∈ (if (hred s c).top < (hred s c).rows.length then hcol (hred s c) c else hred s c).rows, Bd r (hq R (K + 3) (if (hred s c).top < (hred s c).rows.length then hcol (hred s c) c else hred s c).top - 3)
    split
    · rename_i ht
      rcases hcol_bd2 c ho.row ht ih with ⟨e, hb⟩ | ⟨e, hb⟩
      · rw [e]; exact hb
      · rw [e]
        show ∀ r ∈ _, Bd r (hq R (K + 3) (hred s c).top * (R + 1 - (hred s c).top) - 3)
        rw [ho.len, show hq R (K + 3) (hred s c).top - 3 + 3 = hq R (K + 3) (hred s c).top by omega] at hb
        exact hb
    · exact ih
theorem hred_top {R W K : Nat} {s : HS} (h : HOk R W K s) : ∀ c, (hred s c).top ≤ (hred s (c + 1)).top ∧ (hred s (c + 1)).top ≤ (hred s c).top + 1 := fun c => by
 have ho := vw h c
 show _ ≤ (if (hred s c).top < (hred s c).rows.length then hcol (hred s c) c else hred s c).top ∧ (if (hred s c).top < (hred s c).rows.length then hcol (hred s c) c else hred s c).top ≤ _
 split
 ·rename_i ht
  rcases hcol_bd2 c ho.row ht ho.bd with ⟨e, _⟩ | ⟨e, _⟩ <;> rw [e] <;> omega
 ·omega
theorem hred_mono {R W K : Nat} {s : HS} (h : HOk R W K s) {c C : Nat} (hc : c ≤ C) : (hred s c).top ≤ (hred s C).top := by
  induction C with
  | zero => rw [show c = 0 by omega]; exact Nat.le_refl _
  | succ C ih =>
    rcases Nat.lt_or_ge C c with g | g
    · rw [show c = C + 1 by omega]; exact Nat.le_refl _
    · exact Nat.le_trans (ih g) (hred_top h C).1
theorem hred_le {R W K : Nat} {s : HS} (h : HOk R W K s) : ∀ c, (hred s c).top ≤ s.top + c
 | 0 => Nat.le_refl _
 | c + 1 => by have := hred_le h c; have := (hred_top h c).2; omega
def hrk (R C : Nat) (L : List Int) : Nat := (hrm R C L).top
theorem hrk_leC {R C K : Nat} {L : List Int} (h : Bd L K) : hrk R C L ≤ C := by
 have := hred_le (vJ (R := R) (C := C) h) C
 show (hred _ C).top ≤ C
 exact Nat.le_trans this (by show 0 + C ≤ C; omega)
theorem hq_ask {R C K : Nat} {L : List Int} (h : Bd L K) (hR : R ≤ 64) (hK : (K + 4) * (R + 2) ^ C ≤ 1000000) : hq R (K + 4) (hrk R C L) * (R + 2) ≤ 80000000 := by
 have h1 := hq_pow (R := R) (K := K + 4) (hrk R C L)
 have h2 := Nat.mul_le_mul_left (K + 4) (Nat.pow_le_pow_right (show 0 < R + 2 by omega) (hrk_leC (R := R) (C := C) h))
 have h3 : hq R (K + 4) (hrk R C L) * (R + 2) ≤ 1000000 * 66 := Nat.mul_le_mul (Nat.le_trans h1 (Nat.le_trans h2 hK)) (by omega)
 omega
end Go.Hp
namespace Go.Hp
open Go.Dt Go.Hn Go.Pz Go.Nt Go.Mz Go.En
def gmF (C : Nat) (L : List Int) : Nat → Nat → Int := fun i k => dotS (fun j => cf L (i * C + j)) (fun j => cf L (k * C + j)) C
def gmL (R C : Nat) (L : List Int) : List Int := tab (R * R) R (gmF C L)
theorem tab_eq {R C : Nat} {f g : Nat → Nat → Int} (h : ∀ i k, i < R → k < C → f i k = g i k) : tab (R * C) C f = tab (R * C) C g := by
 refine dC (by rw [xG, xG]) fun j hj => ?_
 rw [xG] at hj
 obtain ⟨i, k, hi, hk, rfl⟩ := place_of hj
 rw [wh _ hk hj, wh _ hk hj, h i k hi hk]
theorem gm_mul {R C : Nat} {A B : List Int} (h : ∀ j k, j < C → k < R → cf B (j * R + k) = cf A (k * C + j)) : (tab (R * R) R fun i k => dotS (fun j => cf A (i * C + j)) (fun j => cf B (j * R + k)) C) = gmL R C A :=
 tab_eq fun i k _ hk => dE C (fun _ _ => rfl) fun j hj => h j k hj hk
theorem gm_tab {R C : Nat} (A : List Int) : ∀ j k, j < C → k < R → cf (tab (C * R) R fun i k => cf A (k * C + i)) (j * R + k) = cf A (k * C + j) := fun j k hj hk => wh _ hk (qG hj hk)
theorem aZ {C i k : Nat} (g : Nat → Nat → Bool × List Nat) (hk : k < C) : tabR (i * C + k) C g ++ [g i k] = tabR (i * C + (k + 1)) C g := by
 unfold tabR
 rw [← Nat.add_assoc, List.range_succ, List.map_append, List.map_singleton, (jo hk).1, (jo hk).2]
theorem hL11 : hL 2 1 [1, 1] = [1, 0] := by
 have hb : Bd [1, 1] 1 := bd64 (by decide)
 have hf := hL_form (R := 2) (C := 1) hb
 have he := hL_eqv (R := 2) (C := 1) hb
 have hl : (hL 2 1 [1, 1]).length = 2 := hL_len hb
 have a0 : mf 1 (hL 2 1 [1, 1]) 0 0 = cf (hL 2 1 [1, 1]) 0 := rfl
 have a1 : mf 1 (hL 2 1 [1, 1]) 1 0 = cf (hL 2 1 [1, 1]) 1 := rfl
 obtain ⟨A, hA⟩ : ∃ A, A = mf 1 (hL 2 1 [1, 1]) := ⟨_, rfl⟩
 rw [← hA] at hf he a0 a1
 obtain ⟨c0, h0⟩ := he.1 0 (by decide)
 obtain ⟨d0, g0⟩ := he.2 0 (by decide)
 have h0 := h0 0 (by decide)
 have g0 := g0 0 (by decide)
 have e0 : mf 1 [1, 1] 0 0 = 1 := rfl
 have e1 : mf 1 [1, 1] 1 0 = 1 := rfl
 have s2 : ∀ f : Nat → Int, sm 2 f = f 0 + f 1 := fun f => by show 0 + f 0 + f 1 = _; omega
 rw [s2] at h0 g0
 rw [e0] at h0
 rw [e0, e1] at g0
 have h10 : A 1 0 = 0 := by
  refine Classical.byContradiction fun hne => ?_
  have hfc : fc 1 (A 1) = 0 := fc_at (by decide) (fun k hk => absurd hk (Nat.not_lt_zero _)) hne
  have := (hf 1 (by decide) (by rw [hfc]; decide)).1 (by decide)
  omega
 have hpos : 0 ≤ A 0 0 := by
  by_cases hne : A 0 0 = 0
  ·omega
  ·have hfc : fc 1 (A 0) = 0 := fc_at (by decide) (fun k hk => absurd hk (Nat.not_lt_zero _)) hne
   have := (hf 0 (by decide) (by rw [hfc]; decide)).2.1
   rw [hfc] at this; omega
 have h00 : A 0 0 = 1 := by
  rw [h10] at h0
  generalize A 0 0 = x at *
  have hx2 : x ∣ 1 := ⟨c0 0, by grind⟩
  have := Int.le_of_dvd (by decide) hx2
  have hx0 : x ≠ 0 := fun e => by subst e; omega
  omega
 refine dC hl fun j hj => ?_
 rw [hl] at hj
 rcases (show j = 0 ∨ j = 1 by omega) with rfl | rfl
 ·rw [← a0, h00]; rfl
 ·rw [← a1, h10]; rfl
theorem gm11_p : pv (pivL 1 (mf 1 [1, 0]) 2) = [0] := by decide
theorem gm11_b : Bd [1, 1] 1 := bd64 (by decide)
def gm11U : List Int := stkL 1 1 2 (tab ((2 - 1) * 2) 2 fun i k => cf (uL 2 1 [1, 1]) ((1 + i) * 2 + k)) (tab (1 * 2) 2 fun i k => dotS (fun j => cf [1] (i * 1 + j)) (fun j => cf (tab ((1 - 0) * 2) 2 fun i k => cf (uL 2 1 [1, 1]) ((0 + i) * 2 + k)) (j * 2 + k)) 1)
theorem gm11_t : tab (2 * 1) 1 (fun i k => cf [1, 1] (i * 1 + k)) = [1, 1] := by decide
end Go.Hp
namespace Go.Proofs.YthmhlblaleahpaaGreat
open Go.En Go.RowKit
set_option maxRecDepth 10000
set_option maxHeartbeats 4000000
open Go.Nt
open Go.Pz
open Go.Mz
open Go.Hn
theorem hnf_begun {R C K : Nat} {xs : List (Bool × List Nat)} (hx : Bd (vals xs) K) (hK : K ≤ 4000000000) (hR : R ≤ 64) (hC : C ≤ 64) (hl : xs.length = R * C) : CtrX Tryz.prog 69 [isM (R : Int) (C : Int) xs] ([]) (fun S M => ∃ bw gt, S = qM bw 0 ∧ M = hwM bw gt (qH C R (vals xs) R) C 0) := by
 refine CtrX.intro Tryz.func69 rfl (by kernel_rfl) Tryz.ntmps69 rfl fun w0 F0 => .cv (Cv.wk (.l [0] rfl)) (.seq fun _ k1 => .region (.box (.t rfl) rfl fun b1 => st (.as Has.cP) rfl (nl (.thn (k1 _ _ (.seq fun _ k2 => .region (st (.fieldAddr (.t rfl) zS ty3) rfl (st (.load1 (.t rfl) (i := 0) rfl ty3 rfl) rfl (st (.build [nilS, isI 0, isI 0] pl102 zero102 (fun _ _ => ⟨rfl, ⟨rfl, by decide, by decide⟩, ⟨rfl, by decide, by decide⟩, trivial⟩) (.cons (.t rfl) rfl rfl rfl .nil) (Z'' := [_, _, _]) rfl) rfl (.box (.t rfl) rfl fun b2 => st (.as (.t rfl)) rfl (nl (.thn (k2 _ _ (.cv (Cv.wk (.l [1, 2, 3] rfl)) (.seq fun _ k3 => .seq fun _ k4 => .cv (Cv.growF (List Int) (i := 0) (o := 0) rfl rfl rfl) (.memEq (M' := [grM isP Gr.nil [], _, _]) rfl (.region (st (.fieldAddr (.t rfl) zT ty3) rfl (st (.load1 (.t rfl) (i := 2) rfl ty3 rfl) rfl (st (.mv (.cI 0 rfl)) rfl (nl (.thn (k4 _ _ (.block (.loopF [1, 2, 3, 12] (fun (z : { z : Nat × Gr (List Int) // z.1 ≤ R }) => match z with | ⟨(i, gt), hI⟩ => [(13, isI (i : Int))]) (fun M => fun (z : { z : Nat × Gr (List Int) // z.1 ≤ R }) => match z with | ⟨(i, gt), hI⟩ => (grM isP gt (qH C R (vals xs) i) :: (some b2, zB [isGr gt (qH C R (vals xs) i).length, isI (C : Int), isI 0]) :: (some b1, zB [isI (R : Int), isI (C : Int), SlK 2 zc xs]) :: [])) (fun (z : { z : Nat × Gr (List Int) // z.1 ≤ R }) => match z with | ⟨(i, gt), hI⟩ => R - i) (⟨(0, Gr.nil), Nat.zero_le _⟩) (Cv.mem (.c 13 rfl ?_ (.l [1, 2, 3, 12] rfl)) ?_) ?_)))))))))))))))))))))))))
 ·rfl
 ·rfl
 rintro ⟨⟨i, gt⟩, hI⟩ K5 hK5
 refine .cv (Cv.wk (.l [13, 1, 2, 3, 12] rfl)) (.memEq (M' := (grM isP gt (qH C R (vals xs) i) :: (some b2, zB [isGr gt (qH C R (vals xs) i).length, isI (C : Int), isI 0]) :: (some b1, zB [isI (R : Int), isI (C : Int), SlK 2 zc xs]) :: [])) rfl ?_)
 simp only [] at hI
 have hrl := dt C R (vals xs) i
 refine .seq fun _ k6 => .region (st (.ltI (.t rfl) (.t rfl)) rfl (nl (.thn (k6 _ _ (.seq fun _ k7 => .cond (.t rfl) (fun hc1 => ?_) (fun hc1 => ?_))))))
 ·have hc1 := BP.t hc1
  refine .skip (.thn (k7 _ _ (.seq fun _ k8 => .block (.seq fun _ k9 => .region (st (.mv (.t rfl)) rfl (st (.as (.t rfl)) rfl (nl (.thn (k9 _ _ (.seq fun _ k10 => .region (st (.fieldAddr (.t rfl) zS ty3) rfl (st (.load1 (.t rfl) (i := 2) rfl ty3 rfl) rfl (st (.fieldAddr (.t rfl) zT ty3) rfl (st (.load1 (.t rfl) (i := 2) rfl ty3 rfl) rfl (st (.eq (.addI (.t rfl) (.t rfl) (by omega) (by omega)) ((show isI _ = isI ((C + R : Nat) : Int) from zE (by omega)))) rfl (.makeK (fk := zc) (u := (false, [])) (n := (C + R)) (c := (C + R)) sl22 ty41 zG (fun _ _ => ⟨rfl, nilM _ _, trivial⟩) zO by41 (Has.t' rfl rfl) (Has.t' rfl rfl) ⟨by omega, by omega⟩ rfl fun b3 => st (.as (.t rfl)) rfl (nl (.thn (k10 _ _ (.seq fun _ k11 => .seq fun _ k12 => .region (st (.fieldAddr (.t rfl) zS ty3) rfl (st (.load1 (.t rfl) (i := 3) rfl ty3 rfl) rfl (st (.mv (.cI 0 rfl)) rfl (nl (.thn (k12 _ _ (.block (.loopF [1, 2, 3, 12, 13, 14, 15, 4, 16, 17, 18, 19, 20, 21, 5, 22, 23] (fun (z : { k : Nat // k ≤ C }) => match z with | ⟨k, hk⟩ => [(24, isI (k : Int))]) (fun M => fun (z : { k : Nat // k ≤ C }) => match z with | ⟨k, hk⟩ => ((some b3, zB ((fill ((row0 C R (vals xs) i).map nz) k (false, [])).flatMap zc)) :: grM isP gt (qH C R (vals xs) i) :: (some b2, zB [isGr gt (qH C R (vals xs) i).length, isI (C : Int), isI 0]) :: (some b1, zB [isI (R : Int), isI (C : Int), SlK 2 zc xs]) :: [])) (fun (z : { k : Nat // k ≤ C }) => match z with | ⟨k, hk⟩ => C - k) (⟨0, Nat.zero_le _⟩) (Cv.mem (.c 24 rfl ?_ (.l [1, 2, 3, 12, 13, 14, 15, 4, 16, 17, 18, 19, 20, 21, 5, 22, 23] rfl)) ?_) ?_))))))))))))))))))))))))))))
  ·rfl
  ·exact memZ_eq (by rw [eO, List.length_map, wB])
  rintro ⟨k, hk⟩ K13 hK13
  refine .cv (Cv.wk (.l [24, 1, 2, 3, 12, 13, 14, 15, 4, 16, 17, 18, 19, 20, 21, 5, 22, 23] rfl)) (.memEq (M' := ((some b3, zB ((fill ((row0 C R (vals xs) i).map nz) k (false, [])).flatMap zc)) :: grM isP gt (qH C R (vals xs) i) :: (some b2, zB [isGr gt (qH C R (vals xs) i).length, isI (C : Int), isI 0]) :: (some b1, zB [isI (R : Int), isI (C : Int), SlK 2 zc xs]) :: [])) rfl ?_)
  have hf := aQ ((row0 C R (vals xs) i).map nz) k (false, []) (by rw [List.length_map, wB]; omega)
  rw [List.length_map, wB] at hf
  refine .seq fun _ k14 => .region (st (.ltI (.t rfl) (.t rfl)) rfl (nl (.thn (k14 _ _ (.seq fun _ k15 => .cond (.t rfl) (fun hc2 => ?_) (fun hc2 => ?_))))))
  ·have hc2 := BP.t hc2
   refine .skip (.thn (k15 _ _ (.seq fun _ k16 => .block (.seq fun _ k17 => .region (st (.mv (.t rfl)) rfl (st (.as (.t rfl)) rfl (nl (.thn (k17 _ _ (.region (st (.mv (.t rfl)) rfl (st (.mv (.t rfl)) rfl (st (.load (.t rfl) (i := 3) rfl ty24 rfl (Ss' := [_, _, _]) rfl) rfl (st (.mv (.t rfl)) rfl (st (.mv (.t rfl)) rfl (st (.call (bM hx hK hR hC hl (i := i) (k := k) (by omega) (by omega)) (.cons (.t rfl) (.cons (.t rfl) (.cons (.t rfl) .nil)))) rfl (st (.eq (.ixWin sl22 ty41 (.t rfl) (.t rfl) ⟨by omega, by omega⟩) (zX (by exact ixo2))) rfl (.storeK (z := nz (cf (vals xs) (i * C + k))) zO (.t rfl) (.t rfl) (i := 0) rfl ty41 (by simp only [Int.toNat_natCast]; omega) (M' := [(_, _), _, _, _]) rfl ?_))))))))))))))))))
   refine nl (.bln (.thn (k16 _ _ (.region (st (.addI (.t rfl) (.cI 1 rfl) (by omega) (by omega)) rfl (st (.mv (.t rfl)) rfl (nl (.thn (hK13 (⟨k + 1, by omega⟩) _ _ ?_ (Cv.mem (.c 24 rfl ?_ (.l [1, 2, 3, 12, 13, 14, 15, 4, 16, 17, 18, 19, 20, 21, 5, 22, 23] rfl)) ?_))))))))))
   ·show C - (k + 1) < C - k; omega
   ·exact zE (by omega)
   ·exact memF_eq (row0_at (by omega))
  ·have hc2 := BP.f hc2
   refine .exit (.the (.the (.blh (.thn (k11 _ _ (.seq fun _ k18 => .dr (.s [] rfl rfl rfl (.o rfl (.mv (.t rfl))) (.s [] rfl rfl rfl (.o rfl (.fieldAddr (.t rfl) zS ty3)) (.s [36] rfl rfl rfl (.o rfl (.load1 (.t rfl) (i := 3) rfl ty3 rfl)) (.s [] rfl rfl rfl (.o rfl (.mv (.t rfl))) (.s [37, 38] rfl rfl rfl (.o rfl (.eq (.addI (.t rfl) (.t rfl) (by omega) (by omega)) ((show isI _ = isI ((C + i : Nat) : Int) from zE (by omega))))) (.s [] rfl rfl rfl (.o rfl (.eq (.call (qi) (.cons (.cI 1 rfl) .nil)) ((show isZ 1 = Flat (zc (nz 1)) from rfl)))) (.fin (n := 6) zR (by kernel_rfl) (by kernel_rfl) (by kernel_rfl) (.cv (Cv.wk (.l [1, 2, 3, 12, 13, 14, 15, 4, 16, 17, 18, 19, 20, 21, 5, 22, 23, 24, 25, 35, 36, 37, 38, 39, 40] rfl)) (st (.eq (.ixWin sl22 ty41 (.t rfl) (.t rfl) ⟨by omega, by omega⟩) (zX (by exact ixo2))) rfl (.storeK (z := nz 1) zO (.t rfl) (.t rfl) (i := 0) rfl ty41 (by simp only [Int.toNat_natCast]; omega) (M' := [(_, _), _, _, _]) rfl ?_))))))))))))))))
   refine nl (.thn (k18 _ _ (.cv (Cv.freezeK (t := 5) (i := 0) (ys := (row0 C R (vals xs) i).map nz) zO rfl rfl rfl (by rw [List.length_set]; omega) (row0_fill (by omega) (by omega) rfl)) ?_)))
   refine .memEq (M' := [_, _, _]) rfl (.cv (Cv.wk (.l [1, 2, 3, 12, 13, 14, 15, 4, 16, 17, 18, 19, 20, 5, 22, 23, 24, 25, 36, 37, 38, 39, 40] rfl)) (.region (st (.mv (.t rfl)) rfl (st (.mv (.t rfl)) rfl (st (.nilc (.t rfl)) rfl (st (.fieldAddr (.t rfl) qQ zw) rfl (st (.load1 (.t rfl) (i := 1) rfl zw rfl) rfl (st (.mv (.t rfl)) rfl (st (.buildS [nilS] qv ty22 aX (fun _ _ => ⟨rfl, trivial⟩) rfl rfl (.cons (.t rfl) rfl rfl rfl .nil) rfl (S := SlM isP [row0 C R (vals xs) i]) rfl) rfl (.appendG (f := isP) (u := ([] : List Int)) qv ty22 aX (fun _ _ => ⟨nilK, trivial⟩) (fun _ => inferInstance) by22 (.t rfl) (i := 0) rfl (.t rfl) (by rw [hrl]; show i + 1 ≤ _; omega) (by simp) rfl fun gr1 => ?_))))))))))
   refine .memEq (M' := [grM _ _ _, _, _]) rfl (st (.nilc (.t rfl)) rfl (st (.fieldAddr (.t rfl) qQ zw) rfl (.store (.t rfl) (.t rfl) (i := 1) rfl zw rfl rfl (Ss' := [_, _, _]) rfl (M' := [_, (some _, zB [_, _, _]), _]) rfl (nl (.bln (.thn (k8 _ _ (.region (st (.addI (.t rfl) (.cI 1 rfl) (by omega) (by omega)) rfl (st (.mv (.t rfl)) rfl (nl (.thn ?_))))))))))))
   refine hK5 (⟨(i + 1, gr1), by show i + 1 ≤ R; omega⟩) _ _ ?_ (Cv.mem (.c 13 rfl ?_ (.l [1, 2, 3, 12] rfl)) ?_)
   ·show R - (i + 1) < R - i; omega
   ·exact zE (by omega)
   ·show _ = ([grM isP gr1 (qH C R (vals xs) (i + 1)), (some b2, zB [isGr gr1 (qH C R (vals xs) (i + 1)).length, isI (C : Int), isI 0]), _] : Mem); rw [← rows0_succ, List.length_append]
 ·have hc1 := BP.f hc1
  refine .exit (.the (.the (.blh (.thn (k3 _ _ (.seq fun _ k19 => .cv (Cv.drop ((.cons_cons _ (.cons_cons _ (.cons _ .slnil))))) (.cv (Cv.wk (.l [2, 3, 12, 13, 14] rfl)) (.cv (Cv.perm (List.Perm.swap _ _ _)) (.region (st (.mv (.t rfl)) rfl (st (.as (.t rfl)) rfl (nl (.thn (k19 _ _ (.cv (Cv.wk (.l [2] rfl)) (.ret (rtX1 (.inl rfl) Tryz.results69 rfl (.tmp (.t rfl) .nil) ?_)))))))))))))))))
  exact ⟨b2, gt, rfl, by obtain rfl : i = R := (by omega); rfl⟩
theorem hnf_join {bw C : Nat} {gt : Gr (List Int)} {rs : List (List Int)} {t i col W P K : Nat} (hrow : ∀ r ∈ rs, r.length = W) (hti : t < i) (hi : i < rs.length) (hc : col < W) (hW : W ≤ 128) (hR : rs.length ≤ 64) (hpB : ∀ r ∈ rs, Bd r P) (hqB : Bd (rs.getD i []) K) (hPK : P + K ≤ 90000000) : CtrX Tryz.prog 99 [qM bw 0, isI (i : Int), isI (col : Int)] (hwM bw gt rs C t) (fun S M => S = zQ [] ∧ M = hwM bw gt (jn rs t i col) C t) := by
 refine CtrX.intro Tryz.func99 rfl (by kernel_rfl) Tryz.ntmps99 rfl fun w0 F0 => .cv (Cv.wk (.l [0, 1, 2] rfl)) (.fact (Has.rngI (Has.t (t := 1) rfl)) fun lt1 => .fact (Has.rngI (Has.t (t := 2) rfl)) fun lt2 => ?_)
 obtain ⟨p, hp⟩ : ∃ p, rs[t]? = some p := ⟨_, List.getElem?_eq_getElem (by omega)⟩
 obtain ⟨q, hq⟩ : ∃ q, rs[i]? = some q := ⟨_, List.getElem?_eq_getElem hi⟩
 have hpl := hrow p (List.mem_of_getElem? hp)
 have hql := hrow q (List.mem_of_getElem? hq)
 rw [qr hq] at hqB
 have hpP := hpB p (List.mem_of_getElem? hp)
 have hpc := hpP col
 have hqc := hqB col
 have hxn := xgx_nw (cf p col) (cf q col) hqc
 have hyn := xgy_nw (cf p col) (cf q col) hpc
 have hgn : (List.length (zA (xgg (cf p col) (cf q col)).natAbs)) ≤ P + K := by
  unfold xgg
  rw [Int.natAbs_natCast]
  refine Nat.le_trans (ze (ct _ _)) ?_
  have := cb (cf p col).natAbs (cf q col).natAbs
  omega
 have hun := vu (cf p col) (xgg (cf p col) (cf q col))
 have hvn := vu (cf q col) (xgg (cf p col) (cf q col))
 refine .seq fun _ k1 => .dr (.s [] rfl rfl rfl (.o rfl (.mv (.t rfl))) (.s [15] rfl rfl rfl (.o rfl (.nilc (.t rfl))) (.s [16] rfl rfl rfl (.o rfl (.fieldAddr (.t rfl) qQ zw)) (.s [17] rfl rfl rfl (.o rfl (.load1 (.t rfl) (i := 0) rfl zw rfl)) (.s [] rfl rfl rfl (.o rfl (.mv (.t rfl))) (.s [19] rfl rfl rfl (.o rfl (.nilc (.t rfl))) (.s [20] rfl rfl rfl (.o rfl (.fieldAddr (.t rfl) qw ty3)) (.s [21] rfl rfl rfl (.o rfl (.load1 (.t rfl) (i := 0) rfl ty3 rfl)) (.s [18, 22] rfl rfl rfl (.o rfl (.ixGr qv ty22 (.t rfl) (.t rfl) ⟨by omega, by omega⟩)) ?_)))))))))
 refine .s [23] rfl rfl rfl (.o rfl (.loadGM (.t rfl) (i := 1) rfl ty22 hp)) (.s [] rfl rfl rfl (.o rfl (.mv (.t rfl))) (.s [25] rfl rfl rfl (.o rfl (.nilc (.t rfl))) (.s [26] rfl rfl rfl (.o rfl (.fieldAddr (.t rfl) qQ zw)) (.s [27] rfl rfl rfl (.o rfl (.load1 (.t rfl) (i := 0) rfl zw rfl)) (.s [] rfl rfl rfl (.o rfl (.mv (.t rfl))) (.s [28, 29] rfl rfl rfl (.o rfl (.ixGr qv ty22 (.t rfl) (.t rfl) ⟨by omega, by omega⟩)) ?_))))))
 refine .s [30] rfl rfl rfl (.o rfl (.loadGM (.t rfl) (i := 1) rfl ty22 hq)) (.s [24] rfl rfl rfl (.o rfl (.as (.t rfl))) (.fin (n := 18) zR (by kernel_rfl) (by kernel_rfl) (by kernel_rfl) (.cv (Cv.wk (.l [0, 1, 2, 31, 6] rfl)) (st (.as (.t rfl)) rfl (nl (.thn (k1 _ _ (.seq fun _ k2 => .drh [true, true] (Ms := [_, _]) rfl (.s [] rfl rfl rfl (.o rfl (.mv (.t rfl))) (.s [] rfl rfl rfl (.o rfl (.mv (.t rfl))) ?_))))))))))
 refine .s [33, 34] rfl rfl rfl (.o rfl (.ixK sl22 ty41 (.t rfl) (.t rfl) zO ⟨by omega, by rw [List.length_map]; omega⟩ (getZ (i := col) (by omega)))) ?_
 refine .s [35] rfl rfl rfl (.o rfl (.loadP (.t rfl) ty41 rfl (Ss' := [_, _]) rfl)) (.s [] rfl rfl rfl (.o rfl (.mv (.t rfl))) (.s [] rfl rfl rfl (.o rfl (.mv (.t rfl))) ?_))
 refine .s [37, 38] rfl rfl rfl (.o rfl (.ixK sl22 ty41 (.t rfl) (.t rfl) zO ⟨by omega, by rw [List.length_map]; omega⟩ (getZ (i := col) (by omega)))) ?_
 refine .s [39] rfl rfl rfl (.o rfl (.loadP (.t rfl) ty41 rfl (Ss' := [_, _]) rfl)) (.s [36, 40] rfl rfl rfl (.o rfl (.eq (.call (zint_XgcdA (by rw [zC]; omega) (by rw [zC]; omega)) (.cons (.t rfl) (.cons (.t rfl) .nil))) ((show _ = zQ [isZ (xgg (cf p col) (cf q col)), isZ (xgx (cf p col) (cf q col)), isZ (xgy (cf p col) (cf q col))] from by simp only [aw, zH])))) ?_)
 refine .s [41] rfl rfl rfl (.o rfl (.mv (.t rfl))) (.s [32] rfl rfl rfl (.o rfl (.ext (.t rfl) rfl)) (.s [32] rfl rfl rfl (.o rfl (.ext (.t rfl) rfl)) (.s [32] rfl rfl rfl (.o rfl (.ext (.t rfl) rfl)) (.als2 (n1 := 16) (ds := [8, 9, 10]) (zs := [[isB false, SlM isU []], [isB false, SlM isU []], [isB false, SlM isU []]]) rfl (.cons rfl rfl zG (fun _ _ => ⟨rfl, nilM _ _, trivial⟩) (.cons rfl rfl zG (fun _ _ => ⟨rfl, nilM _ _, trivial⟩) (.cons rfl rfl zG (fun _ _ => ⟨rfl, nilM _ _, trivial⟩) .nil))) (.cons_cons _ (.cons_cons _ .slnil)) (Cs := [_, _, _]) rfl (.new [42] 0 (Ss' := [_, _]) (Cs' := [zB [_, _], _, _]) rfl (by kernel_rfl) (by kernel_rfl) rfl rfl rfl (by kernel_rfl) rfl (.t rfl) ty41 rfl rfl rfl rfl (.new [43] 1 (Ss' := [_, _]) (Cs' := [_, zB [_, _], _]) rfl (by kernel_rfl) (by kernel_rfl) rfl rfl rfl (by kernel_rfl) rfl (.t rfl) ty41 rfl rfl rfl rfl (.fin (n := 18) zR rfl (by kernel_rfl) (by kernel_rfl) (by kernel_rfl) (fun bs hbs => ?_))))))))
 obtain ⟨b1, b2, b3, rfl⟩ := len3 hbs
 refine .memEq (M' := [_, _, _, _, _]) rfl (.cv (Cv.wk (.k 0 rfl (.k 1 rfl (.k 2 rfl (.k 6 rfl (.k 7 rfl (.k 44 rfl (.cons (t := 8) (Has.op rfl) (.cons (t := 9) (Has.op rfl) (.cons (t := 10) (Has.op rfl) .nil)))))))))) (.store (.t rfl) (.t rfl) (i := 2) rfl ty41 rfl rfl (Ss' := [_, _]) rfl (M' := [_, _, (some _, zB [_, _]), _, _]) rfl (nl (.thn (k2 _ _ (.seq fun _ k3 => .seq fun _ k4 => .region (st (.load (.t rfl) (i := 0) rfl ty41 rfl (Ss' := [_, _]) rfl) rfl (st (.eq (.call (zd (by rw [zC]; omega)) (.cons (.t rfl) .nil)) ((show _ = isI (sgn (xgg (cf p col) (cf q col))) from by rw [zH]))) rfl ?_))))))))
 refine st (.eqI (.t rfl) (.cI 0 rfl)) rfl (nl (.thn (k4 _ _ (.cond (.t rfl) (fun hc1 => ?_) (fun hc1 => ?_)))))
 ·have hc1 := BP.t hc1
  have hg0 := (qn _).1 hc1
  refine .ret (.thr (rtX0D (.cons _ (.cons _ (.cons _ (.cons_cons _ (.cons_cons _ .slnil))))) (.inl rfl) Tryz.results99 rfl (⟨rfl, co (jn_no hp hq hg0).symm (by rw [jn_len])⟩)))
 ·have hc1 := BP.f hc1
  have hg0 : ¬ (xgg (cf p col) (cf q col)) = 0 := fun e => hc1 ((qn _).2 e)
  refine .skip (.thn (k3 _ _ (.seq fun _ k5 => .drh [true, true, true, true, true] (Ms := [_, _, _, _, _]) rfl (.s [] rfl rfl rfl (.o rfl (.mv (.t rfl))) (.s [] rfl rfl rfl (.o rfl (.mv (.t rfl))) ?_)))))
  refine .s [49, 50] rfl rfl rfl (.o rfl (.ixK sl22 ty41 (.t rfl) (.t rfl) zO ⟨by omega, by rw [List.length_map]; omega⟩ (getZ (i := col) (by omega)))) ?_
  refine .s [51] rfl rfl rfl (.o rfl (.loadP (.t rfl) ty41 rfl (Ss' := [_, _]) rfl)) (.s [] rfl rfl rfl (.o rfl (.load (.t rfl) (i := 0) rfl ty41 rfl (Ss' := [_, _]) rfl)) (.s [52, 53] rfl rfl rfl (.o rfl (.call (xC (by rw [zC]; omega) (by rw [zC]; omega)) (.cons (.t rfl) (.cons (.t rfl) .nil)))) ?_))
  refine .s [54] rfl rfl rfl (.o rfl (.mv (.t rfl))) (.s [48] rfl rfl rfl (.o rfl (.eq (.ext (.t rfl) rfl) ((show _ = isZ ((cf p col).tdiv (xgg (cf p col) (cf q col))) from zN (by simp only [aw, zH]; exact if_pos ⟨hg0, Int.tmod_eq_zero_of_dvd (aD _ _)⟩))))) ?_)
  refine .s [48] rfl rfl rfl (.o rfl (.ext (.t rfl) rfl)) (.als2 (n1 := 10) (ds := [11]) (zs := [[isB false, SlM isU []]]) rfl (.cons rfl rfl zG (fun _ _ => ⟨rfl, nilM _ _, trivial⟩) .nil) (.cons_cons _ (.cons_cons _ (.cons_cons _ (.cons_cons _ (.cons_cons _ .slnil))))) (Cs := [_]) rfl (.new [55] 0 (Ss' := [_, _]) (Cs' := [zB [_, _]]) rfl (by kernel_rfl) (by kernel_rfl) rfl rfl rfl (by kernel_rfl) rfl (.t rfl) ty41 rfl rfl rfl rfl (.fin (n := 11) zR rfl (by kernel_rfl) (by kernel_rfl) (by kernel_rfl) (fun bs hbs => ?_))))
  obtain ⟨b4, rfl⟩ := len1 hbs
  refine .memEq (M' := [_, _, _, _, _, _]) rfl (.cv (Cv.wk (.k 0 rfl (.k 1 rfl (.k 2 rfl (.k 6 rfl (.k 7 rfl (.k 8 rfl (.k 9 rfl (.k 10 rfl (.k 56 rfl (.cons (t := 11) (Has.op rfl) .nil))))))))))) (st (.as (.t rfl)) rfl (nl (.thn (k5 _ _ (.seq fun _ k6 => .drh [true, true, true, true, true, true] (Ms := [_, _, _, _, _, _]) rfl (.s [] rfl rfl rfl (.o rfl (.mv (.t rfl))) (.s [] rfl rfl rfl (.o rfl (.mv (.t rfl))) ?_))))))))
  refine .s [58, 59] rfl rfl rfl (.o rfl (.ixK sl22 ty41 (.t rfl) (.t rfl) zO ⟨by omega, by rw [List.length_map]; omega⟩ (getZ (i := col) (by omega)))) ?_
  refine .s [60] rfl rfl rfl (.o rfl (.loadP (.t rfl) ty41 rfl (Ss' := [_, _]) rfl)) (.s [] rfl rfl rfl (.o rfl (.load (.t rfl) (i := 1) rfl ty41 rfl (Ss' := [_, _]) rfl)) (.s [61, 62] rfl rfl rfl (.o rfl (.call (xC (by rw [zC]; omega) (by rw [zC]; omega)) (.cons (.t rfl) (.cons (.t rfl) .nil)))) ?_))
  refine .s [63] rfl rfl rfl (.o rfl (.mv (.t rfl))) (.s [57] rfl rfl rfl (.o rfl (.eq (.ext (.t rfl) rfl) ((show _ = isZ ((cf q col).tdiv (xgg (cf p col) (cf q col))) from zN (by simp only [aw, zH]; exact if_pos ⟨hg0, Int.tmod_eq_zero_of_dvd (wP _ _)⟩))))) ?_)
  refine .s [57] rfl rfl rfl (.o rfl (.ext (.t rfl) rfl)) (.als2 (n1 := 10) (ds := [13]) (zs := [[isB false, SlM isU []]]) rfl (.cons rfl rfl zG (fun _ _ => ⟨rfl, nilM _ _, trivial⟩) .nil) (.cons_cons _ (.cons_cons _ (.cons_cons _ (.cons_cons _ (.cons_cons _ (.cons_cons _ .slnil)))))) (Cs := [_]) rfl (.new [64] 0 (Ss' := [_, _]) (Cs' := [zB [_, _]]) rfl (by kernel_rfl) (by kernel_rfl) rfl rfl rfl (by kernel_rfl) rfl (.t rfl) ty41 rfl rfl rfl rfl (.fin (n := 11) zR rfl (by kernel_rfl) (by kernel_rfl) (by kernel_rfl) (fun bs hbs => ?_))))
  obtain ⟨b5, rfl⟩ := len1 hbs
  refine .memEq (M' := [_, _, _, _, _, _, _]) rfl (.cv (Cv.wk (.k 0 rfl (.k 1 rfl (.k 6 rfl (.k 7 rfl (.k 9 rfl (.k 10 rfl (.k 11 rfl (.k 65 rfl (.cons (t := 13) (Has.op rfl) .nil)))))))))) (st (.as (.t rfl)) rfl (nl (.thn (k6 _ _ (.dry zR (.tk 0 rfl rfl rfl rfl (OKY.mv (.t rfl)) (.tk 1 rfl rfl rfl rfl (OKY.nilc (.t rfl)) (.tk 2 rfl rfl rfl rfl (OKY.fieldAddr (.t rfl) qQ zw) (.tk 4 rfl rfl rfl rfl (OKY.mv (.t rfl)) (.tk 5 rfl rfl rfl rfl (OKY.nilc (.t rfl)) (.tk 6 rfl rfl rfl rfl (OKY.fieldAddr (.t rfl) qw ty3) (.tk 8 rfl rfl rfl rfl (OKY.mv (.t rfl)) (.tk 9 rfl rfl rfl rfl (OKY.nilc (.t rfl)) (.tk 10 rfl rfl rfl rfl (OKY.fieldAddr (.t rfl) qQ zw) (.tk 12 rfl rfl rfl rfl (OKY.mv (.t rfl)) (.tk 14 rfl rfl rfl rfl (OKY.mv (.t rfl)) (.tk 16 rfl rfl rfl rfl (OKY.mv (.t rfl)) (.tk 20 rfl rfl rfl rfl (OKY.mv (.t rfl)) (.tk 22 rfl rfl rfl rfl (OKY.mv (.t rfl)) (.go [] (.s 3 [] rfl rfl rfl (.o rfl (.load1 (.t rfl) (i := 5) rfl zw rfl)) (.s 7 [] rfl rfl rfl (.o rfl (.load1 (.t rfl) (i := 5) rfl ty3 rfl)) (.s 11 [] rfl rfl rfl (.o rfl (.load1 (.t rfl) (i := 5) rfl zw rfl)) (.s 13 [] rfl rfl rfl (.o rfl (.load (.t rfl) (i := 3) rfl ty41 rfl (Ss' := [_, _]) rfl)) (.s 15 [] rfl rfl rfl (.o rfl (.load (.t rfl) (i := 4) rfl ty41 rfl (Ss' := [_, _]) rfl)) ?_))))))))))))))))))))))))))
  refine .s 17 [79, 81] rfl rfl rfl (.o rfl (.eq (.call (wc (A := K + 1) (B := P + 2) (K := P) (L := K) (by rw [zC]; omega) (by rw [zP]; exact hpP) (by rw [zC]; omega) (by rw [zP]; exact hqB) (by omega) (by omega) (by rw [List.length_map, List.length_map]; omega) (by rw [List.length_map]; omega)) (.cons (.t rfl) (.cons (.t rfl) (.cons (.t rfl) (.cons (.t rfl) .nil))))) ((show _ = isP (mx2 (xgx (cf p col) (cf q col)) p (xgy (cf p col) (cf q col)) q) from wa (by simp only [zH, zP]))))) ?_
  refine .s 18 [] rfl rfl rfl (.o rfl (.load (.t rfl) (i := 0) rfl ty41 rfl (Ss' := [_, _]) rfl)) (.s 19 [84] rfl rfl rfl (.o rfl (.call (xk (by rw [zC]; omega)) (.cons (.t rfl) .nil))) ?_)
  refine .s 21 [] rfl rfl rfl (.o rfl (.load (.t rfl) (i := 1) rfl ty41 rfl (Ss' := [_, _]) rfl)) (.s 23 [85, 87] rfl rfl rfl (.o rfl (.eq (.call (wc (A := K) (B := P) (K := P) (L := K) (by rw [zC, zH, Int.natAbs_neg]; omega) (by rw [zP]; exact hpP) (by rw [zC]; omega) (by rw [zP]; exact hqB) (by omega) (by omega) (by rw [List.length_map, List.length_map]; omega) (by rw [List.length_map]; omega)) (.cons (.t rfl) (.cons (.t rfl) (.cons (.t rfl) (.cons (.t rfl) .nil))))) ((show _ = isP (mx2 (-((cf q col).tdiv (xgg (cf p col) (cf q col)))) p ((cf p col).tdiv (xgg (cf p col) (cf q col))) q) from wa (by simp only [zH, zP]))))) ?_)
  refine .fin [24, 25, 26, 27] (by kernel_rfl) (by kernel_rfl) (fun _ _ _ _ _ h => h) (by kernel_rfl) (by kernel_rfl) (by kernel_rfl) (by kernel_rfl) (by kernel_rfl) (by kernel_rfl) (by kernel_rfl) (by kernel_rfl) (by kernel_rfl) (.cv (Cv.wk (.l [78, 69, 73, 77, 83, 89] rfl)) (st (.ixGr qv ty22 (.t rfl) (.t rfl) ⟨by omega, by omega⟩) rfl (.storeGM (z := mx2 (xgx (cf p col) (cf q col)) p (xgy (cf p col) (cf q col)) q) (.t rfl) (.t rfl) (i := 6) rfl ty22 (by omega) (M' := [_, _, _, _, _, _, grM _ _ _]) rfl (st (.ixGr qv ty22 (.t rfl) (.t rfl) ⟨by omega, by omega⟩) rfl (.storeGM (z := mx2 (-((cf q col).tdiv (xgg (cf p col) (cf q col)))) p ((cf p col).tdiv (xgg (cf p col) (cf q col))) q) (.t rfl) (.t rfl) (i := 6) rfl ty22 (by rw [List.length_set]; omega) (M' := [_, _, _, _, _, _, grM _ _ _]) rfl ?_)))))
  refine nl (rtX0D (.cons _ (.cons _ (.cons _ (.cons _ (.cons _ (.cons_cons _ (.cons_cons _ .slnil))))))) (.inr rfl) Tryz.results99 rfl (⟨rfl, co (jn_go hp hq hg0).symm (by rw [jn_len])⟩))
theorem hnf_reduce {bw C : Nat} {gt : Gr (List Int)} {rs : List (List Int)} {t col W P : Nat} (hrow : ∀ r ∈ rs, r.length = W) (ht : t < rs.length) (hc : col < W) (hW : W ≤ 128) (hR : rs.length ≤ 64) (hpB : ∀ r ∈ rs, Bd r P) (hP : P ≤ 90000000) (h0 : 0 < cf (rs.getD t []) col) : CtrX Tryz.prog 101 [qM bw 0, isI (col : Int)] (hwM bw gt rs C t) (fun S M => S = zQ [] ∧ M = hwM bw gt (rds rs t col t) C t) := by
 refine CtrX.intro Tryz.func101 rfl (by kernel_rfl) Tryz.ntmps101 rfl fun w0 F0 => .cv (Cv.wk (.l [0, 1] rfl)) (.fact (Has.rngI (Has.t (t := 1) rfl)) fun lt1 => ?_)
 obtain ⟨b, hb⟩ : ∃ b, rs[t]? = some b := ⟨_, List.getElem?_eq_getElem ht⟩
 have hbl := hrow b (List.mem_of_getElem? hb)
 rw [qr hb] at h0
 have hbP := hpB b (List.mem_of_getElem? hb)
 have hbc := hbP col
 refine .seq fun _ k1 => .dr (.s [] rfl rfl rfl (.o rfl (.mv (.t rfl))) (.s [9] rfl rfl rfl (.o rfl (.nilc (.t rfl))) (.s [10] rfl rfl rfl (.o rfl (.fieldAddr (.t rfl) qQ zw)) (.s [11] rfl rfl rfl (.o rfl (.load1 (.t rfl) (i := 0) rfl zw rfl)) (.s [] rfl rfl rfl (.o rfl (.mv (.t rfl))) (.s [13] rfl rfl rfl (.o rfl (.nilc (.t rfl))) (.s [14] rfl rfl rfl (.o rfl (.fieldAddr (.t rfl) qw ty3)) (.s [15] rfl rfl rfl (.o rfl (.load1 (.t rfl) (i := 0) rfl ty3 rfl)) (.fin (n := 8) zR (by kernel_rfl) (by kernel_rfl) (by kernel_rfl) (.cv (Cv.wk (.l [0, 1, 12, 16] rfl)) (st (.ixGr qv ty22 (.t rfl) (.t rfl) ⟨by omega, by omega⟩) rfl (st (.loadGM (.t rfl) (i := 1) rfl ty22 hb) rfl (st (.as (.t rfl)) rfl (nl (.thn (k1 _ _ (.seq fun _ k2 => .region (st (.mv (.t rfl)) rfl (st (.nilc (.t rfl)) rfl (st (.fieldAddr (.t rfl) qw ty3) rfl (st (.load1 (.t rfl) (i := 0) rfl ty3 rfl) rfl (st (.mv (.cI 0 rfl)) rfl (nl (.thn (k2 _ _ (.cv (Cv.wk (.l [0, 1, 4, 22, 23] rfl)) (.block (.loopF [0, 1, 4, 22] (fun (z : { i : Nat // i ≤ t }) => match z with | ⟨i, hi⟩ => [(23, isI (i : Int))]) (fun M => fun (z : { i : Nat // i ≤ t }) => match z with | ⟨i, hi⟩ => hwM bw gt (rds rs t col i) C t) (fun (z : { i : Nat // i ≤ t }) => match z with | ⟨i, hi⟩ => t - i) (⟨0, Nat.zero_le _⟩) (Cv.mem (.c 23 rfl ?_ (.l [0, 1, 4, 22] rfl)) ?_) ?_))))))))))))))))))))))))))))
 ·rfl
 ·rfl
 rintro ⟨i, hi⟩ K3 hK3
 refine .cv (Cv.wk (.l [23, 0, 1, 4, 22] rfl)) (.memEq (M' := hwM bw gt (rds rs t col i) C t) rfl ?_)
 have hlen := jf rs t col i
 have hb2 : (rds rs t col i)[t]? = some b := (aH hi).trans hb
 refine .seq fun _ k4 => .region (st (.ltI (.t rfl) (.t rfl)) rfl (nl (.thn (k4 _ _ (.seq fun _ k5 => .cond (.t rfl) (fun hc1 => ?_) (fun hc1 => ?_))))))
 ·have hc1 := BP.t hc1
  obtain ⟨r, hr⟩ : ∃ r, rs[i]? = some r := ⟨_, List.getElem?_eq_getElem (by omega)⟩
  have hr2 : (rds rs t col i)[i]? = some r := (aH (Nat.le_refl _)).trans hr
  have hrl := hrow r (List.mem_of_getElem? hr)
  have hrP := hpB r (List.mem_of_getElem? hr)
  have hrc := hrP col
  have hdn := div_nw h0 hrc
  have h1 := ca
  refine .skip (.thn (k5 _ _ (.seq fun _ k6 => .block (.seq fun _ k7 => .region (st (.mv (.t rfl)) rfl (st (.as (.t rfl)) rfl (nl (.thn (k7 _ _ (.seq fun _ k8 => .drh [true, true] (Ms := [_, _]) rfl (.s [] rfl rfl rfl (.o rfl (.mv (.t rfl))) (.s [27] rfl rfl rfl (.o rfl (.nilc (.t rfl))) (.s [28] rfl rfl rfl (.o rfl (.fieldAddr (.t rfl) qQ zw)) (.s [29] rfl rfl rfl (.o rfl (.load1 (.t rfl) (i := 0) rfl zw rfl)) (.s [] rfl rfl rfl (.o rfl (.mv (.t rfl))) (.s [30, 31] rfl rfl rfl (.o rfl (.ixGr qv ty22 (.t rfl) (.t rfl) ⟨by omega, by omega⟩)) ?_))))))))))))))))
  refine .s [32] rfl rfl rfl (.o rfl (.loadGM (.t rfl) (i := 1) rfl ty22 hr2)) (.s [] rfl rfl rfl (.o rfl (.mv (.t rfl))) ?_)
  refine .s [33, 34] rfl rfl rfl (.o rfl (.ixK sl22 ty41 (.t rfl) (.t rfl) zO ⟨by omega, by rw [List.length_map]; omega⟩ (getZ (i := col) (by omega)))) ?_
  refine .s [35] rfl rfl rfl (.o rfl (.loadP (.t rfl) ty41 rfl (Ss' := [_, _]) rfl)) (.s [] rfl rfl rfl (.o rfl (.mv (.t rfl))) (.s [] rfl rfl rfl (.o rfl (.mv (.t rfl))) ?_))
  refine .s [37, 38] rfl rfl rfl (.o rfl (.ixK sl22 ty41 (.t rfl) (.t rfl) zO ⟨by omega, by rw [List.length_map]; omega⟩ (getZ (i := col) (by omega)))) ?_
  refine .s [39] rfl rfl rfl (.o rfl (.loadP (.t rfl) ty41 rfl (Ss' := [_, _]) rfl)) (.s [36, 40] rfl rfl rfl (.o rfl (.eq (.call (bz (by rw [zC]; omega) (by rw [zC]; omega) (by simp only [zH, aw]; exact h0)) (.cons (.t rfl) (.cons (.t rfl) .nil))) ((show _ = zQ [isZ (cf r col / cf b col), isZ (cf r col % cf b col), isB true] from by simp only [aw, zH])))) ?_)
  refine .s [41] rfl rfl rfl (.o rfl (.mv (.t rfl))) (.s [26] rfl rfl rfl (.o rfl (.ext (.t rfl) rfl)) (.s [26] rfl rfl rfl (.o rfl (.ext (.t rfl) rfl)) (.s [26] rfl rfl rfl (.o rfl (.ext (.t rfl) rfl)) (.als2 (n1 := 21) (ds := [6, 7]) (zs := [[isB false, SlM isU []], [isB false, SlM isU []]]) rfl (.cons rfl rfl zG (fun _ _ => ⟨rfl, nilM _ _, trivial⟩) (.cons rfl rfl zG (fun _ _ => ⟨rfl, nilM _ _, trivial⟩) .nil)) (.cons_cons _ (.cons_cons _ .slnil)) (Cs := [_, _]) rfl (.new [42] 0 (Ss' := [_, _]) (Cs' := [zB [_, _], _]) rfl (by kernel_rfl) (by kernel_rfl) rfl rfl rfl (by kernel_rfl) rfl (.t rfl) ty41 rfl rfl rfl rfl (.new [43] 1 (Ss' := [_, _]) (Cs' := [_, zB [_, _]]) rfl (by kernel_rfl) (by kernel_rfl) rfl rfl rfl (by kernel_rfl) rfl (.t rfl) ty41 rfl rfl rfl rfl (.fin (n := 23) zR rfl (by kernel_rfl) (by kernel_rfl) (by kernel_rfl) (fun bs hbs => ?_))))))))
  obtain ⟨b1, b2, rfl⟩ := len2 hbs
  refine .memEq (M' := [_, _, _, _]) rfl (.cv (Cv.wk (.k 0 rfl (.k 1 rfl (.k 4 rfl (.k 22 rfl (.k 23 rfl (.k 24 rfl (.k 25 rfl (.k 5 rfl (.k 27 rfl (.k 28 rfl (.k 29 rfl (.k 30 rfl (.k 31 rfl (.k 32 rfl (.k 33 rfl (.k 34 rfl (.k 35 rfl (.k 36 rfl (.k 37 rfl (.k 38 rfl (.k 39 rfl (.k 40 rfl (.k 41 rfl (.k 26 rfl (.k 42 rfl (.k 43 rfl (.k 44 rfl (.cons (t := 6) (Has.op rfl) (.cons (t := 7) (Has.op rfl) .nil)))))))))))))))))))))))))))))) (st (.as (.t rfl)) rfl (nl (.thn (k8 _ _ (.dry zR (.tk 0 rfl rfl rfl rfl (OKY.mv (.t rfl)) (.tk 1 rfl rfl rfl rfl (OKY.nilc (.t rfl)) (.tk 2 rfl rfl rfl rfl (OKY.fieldAddr (.t rfl) qQ zw) (.tk 4 rfl rfl rfl rfl (OKY.mv (.t rfl)) (.tk 6 rfl rfl rfl rfl (OKY.mv (.t rfl)) (.tk 7 rfl rfl rfl rfl (OKY.nilc (.t rfl)) (.tk 8 rfl rfl rfl rfl (OKY.fieldAddr (.t rfl) qQ zw) (.tk 10 rfl rfl rfl rfl (OKY.mv (.t rfl)) (.tk 15 rfl rfl rfl rfl (OKY.mv (.t rfl)) (.go [] (.s 3 [] rfl rfl rfl (.o rfl (.load1 (.t rfl) (i := 2) rfl zw rfl)) (.s 5 [] rfl rfl rfl (.o rfl (.call (qi) (.cons (.cI 1 rfl) .nil))) (.s 9 [] rfl rfl rfl (.o rfl (.load1 (.t rfl) (i := 2) rfl zw rfl)) (.s 11 [54] rfl rfl rfl (.o rfl (.ixGr qv ty22 (.t rfl) (.t rfl) ⟨by omega, by omega⟩)) ?_))))))))))))))))))))
  refine .s 12 [56] rfl rfl rfl (.o rfl (.loadGM (.t rfl) (i := 3) rfl ty22 hr2)) (.s 13 [] rfl rfl rfl (.o rfl (.load (.t rfl) (i := 0) rfl ty41 rfl (Ss' := [_, _]) rfl)) (.s 14 [58] rfl rfl rfl (.o rfl (.call (xk (by rw [zC]; omega)) (.cons (.t rfl) .nil))) ?_))
  refine .s 16 [50, 57, 59] rfl rfl rfl (.o rfl (.eq (.call (wc (A := 1) (B := P) (K := P) (L := P) (by rw [zC]; omega) (by rw [zP]; exact hrP) (by rw [zC, zH, Int.natAbs_neg]; omega) (by rw [zP]; exact hbP) (by omega) (by omega) (by rw [List.length_map, List.length_map]; omega) (by rw [List.length_map]; omega)) (.cons (.t rfl) (.cons (.t rfl) (.cons (.t rfl) (.cons (.t rfl) .nil))))) ((show _ = isP (mx2 1 r (-(cf r col / cf b col)) b) from wa (by simp only [zH, zP]))))) ?_
  refine .fin [17, 18] (by kernel_rfl) (by kernel_rfl) (fun _ _ _ _ _ h => h) (by kernel_rfl) (by kernel_rfl) (by kernel_rfl) (by kernel_rfl) (by kernel_rfl) (by kernel_rfl) (by kernel_rfl) (by kernel_rfl) (by kernel_rfl) (.cv (Cv.wk (.l [0, 1, 4, 22, 23, 24, 25, 5, 27, 28, 29, 30, 31, 32, 33, 34, 35, 36, 37, 38, 39, 40, 41, 26, 42, 43, 44, 6, 7, 45, 46, 47, 49, 51, 52, 53, 55, 60, 48, 50, 54, 56, 57, 58, 59, 61] rfl)) (st (.ixGr qv ty22 (.t rfl) (.t rfl) ⟨by omega, by omega⟩) rfl (.storeGM (z := mx2 1 r (-(cf r col / cf b col)) b) (.t rfl) (.t rfl) (i := 3) rfl ty22 (by omega) (M' := [_, _, _, grM _ _ _]) rfl (nl (.bln (.thn (k6 _ _ (.region (st (.addI (.t rfl) (.cI 1 rfl) (by omega) (by omega)) rfl (st (.mv (.t rfl)) rfl (nl (.thn (hK3 (⟨i + 1, by omega⟩) _ _ ?_ (Cv.trans (Cv.drop ((.cons _ (.cons _ (.cons_cons _ (.cons_cons _ .slnil)))))) (Cv.mem (.c 23 rfl ?_ (.l [0, 1, 4, 22] rfl)) ?_)))))))))))))))
  ·show t - (i + 1) < t - i; omega
  ·exact zE (by omega)
  ·exact co (rd_go hr2 hb2).symm (by show _ = (rds rs t col (i + 1)).length; rw [hlen, jf])
 ·have hc1 := BP.f hc1
  refine .exit (.the (.the (.blh (rtX0D (.cons_cons _ (.cons_cons _ .slnil)) (.inr rfl) Tryz.results101 rfl (⟨rfl, by rw [show t = i by omega]⟩)))))
theorem hnf_column {bw C : Nat} {gt : Gr (List Int)} {rs : List (List Int)} {t col W K : Nat} (hrow : ∀ r ∈ rs, r.length = W) (ht : t < rs.length) (hc : col < W) (hW : W ≤ 128) (hR : rs.length ≤ 64) (hb : ∀ r ∈ rs, Bd r K) (hK : (K + 3) * (rs.length + 2) ≤ 80000000) : CtrX Tryz.prog 70 [qM bw 0, isI (col : Int)] (hwM bw gt rs C t) (fun S M => S = zQ [] ∧ M = hwM bw gt (hcol ⟨rs, t⟩ col).rows C (hcol ⟨rs, t⟩ col).top) := by
 refine CtrX.intro Tryz.func70 rfl (by kernel_rfl) Tryz.ntmps70 rfl fun w0 F0 => .cv (Cv.wk (.l [0, 1] rfl)) (.fact (Has.rngI (Has.t (t := 1) rfl)) fun lt1 => ?_)
 obtain ⟨N, hN⟩ : ∃ N, N = rs.length - (t + 1) := ⟨_, rfl⟩
 obtain ⟨P, hP⟩ : ∃ P, P = K + N * (K + 3) := ⟨_, rfl⟩
 have hK1 : (K + 3) * (rs.length + 2) = rs.length * (K + 3) + 2 * (K + 3) := by rw [Nat.mul_add, Nat.mul_comm (K + 3) rs.length, Nat.mul_comm (K + 3) 2]
 have hK2 : N * (K + 3) ≤ rs.length * (K + 3) := Nat.mul_le_mul_right _ (by omega)
 have hcl : hcol ⟨rs, t⟩ col = if cf ((jns rs t col N).getD t []) col = 0 then ⟨jns rs t col N, t⟩ else ⟨rds (hsg (jns rs t col N) t col) t col t, t + 1⟩ := by rw [hN]; rfl
 have hlenA := qj rs t col N
 obtain ⟨p, hp⟩ : ∃ p, (jns rs t col N)[t]? = some p := ⟨_, List.getElem?_eq_getElem (by omega)⟩
 have hrowA := xl hrow ht (col := col) N
 have hbA : ∀ r ∈ jns rs t col N, Bd r P := by rw [hP]; exact ck hb N
 have hpl := hrowA p (List.mem_of_getElem? hp)
 have hpP := hbA p (List.mem_of_getElem? hp)
 have hpc := hpP col
 rw [qr hp] at hcl
 refine .seq fun _ k1 => .seq fun _ k2 => .region (st (.mv (.t rfl)) rfl (st (.nilc (.t rfl)) rfl (st (.fieldAddr (.t rfl) qw ty3) rfl (st (.load1 (.t rfl) (i := 0) rfl ty3 rfl) rfl (st (.addI (.t rfl) (.cI 1 rfl) (by omega) (by omega)) rfl (st (.as (.t rfl)) rfl (nl (.thn (k2 _ _ (.cv (Cv.wk (.l [0, 1, 4] rfl)) (.block (.loopF [0, 1] (fun (z : { n : Nat // n ≤ N }) => match z with | ⟨n, hn⟩ => [(4, isI ((t + 1 + n : Nat) : Int))]) (fun M => fun (z : { n : Nat // n ≤ N }) => match z with | ⟨n, hn⟩ => hwM bw gt (jns rs t col n) C t) (fun (z : { n : Nat // n ≤ N }) => match z with | ⟨n, hn⟩ => N - n) (⟨0, Nat.zero_le _⟩) (Cv.mem (.c 4 rfl ?_ (.l [0, 1] rfl)) ?_) ?_))))))))))))
 ·exact zE (by omega)
 ·rfl
 rintro ⟨n, hn⟩ K3 hK3
 refine .cv (Cv.wk (.l [4, 0, 1] rfl)) (.memEq (M' := hwM bw gt (jns rs t col n) C t) rfl ?_)
 have hlen := qj rs t col n
 have hnK : n * (K + 3) ≤ N * (K + 3) := Nat.mul_le_mul_right _ hn
 refine .seq fun _ k4 => .seq fun _ k5 => .region (st (.mv (.t rfl)) rfl (st (.mv (.t rfl)) rfl (st (.nilc (.t rfl)) rfl (st (.fieldAddr (.t rfl) qQ zw) rfl (st (.load1 (.t rfl) (i := 0) rfl zw rfl) rfl (st (.len qv (.t rfl)) rfl (st (.ltI (.t rfl) (.t rfl)) rfl (nl (.thn (k5 _ _ (.cond (.t rfl) (fun hc1 => ?_) (fun hc1 => ?_))))))))))))
 ·have hc1 := BP.t hc1
  skip
  refine .skip (.thn (k4 _ _ (.seq fun _ k6 => .block (.region (st (.mv (.t rfl)) rfl (st (.mv (.t rfl)) rfl (st (.mv (.t rfl)) rfl (.callX (hnf_join (rs := jns rs t col n) (i := t + 1 + n) (col := col) (P := K + n * (K + 3)) (K := K) (xl hrow ht n) (by omega) (by omega) hc hW (by omega) (ck hb n) (by rw [show (jns rs t col n).getD (t + 1 + n) [] = rs.getD (t + 1 + n) [] from by rw [List.getD, bc (Nat.le_refl _)]; rfl]; exact vW hb _) (by omega)) (List.Perm.refl _) (.cons (.t rfl) (.cons (.t rfl) (.cons (.t rfl) .nil))) rfl ?_))))))))
  rintro _ _ ⟨rfl, rfl⟩
  refine .memEq (M' := hwM bw gt (jns rs t col (n + 1)) C t) rfl (nl (.bln (.thn (k6 _ _ (.region (st (.mv (.t rfl)) rfl (st (.addI (.t rfl) (.cI 1 rfl) (by omega) (by omega)) rfl (st (.as (.t rfl)) rfl (nl (.thn (hK3 (⟨n + 1, by omega⟩) _ _ ?_ (Cv.mem (.c 4 rfl ?_ (.l [0, 1] rfl)) ?_))))))))))))
  ·show N - (n + 1) < N - n; omega
  ·exact zE (by omega)
  ·rfl
 ·have hc1 := BP.f hc1
  have hnN : N = n := (by omega)
  subst hnN
  refine .exit (.the (.the (.blh (.thn (k1 _ _ (.cv (Cv.wk (.l [0, 1] rfl)) (.cutF [0, 1] (fun (z : { c : List (List Int) // c = hsg (jns rs t col N) t col ∧ ¬ cf p col = 0 }) => match z with | ⟨c, hcs⟩ => []) (fun M => fun (z : { c : List (List Int) // c = hsg (jns rs t col N) t col ∧ ¬ cf p col = 0 }) => match z with | ⟨c, hcs⟩ => hwM bw gt c C t) (fun K7 hK7 => ?_) ?_)))))))
  ·skip
   refine .seq fun _ k8 => .dr (.s [] rfl rfl rfl (.o rfl (.mv (.t rfl))) (.s [23] rfl rfl rfl (.o rfl (.nilc (.t rfl))) (.s [24] rfl rfl rfl (.o rfl (.fieldAddr (.t rfl) qQ zw)) (.s [25] rfl rfl rfl (.o rfl (.load1 (.t rfl) (i := 0) rfl zw rfl)) (.s [] rfl rfl rfl (.o rfl (.mv (.t rfl))) (.s [27] rfl rfl rfl (.o rfl (.nilc (.t rfl))) (.s [28] rfl rfl rfl (.o rfl (.fieldAddr (.t rfl) qw ty3)) (.s [29] rfl rfl rfl (.o rfl (.load1 (.t rfl) (i := 0) rfl ty3 rfl)) (.s [26, 30] rfl rfl rfl (.o rfl (.ixGr qv ty22 (.t rfl) (.t rfl) ⟨by omega, by omega⟩)) ?_)))))))))
   refine .s [31] rfl rfl rfl (.o rfl (.loadGM (.t rfl) (i := 1) rfl ty22 hp)) (.s [] rfl rfl rfl (.o rfl (.mv (.t rfl))) (.fin (n := 11) zR (by kernel_rfl) (by kernel_rfl) (by kernel_rfl) (.cv (Cv.wk (.l [0, 1, 32, 33] rfl)) ?_)))
   refine st (.ixK sl22 ty41 (.t rfl) (.t rfl) zO ⟨by omega, by rw [List.length_map]; omega⟩ (getZ (i := col) (by omega))) rfl ?_
   refine st (.loadP (.t rfl) ty41 rfl (Ss' := [_, _]) rfl) rfl ?_
   refine st (.eq (.call (zd (by rw [zC]; omega)) (.cons (.t rfl) .nil)) ((show _ = isI (sgn (cf p col)) from by first | (rw [zH]; done) | (rw [aw]; done) | rfl))) rfl ?_
   refine nl (.thn (k8 _ _ (.block (.seq fun _ k9 => .region (st (.eqI (.t rfl) (.cI 0 rfl)) rfl (st (.as (.t rfl)) rfl (nl (.thn (k9 _ _ (.cv (Cv.wk (.l [0, 1, 36, 37] rfl)) (.cond (.t rfl) (fun hc2 => ?_) (fun hc2 => ?_))))))))))))
   ·have hc2 := BP.t hc2
    have h0 : cf p col = 0 := (qn _).1 hc2
    refine .ret (.blr (.thr (rtX0 (.inl rfl) Tryz.results70 rfl (⟨rfl, by rw [hcl, if_pos h0]⟩))))
   ·have hc2 := BP.f hc2
    have h0 : ¬ cf p col = 0 := fun e => hc2 ((qn _).2 e)
    refine .seq fun _ k10 => .region (st (.eqI (.t rfl) (.cI (-1) rfl)) rfl (st (.as (.t rfl)) rfl (nl (.thn (k10 _ _ (.cond (.t rfl) (fun hc3 => ?_) (fun hc3 => ?_)))))))
    ·have hc3 := BP.t hc3
     have hl0 : cf p col < 0 := (je _).1 (by omega)
     refine .dry zR (.tk 0 rfl rfl rfl rfl (OKY.mv (.t rfl)) (.tk 1 rfl rfl rfl rfl (OKY.nilc (.t rfl)) (.tk 2 rfl rfl rfl rfl (OKY.fieldAddr (.t rfl) qQ zw) (.tk 4 rfl rfl rfl rfl (OKY.mv (.t rfl)) (.tk 5 rfl rfl rfl rfl (OKY.nilc (.t rfl)) (.tk 6 rfl rfl rfl rfl (OKY.fieldAddr (.t rfl) qw ty3) (.tk 9 rfl rfl rfl rfl (OKY.mv (.t rfl)) (.tk 10 rfl rfl rfl rfl (OKY.nilc (.t rfl)) (.tk 11 rfl rfl rfl rfl (OKY.fieldAddr (.t rfl) qQ zw) (.tk 13 rfl rfl rfl rfl (OKY.mv (.t rfl)) (.tk 14 rfl rfl rfl rfl (OKY.nilc (.t rfl)) (.tk 15 rfl rfl rfl rfl (OKY.fieldAddr (.t rfl) qw ty3) (.tk 20 rfl rfl rfl rfl (OKY.mv (.t rfl)) (.tk 21 rfl rfl rfl rfl (OKY.nilc (.t rfl)) (.tk 22 rfl rfl rfl rfl (OKY.fieldAddr (.t rfl) qQ zw) (.tk 24 rfl rfl rfl rfl (OKY.mv (.t rfl)) (.tk 25 rfl rfl rfl rfl (OKY.nilc (.t rfl)) (.tk 26 rfl rfl rfl rfl (OKY.fieldAddr (.t rfl) qw ty3) (.go [] (.s 3 [] rfl rfl rfl (.o rfl (.load1 (.t rfl) (i := 0) rfl zw rfl)) (.s 7 [] rfl rfl rfl (.o rfl (.load1 (.t rfl) (i := 0) rfl ty3 rfl)) (.s 8 [] rfl rfl rfl (.o rfl (.call (qi) (.cons (.cI (-1) rfl) .nil))) (.s 12 [] rfl rfl rfl (.o rfl (.load1 (.t rfl) (i := 0) rfl zw rfl)) (.s 16 [] rfl rfl rfl (.o rfl (.load1 (.t rfl) (i := 0) rfl ty3 rfl)) ?_))))))))))))))))))))))))
     refine .s 17 [53, 57] rfl rfl rfl (.o rfl (.ixGr qv ty22 (.t rfl) (.t rfl) ⟨by omega, by omega⟩)) ?_
     refine .s 18 [58] rfl rfl rfl (.o rfl (.loadGM (.t rfl) (i := 1) rfl ty22 hp)) (.s 19 [] rfl rfl rfl (.o rfl (.build [isB false, SlM isU []] pl41 zG (fun _ _ => ⟨rfl, nilM _ _, trivial⟩) .nil (Z'' := [_, _]) rfl)) (.s 23 [] rfl rfl rfl (.o rfl (.load1 (.t rfl) (i := 0) rfl zw rfl)) (.s 27 [] rfl rfl rfl (.o rfl (.load1 (.t rfl) (i := 0) rfl ty3 rfl)) (.s 28 [64, 68] rfl rfl rfl (.o rfl (.ixGr qv ty22 (.t rfl) (.t rfl) ⟨by omega, by omega⟩)) ?_))))
     refine .s 29 [69] rfl rfl rfl (.o rfl (.loadGM (.t rfl) (i := 1) rfl ty22 hp)) (.s 30 [49, 59, 60, 70] rfl rfl rfl (.o rfl (.eq (.call (wc (A := 1) (B := 1) (K := P) (L := P) (by rw [zC]; exact zz (by decide)) (by rw [zP]; exact hpP) (by exact zz (by decide)) (by rw [zP]; exact hpP) (by omega) (by omega) rfl (by rw [List.length_map]; omega)) (.cons (.t rfl) (.cons (.t rfl) (.cons (.t rfl) (.cons (.t rfl) .nil))))) ((show _ = isP (mx2 (-1) p 0 p) from wa (by simp only [zH, zP]; rfl))))) ?_)
     refine .fin [31, 32] (by kernel_rfl) (by kernel_rfl) (fun _ _ _ _ _ h => h) (by kernel_rfl) (by kernel_rfl) (by kernel_rfl) (by kernel_rfl) (by kernel_rfl) (by kernel_rfl) (by kernel_rfl) (by kernel_rfl) (by kernel_rfl) (.cv (Cv.wk (.l [0, 1, 44, 48, 71] rfl)) (st (.ixGr qv ty22 (.t rfl) (.t rfl) ⟨by omega, by omega⟩) rfl (.storeGM (z := mx2 (-1) p 0 p) (.t rfl) (.t rfl) (i := 1) rfl ty22 (by omega) (M' := [_, grM _ _ _]) rfl (nl (.bln (.thn (hK7 (⟨_, rfl, h0⟩) _ _ (Cv.mem (.l [0, 1] rfl) ?_))))))))
     ·exact co (by unfold hsg; rw [qr hp, if_pos hl0]; rfl) (by rw [vU])
    ·have hc3 := BP.f hc3
     have hl0 : ¬ cf p col < 0 := fun e => by rcases zp (cf p col) with h | h | h <;> omega
     refine .skip (.bln (.thn (hK7 (⟨_, rfl, h0⟩) _ _ (Cv.mem (.l [0, 1] rfl) ?_))))
     ·exact co (by unfold hsg; rw [qr hp, if_neg hl0]) (by rw [vU])
  rintro ⟨c, hcs, h0⟩
  refine .cv (Cv.wk (.l [0, 1] rfl)) (.memEq (M' := hwM bw gt c C t) rfl ?_)
  subst hcs
  have hpos := hsg_pos hp h0
  refine .seq fun _ k11 => .region (st (.mv (.t rfl)) rfl (st (.mv (.t rfl)) rfl (.callX (hnf_reduce (rs := hsg (jns rs t col N) t col) (col := col) (P := P) (bf hrowA (by omega)) (by rw [vU]; omega) hc hW (by rw [vU]; omega) (hsg_bd hbA) (by omega) hpos) (List.Perm.refl _) (.cons (.t rfl) (.cons (.t rfl) .nil)) rfl ?_)))
  rintro _ _ ⟨rfl, rfl⟩
  refine .memEq (M' := hwM bw gt (rds (hsg (jns rs t col N) t col) t col t) C t) rfl (nl (.thn (k11 _ _ (.region (st (.mv (.t rfl)) rfl (st (.nilc (.t rfl)) rfl (st (.fieldAddr (.t rfl) qw ty3) rfl (st (.load1 (.t rfl) (i := 0) rfl ty3 rfl) rfl (st (.addI (.t rfl) (.cI 1 rfl) (by omega) (by omega)) rfl (st (.nilc (.t rfl)) rfl (st (.fieldAddr (.t rfl) qw ty3) rfl (.store (.t rfl) (.t rfl) (i := 0) rfl ty3 rfl rfl (Ss' := [_, _, _]) rfl (M' := [(some _, zB [_, _, _]), _]) rfl (nl (rtX0 (.inr rfl) Tryz.results70 rfl (⟨rfl, (hwM_top (top' := t + 1) (by omega)).trans (by rw [hcl, if_neg h0])⟩)))))))))))))))
theorem hnf_part {rs : List (List Int)} {W lo hi : Nat} {c tp : Int} (hrow : ∀ r ∈ rs, r.length = W) (h1 : lo ≤ hi) (h2 : hi ≤ W) (hW : W ≤ 128) (hR : rs.length ≤ 64) : Ctr Tryz.prog 71 [PtrL [SlM isP rs, isI c, isI tp], isI (lo : Int), isI (hi : Int)] (isMz rs.length (hi - lo) (qh lo hi rs)) := by
 refine Ctr.intro Tryz.func71 rfl (by kernel_rfl) Tryz.ntmps71 rfl fun w0 F0 => .cv (Cv.wk (.l [0, 1, 2] rfl)) (.fact (Has.rngI (Has.t (t := 1) rfl)) fun lt1 => .fact (Has.rngI (Has.t (t := 2) rfl)) fun lt2 => ?_)
 have hmx : ∀ i, i ≤ rs.length → (qh lo hi (rs.take i)).length ≤ 8192 := fun i hi' => by
  rw [eM (rs := rs.take i) h1 h2 (fun r hr => hrow r (List.mem_of_mem_take hr)), List.length_take]
  exact Nat.le_trans (Nat.mul_le_mul (show _ ≤ 64 by omega) (show hi - lo ≤ 128 by omega)) (by decide)
 refine .seq fun _ k1 => .region (.alloc [isI 0, isI 0, nilS] zg (fun _ _ => ⟨⟨rfl, by decide, by decide⟩, ⟨rfl, by decide, by decide⟩, rfl, trivial⟩) rfl fun b1 => nl (.thn (k1 _ _ (.seq fun _ k2 => .region (st (.mv (.t rfl)) rfl (st (.nilcP (.t rfl)) rfl (st (.fieldAddrP (.t rfl) qQ zw (Ss' := [_, _, _]) rfl) rfl (st (.loadP1 (.t rfl) zw) rfl (st (.len qv (.t rfl)) rfl (st (.mv (.t rfl)) rfl (st (.mv (.t rfl)) rfl (st (.eq (.subI (.t rfl) (.t rfl) (by omega) (by omega)) ((show isI _ = isI ((hi - lo : Nat) : Int) from zE (by omega)))) rfl (st (.build [isI 0, isI 0, nilS] pl24 zg (fun _ _ => ⟨⟨rfl, by decide, by decide⟩, ⟨rfl, by decide, by decide⟩, rfl, trivial⟩) (.cons (.t rfl) rfl rfl rfl (.cons (.t rfl) rfl rfl rfl .nil)) (Z'' := [_, _, _]) rfl) rfl (.alloc [isI 0, isI 0, nilS] zg (fun _ _ => ⟨⟨rfl, by decide, by decide⟩, ⟨rfl, by decide, by decide⟩, rfl, trivial⟩) rfl fun b2 => .store (.t rfl) (.t rfl) (i := 0) rfl ty24 rfl rfl (Ss' := [_, _, _]) rfl (M' := [(some _, zB [_, _, _]), _]) rfl (nl (.thn (k2 _ _ (.cv (Cv.wk (.l [0, 1, 2, 6, 7] rfl)) (.seq fun _ k3 => .seq fun _ k4 => .cv (Cv.growF (Bool × List Nat) (i := 0) (o := 2) rfl rfl rfl) (.memEq (M' := [grMK zc Gr.nil [], _, _]) rfl (.region (st (.mv (.t rfl)) rfl (st (.nilcP (.t rfl)) rfl (st (.fieldAddrP (.t rfl) qQ zw (Ss' := [_, _, _]) rfl) rfl (st (.loadP1 (.t rfl) zw) rfl (st (.len qv (.t rfl)) rfl (st (.mv (.cI 0 rfl)) rfl (nl (.thn (k4 _ _ (.block ?_)))))))))))))))))))))))))))))))
 refine .loopF [1, 2, 6, 7, 22, 23] (fun (z : { z : Nat × Gr (Bool × List Nat) // z.1 ≤ rs.length }) => match z with | ⟨(i, g), hI⟩ => [(24, isI (i : Int))]) (fun M => fun (z : { z : Nat × Gr (Bool × List Nat) // z.1 ≤ rs.length }) => match z with | ⟨(i, g), hI⟩ => [grMK zc g ((qh lo hi (rs.take i)).map nz), (some b2, zB [isI (rs.length : Int), isI ((hi - lo : Nat) : Int), isGr g ((qh lo hi (rs.take i)).map nz).length]), (some b1, zB [isI 0, isI 0, nilS])]) (fun (z : { z : Nat × Gr (Bool × List Nat) // z.1 ≤ rs.length }) => match z with | ⟨(i, g), hI⟩ => rs.length - i) (⟨(0, Gr.nil), Nat.zero_le _⟩) (Cv.mem (.c 24 rfl ?_ (.l [1, 2, 6, 7, 22, 23] rfl)) ?_) ?_
 ·rfl
 ·rfl
 rintro ⟨⟨i, g⟩, hI⟩ K5 hK5
 refine .cv (Cv.wk (.l [24, 1, 2, 6, 7, 22, 23] rfl)) (.memEq (M' := [grMK zc g ((qh lo hi (rs.take i)).map nz), (some b2, zB [isI (rs.length : Int), isI ((hi - lo : Nat) : Int), isGr g ((qh lo hi (rs.take i)).map nz).length]), (some b1, zB [isI 0, isI 0, nilS])]) rfl ?_)
 simp only [] at hI
 have hfl := hmx i hI
 refine .seq fun _ k6 => .region (st (.ltI (.t rfl) (.t rfl)) rfl (nl (.thn (k6 _ _ (.seq fun _ k7 => .cond (.t rfl) (fun hc1 => ?_) (fun hc1 => ?_))))))
 ·have hc1 := BP.t hc1
  obtain ⟨r, hr⟩ : ∃ r, rs[i]? = some r := ⟨_, List.getElem?_eq_getElem (by omega)⟩
  have hrW := hrow r (List.mem_of_getElem? hr)
  have hrm : (((r.take hi).drop lo).map nz).length = hi - lo := by rw [List.length_map, List.length_drop, List.length_take]; omega
  refine .skip (.thn (k7 _ _ (.seq fun _ k8 => .block (.seq fun _ k9 => .region (st (.ixP qv ty22 (.t rfl) (.t rfl) ⟨by omega, by omega⟩ hr) rfl (st (.loadP1 (.t rfl) ty22) rfl (st (.as (.t rfl)) rfl (nl (.thn (k9 _ _ (.dry zR (.tk 0 rfl rfl rfl rfl (OKY.fieldAddr (.t rfl) qU ty22) (.tk 2 rfl rfl rfl rfl (OKY.mv (.t rfl)) (.tk 3 rfl rfl rfl rfl (OKY.mv (.t rfl)) (.tk 4 rfl rfl rfl rfl (OKY.mv (.t rfl)) (.go [] (.s 1 [] rfl rfl rfl (.o rfl (.load1 (.t rfl) (i := 1) rfl ty22 rfl)) ?_)))))))))))))))))
  refine .s 5 [] rfl rfl rfl (.o rfl (.eq (.slLHK sl22 ty41 zO (.t rfl) (.t rfl) (.t rfl) ⟨by omega, by omega, by rw [List.length_map]; omega⟩) ((show _ = SlK 2 zc (((r.take hi).drop lo).map nz) from SlK_eq (by rw [List.map_drop, List.map_take]; rfl))))) ?_
  refine .fin [6, 7, 8] (by kernel_rfl) (by kernel_rfl) (fun _ _ _ _ _ h => h) (by kernel_rfl) (by kernel_rfl) (by kernel_rfl) (by kernel_rfl) (by kernel_rfl) (by kernel_rfl) (by kernel_rfl) (by kernel_rfl) (by kernel_rfl) (.cv (Cv.wk (.l [1, 2, 6, 7, 22, 23, 24, 25, 26, 27, 9, 28, 30, 31, 32, 29, 33] rfl)) (.appendGK0 (fk := zc) (u := (false, [])) zO (by decide) (fun _ => inferInstance) sl22 ty41 zG (fun _ _ => ⟨rfl, nilM _ _, trivial⟩) by41 (.t rfl) (i := 0) rfl (.t rfl) (by rw [List.length_map, hrm]; omega) rfl fun gr1 => ?_))
  refine .memEq (M' := [grMK _ _ _, _, _]) rfl (st (.fieldAddr (.t rfl) qU ty22) rfl (.store (.t rfl) (.t rfl) (i := 1) rfl ty22 rfl rfl (Ss' := [_, _, _]) rfl (M' := [_, (some _, zB [_, _, _]), _]) rfl (nl (.bln (.thn (k8 _ _ (.region (st (.addI (.t rfl) (.cI 1 rfl) (by omega) (by omega)) rfl (st (.mv (.t rfl)) rfl (nl (.thn ?_)))))))))))
  refine hK5 (⟨(i + 1, gr1), by show i + 1 ≤ rs.length; omega⟩) _ _ ?_ (Cv.mem (.c 24 rfl ?_ (.l [1, 2, 6, 7, 22, 23] rfl)) ?_)
  ·show rs.length - (i + 1) < rs.length - i; omega
  ·exact zE (by omega)
  ·exact grF_eq (by rw [cz hr, List.map_append, List.length_append]) (by rw [cz hr, List.map_append])
 ·have hc1 := BP.f hc1
  refine .exit (.the (.the (.blh (.thn (k3 _ _ (.cv (Cv.wk (.l [6, 7] rfl)) (.seq fun _ k10 => .cv (Cv.freezeF (k := 2) (i := 0) (j := 0) (o := 2) rfl rfl rfl rfl (aO zO) (wJ zO) (Ss' := [_, _, SlK 2 zc ((qh lo hi (rs.take i)).map nz)]) rfl) (.memEq (M' := [(some _, zB [_, _, SlK 2 zc ((qh lo hi (rs.take i)).map nz)]), _]) rfl (.cv (Cv.wk (.l [6, 7] rfl)) (.region (st (.load (.t rfl) (i := 0) rfl ty24 rfl (Ss' := [_, _, _]) rfl) rfl (.store (.t rfl) (.t rfl) (i := 1) rfl ty24 rfl rfl (Ss' := [_, _, _]) rfl (M' := [_, (some _, zB [_, _, _])]) rfl (nl (.thn (k10 _ _ (.ret (rt1 (.inl rfl) Tryz.results71 rfl (.cell rfl (i := 1) rfl ty24 rfl ?_ .nil))))))))))))))))))
  all_goals (exact wb (by rw [List.take_of_length_le (by omega)]))
end Go.Proofs.YthmhlblaleahpaaGreat
namespace Go.Proofs.YthmhlblaleahpaaGreat
open Go.En Go.RowKit
set_option maxRecDepth 10000
set_option maxHeartbeats 4000000
open Go.Nt
open Go.Pz
open Go.Mz
open Go.Hn
open Go.Hp
open Go.Dt
theorem hm_step {bw C c : Nat} {gt : Gr (List Int)} {s : HS} {m : Mem} (h : (hred s c).top < (hred s c).rows.length) : (hw0 bw gt (hcol (hred s c) c).rows.length C (hcol (hred s c) c).top :: grM isP gt (hcol (hred s c) c).rows :: m : Mem) = hw0 bw gt (hred s (c + 1)).rows.length C (hred s (c + 1)).top :: grM isP gt (hred s (c + 1)).rows :: m := by
 have e : hred s (c + 1) = hcol (hred s c) c := if_pos h
 rw [e]
theorem col_bq {K R a : Nat} (h : K + 4 ≤ a) (h2 : a * (R + 2) ≤ 80000000) : (a - 3 + 3) * (R + 2) ≤ 80000000 := by rw [Nat.sub_add_cancel (by omega)]; exact h2
theorem isMzp_eq {R C : Nat} {L : List Int} {s : HS} (hlen : s.rows.length = R) (h : s = hrm R C L) : isMz s.rows.length (C - 0) (qh 0 C s.rows) = isMz R C (qh 0 C (hrm R C L).rows) := by rw [hlen, h]; rfl
theorem isMzq_eq {R C : Nat} {L : List Int} {s : HS} (hlen : s.rows.length = R) (h : s = hrm R C L) : isMz s.rows.length (C + R - C) (qh C (C + R) s.rows) = isMz R R (qh C (C + R) (hrm R C L).rows) := by rw [hlen, h, Nat.add_sub_cancel_left]
theorem hnf_HermiteQ {R C K : Nat} {xs : List (Bool × List Nat)} (hx : Bd (vals xs) K) (hK : hq R (K + 4) (hrk R C (vals xs)) * (R + 2) ≤ 80000000) (hR : R ≤ 64) (hC : C ≤ 64) (hl : xs.length = R * C) : Ctr Tryz.prog 48 [isM (R : Int) (C : Int) xs] (zQ [isMz R C (qh 0 C (hrm R C (vals xs)).rows), isMz R R (qh C (C + R) (hrm R C (vals xs)).rows), isI 0]) := by
 refine Ctr.intro Tryz.func48 rfl (by kernel_rfl) Tryz.ntmps48 rfl fun w0 F0 => .cv (Cv.wk (.l [0] rfl)) ?_
 have hfo := zj hR hC hl
 have hok := vw (vJ (R := R) (C := C) hx)
 have hbq := hred_hq (vJ (R := R) (C := C) hx) rfl
 have hqs : ∀ c, c ≤ C → hq R (K + 4) (hred ⟨qH C R (vals xs) R, 0⟩ c).top * (R + 2) ≤ 80000000 := fun c hc => Nat.le_trans (Nat.mul_le_mul_right _ (hq_mono (hred_mono (vJ (R := R) (C := C) hx) hc) (hok C).top)) hK
 have hp0 : K + 4 ≤ 80000000 := Nat.le_trans (Nat.le_mul_of_pos_right _ (Nat.succ_pos (R + 1))) (hqs 0 (Nat.zero_le _))
 obtain ⟨n0, hn0⟩ : ∃ n0 : Nat, n0 = R := ⟨_, rfl⟩
 refine .seq fun _ k1 => .region (.box (.t rfl) rfl fun b1 => .alloc [isI 0, isI 0, nilS] zg (fun _ _ => ⟨⟨rfl, by decide, by decide⟩, ⟨rfl, by decide, by decide⟩, rfl, trivial⟩) rfl fun b2 => .alloc [isI 0, isI 0, nilS] zg (fun _ _ => ⟨⟨rfl, by decide, by decide⟩, ⟨rfl, by decide, by decide⟩, rfl, trivial⟩) rfl fun b3 => st (.as (.cI 0 rfl)) rfl (nl (.thn (k1 _ _ (.seq fun _ k2 => .seq fun _ k3 => .region (st (.load (.t rfl) (i := 2) rfl ty24 rfl (Ss' := [_, _, _]) rfl) rfl (st (.eq (.call (zh) (.cons (.t rfl) .nil)) ((show isB _ = isB true from zU hfo))) rfl (st (.not (.t rfl)) rfl (nl (.thn (k3 _ _ (.cond (.t rfl) (fun hc1 => ?_) (fun hc1 => ?_)))))))))))))
 ·have hc1 := BP.t hc1
  simp at hc1
 ·have hc1 := BP.f hc1
  refine .skip (.thn (k2 _ _ (.seq fun _ k4 => .region (st (.load (.t rfl) (i := 2) rfl ty24 rfl (Ss' := [_, _, _]) rfl) rfl (.callX (hnf_begun hx (by omega) hR hC hl) (List.Perm.refl _) (.cons (.t rfl) .nil) rfl ?_)))))
  rintro _ _ ⟨bw, gt, rfl, rfl⟩
  refine .memEq (M' := [hw0 bw gt (qH C R (vals xs) R).length C 0, grM isP gt (qH C R (vals xs) R), _, _, _]) rfl (st (.as (.t rfl)) rfl (nl (.thn (k4 _ _ (.cv (Cv.wk (.l [1, 2, 3, 4, 5] rfl)) (.seq fun _ k5 => .seq fun _ k6 => .region (st (.as (.cI 0 rfl)) rfl (nl (.thn (k6 _ _ (.block (.loopF [1, 2, 3, 4, 5] (fun (z : { c : Nat // c ≤ C }) => match z with | ⟨c, hc⟩ => [(6, isI (c : Int))]) (fun M => fun (z : { c : Nat // c ≤ C }) => match z with | ⟨c, hc⟩ => [hw0 bw gt (hred ⟨qH C R (vals xs) R, 0⟩ c).rows.length C (hred ⟨qH C R (vals xs) R, 0⟩ c).top, grM isP gt (hred ⟨qH C R (vals xs) R, 0⟩ c).rows, (some b3, zB [isI 0, isI 0, nilS]), (some b2, zB [isI 0, isI 0, nilS]), (some b1, zB [isI (R : Int), isI (C : Int), SlK 2 zc xs])]) (fun (z : { c : Nat // c ≤ C }) => match z with | ⟨c, hc⟩ => C - c) (⟨0, Nat.zero_le _⟩) (Cv.mem (.c 6 rfl ?_ (.l [1, 2, 3, 4, 5] rfl)) ?_) ?_))))))))))))
  ·rfl
  ·rfl
  rintro ⟨c, hc⟩ K7 hK7
  refine .cv (Cv.wk (.l [6, 1, 2, 3, 4, 5] rfl)) (.memEq (M' := [hw0 bw gt (hred ⟨qH C R (vals xs) R, 0⟩ c).rows.length C (hred ⟨qH C R (vals xs) R, 0⟩ c).top, grM isP gt (hred ⟨qH C R (vals xs) R, 0⟩ c).rows, (some b3, zB [isI 0, isI 0, nilS]), (some b2, zB [isI 0, isI 0, nilS]), (some b1, zB [isI (R : Int), isI (C : Int), SlK 2 zc xs])]) rfl ?_)
  have hoc := hok c
  have hlen := hoc.len
  have htop := hoc.top
  have hpc := hqs c hc
  refine .seq fun _ k8 => .seq fun _ k9 => .dr (.s [] rfl rfl rfl (.o rfl (.mv (.t rfl))) (.s [] rfl rfl rfl (.o rfl (.fieldAddr (.t rfl) zS ty3)) (.s [15] rfl rfl rfl (.o rfl (.load1 (.t rfl) (i := 4) rfl ty3 rfl)) (.s [14, 16] rfl rfl rfl (.o rfl (.ltI (.t rfl) (.t rfl))) (.s [17] rfl rfl rfl (.o rfl (.mv (.t rfl))) (.s [18] rfl rfl rfl (.T rfl rfl rfl (fun hg => .mv (.t rfl))) (.s [18, 19] rfl rfl rfl (.T rfl rfl rfl (fun hg => .nilc (Has.g rfl hg))) (.s [18, 20] rfl rfl rfl (.T rfl rfl rfl (fun hg => .fieldAddr (Has.g rfl hg) qw ty3)) (.s [18, 21] rfl rfl rfl (.T rfl rfl rfl (fun hg => .load1 (Has.g rfl hg) (i := 0) rfl ty3 rfl)) (.s [18] rfl rfl rfl (.T rfl rfl rfl (fun hg => .fieldAddr (.t rfl) zT ty3)) (.s [18, 23] rfl rfl rfl (.T rfl rfl rfl (fun hg => .load1 (Has.g rfl hg) (i := 4) rfl ty3 rfl)) (.fin (n := 11) zR (by kernel_rfl) (by kernel_rfl) (by kernel_rfl) (.cv (Cv.wk (.l [1, 2, 3, 4, 5, 6, 14, 15, 16, 17, 18, 19, 20, 21, 22, 23, 24] rfl)) (stT rfl rfl (fun hg => .ltI (Has.g rfl hg) (Has.g rfl hg)) rfl (st (.pickAnd (.t rfl) (fun h => Has.g rfl h)) rfl (nl (.thn (k9 _ _ (.cond (.t rfl) (fun hc2 => ?_) (fun hc2 => ?_))))))))))))))))))))
  ·have hc2 := BP.t hc2
   obtain ⟨hc1', hc2'⟩ := hc2
   refine .skip (.thn (k8 _ _ (.seq fun _ k10 => .block (.region (st (.mv (.t rfl)) rfl (st (.mv (.t rfl)) rfl (.callX (hnf_column (rs := (hred ⟨qH C R (vals xs) R, 0⟩ c).rows) (t := (hred ⟨qH C R (vals xs) R, 0⟩ c).top) (col := c) (W := C + R) (K := hq R (K + 4) (hred ⟨qH C R (vals xs) R, 0⟩ c).top - 3) hoc.row (by omega) (by omega) (by omega) (by omega) (hbq c) (by rw [hlen]; exact col_bq (hq_ge htop) hpc)) (List.Perm.refl _) (.cons (.t rfl) (.cons (.t rfl) .nil)) rfl ?_)))))))
   rintro _ _ ⟨rfl, rfl⟩
   refine .memEq (M' := [hw0 bw gt (hcol (hred ⟨qH C R (vals xs) R, 0⟩ c) c).rows.length C (hcol (hred ⟨qH C R (vals xs) R, 0⟩ c) c).top, grM isP gt (hcol (hred ⟨qH C R (vals xs) R, 0⟩ c) c).rows, _, _, _]) rfl (nl (.bln (.thn (k10 _ _ (.region (st (.mv (.t rfl)) rfl (st (.addI (.t rfl) (.cI 1 rfl) (by omega) (by omega)) rfl (st (.as (.t rfl)) rfl (nl (.thn (hK7 (⟨c + 1, by omega⟩) _ _ ?_ (Cv.mem (.c 6 rfl ?_ (.l [1, 2, 3, 4, 5] rfl)) ?_))))))))))))
   ·show C - (c + 1) < C - c; omega
   ·exact zE (by omega)
   ·exact hm_step (show (hred ⟨qH C R (vals xs) R, 0⟩ c).top < _ by omega)
  ·have hc2 := BP.f hc2
   have hst := hred_stop (vJ (R := R) (C := C) hx) hc (show ¬ (c < C ∧ _) from fun h => by omega)
   refine .exit (.the (.the (.blh (.thn (k5 _ _ (.cv (Cv.wk (.l [1, 2, 3, 4, 5] rfl)) (.seq fun _ k11 => .cv (Cv.freezeF (k := 1) (i := 1) (j := 0) (o := 0) rfl rfl rfl rfl gr_lenM gr_takeM (Ss' := [SlM isP ((hred ⟨qH C R (vals xs) R, 0⟩ c).rows), _, _]) rfl) (.memEq (M' := [(some _, zB [SlM isP ((hred ⟨qH C R (vals xs) R, 0⟩ c).rows), _, _]), _, _, _]) rfl (.cv (Cv.wk (.l [1, 2, 3, 4, 5] rfl)) (.cv (Cv.freezeBox (t := 5) (i := 0) rfl rfl rfl) (.memEq (M' := [_, _, _]) rfl (.cv (Cv.wk (.l [1, 2, 3, 4, 5] rfl)) (.dr (.s [] rfl rfl rfl (.o rfl (.mv (.t rfl))) (.s [] rfl rfl rfl (.o rfl (.fieldAddr (.t rfl) zS ty3)) (.s [33] rfl rfl rfl (.o rfl (.load1 (.t rfl) (i := 2) rfl ty3 rfl)) (.s [32, 34] rfl rfl rfl (.o rfl (.call (hnf_part (lo := 0) (hi := C) hoc.row (by omega) (by omega) (by omega) (by omega)) (.cons (.t rfl) (.cons (.cI 0 rfl) (.cons (.t rfl) .nil))))) (.s [] rfl rfl rfl (.o rfl (.mv (.t rfl))) (.s [] rfl rfl rfl (.o rfl (.fieldAddr (.t rfl) zS ty3)) (.s [37] rfl rfl rfl (.o rfl (.load1 (.t rfl) (i := 2) rfl ty3 rfl)) (.s [] rfl rfl rfl (.o rfl (.fieldAddr (.t rfl) zS ty3)) (.s [39] rfl rfl rfl (.o rfl (.load1 (.t rfl) (i := 2) rfl ty3 rfl)) (.s [] rfl rfl rfl (.o rfl (.fieldAddr (.t rfl) zT ty3)) (.s [41] rfl rfl rfl (.o rfl (.load1 (.t rfl) (i := 2) rfl ty3 rfl)) ?_))))))))))))))))))))))))
   refine .s [40, 42] rfl rfl rfl (.o rfl (.eq (.addI (.t rfl) (.t rfl) (by omega) (by omega)) ((show isI _ = isI ((C + R : Nat) : Int) from zE (by omega))))) (.fin (n := 12) zR (by kernel_rfl) (by kernel_rfl) (by kernel_rfl) (.cv (Cv.wk (.l [2, 3, 4, 35, 36, 38, 43] rfl)) (st (.call (hnf_part (lo := C) (hi := C + R) hoc.row (by omega) (by omega) (by omega) (by omega)) (.cons (.t rfl) (.cons (.t rfl) (.cons (.t rfl) .nil)))) rfl (.store (.t rfl) (.t rfl) (i := 1) rfl ty24 rfl rfl (Ss' := [_, _, _]) rfl (M' := [_, (some _, zB [_, _, _]), _]) rfl (.store (.t rfl) (.t rfl) (i := 0) rfl ty24 rfl rfl (Ss' := [_, _, _]) rfl (M' := [(some _, zB [_, _, _]), _, _]) rfl (st (.as (.cI 0 rfl)) rfl (nl (.thn (k11 _ _ (.cv (Cv.wk (.l [2, 3, 4] rfl)) (.ret (rtN (.inl rfl) Tryz.results48 rfl rfl (.cell rfl (i := 1) rfl ty24 rfl ?_ (.cell rfl (i := 0) rfl ty24 rfl ?_ (.tmp (Has.t' rfl ?_) .nil)))))))))))))))
   ·exact isMzp_eq hlen hst.symm
   ·exact isMzq_eq hlen hst.symm
   ·rfl
theorem hnf_Hermite {R C K : Nat} {xs : List (Bool × List Nat)} (hx : Bd (vals xs) K) (hK : (K + 4) * (R + 2) ^ C ≤ 1000000) (hR : R ≤ 64) (hC : C ≤ 64) (hl : xs.length = R * C) : Ctr Tryz.prog 48 [isM (R : Int) (C : Int) xs] (zQ [isMz R C (qh 0 C (hrm R C (vals xs)).rows), isMz R R (qh C (C + R) (hrm R C (vals xs)).rows), isI 0]) := hnf_HermiteQ hx (hq_ask hx hR hK) hR hC hl
theorem dU {xs : List (Bool × List Nat)} {K : Nat} (hx : Bd (vals xs) K) : Ctr Tryz.prog 102 [SlK 2 zc xs, aN (ι := { p : Bool × List Nat // (List.length (zA (val p.2))) ≤ K }) Tryz.prog (fun p => [Flat (zc p.1)]) (fun p => isB (decide (zv p.1.1 p.1.2 ≠ 0)))] (isI (fir xs.length (cf (vals xs)))) := by
 refine Ctr.intro Tryz.func102 rfl (by kernel_rfl) Tryz.ntmps102 rfl fun w0 F0 => .cv (Cv.wk (.l [0, 1] rfl)) (.fact (Has.lenLt (Has.t (t := 0) rfl)) fun lt0 => .seq fun _ k1 => .region (st (.as (.cI 0 rfl)) rfl (nl (.thn (k1 _ _ (.seq fun _ k2 => .seq fun _ k3 => .region (st (.mv (.t rfl)) rfl (st (.len sl22 (.t rfl)) rfl (st (.mv (.cI 0 rfl)) rfl (nl (.thn (k3 _ _ (.block (.loopF [0, 1, 7] (fun (z : { i : Nat // i ≤ xs.length ∧ ∀ j, j < i → cf (vals xs) j = 0 }) => match z with | ⟨i, hI⟩ => [(8, isI (i : Int))]) (fun M => fun (z : { i : Nat // i ≤ xs.length ∧ ∀ j, j < i → cf (vals xs) j = 0 }) => match z with | ⟨i, hI⟩ => M) (fun (z : { i : Nat // i ≤ xs.length ∧ ∀ j, j < i → cf (vals xs) j = 0 }) => match z with | ⟨i, hI⟩ => xs.length - i) (⟨0, Nat.zero_le _, fun j hj => absurd hj (Nat.not_lt_zero _)⟩) (Cv.mem (.c 8 rfl ?_ (.l [0, 1, 7] rfl)) ?_) ?_))))))))))))))
 ·rfl
 ·rfl
 rintro ⟨i, hi, hq⟩ K4 hK4
 refine .cv (Cv.wk (.l [8, 0, 1, 7] rfl)) (.seq fun _ k5 => .region (st (.ltI (.t rfl) (.t rfl)) rfl (nl (.thn (k5 _ _ (.seq fun _ k6 => .cond (.t rfl) (fun hc1 => ?_) (fun hc1 => ?_)))))))
 ·have hc1 := BP.t hc1
  refine .skip (.thn (k6 _ _ (.seq fun _ k7 => .block (.seq fun _ k8 => .region (st (.mv (.t rfl)) rfl (st (.as (.t rfl)) rfl (nl (.thn (k8 _ _ (.seq fun _ k9 => .region (st (.mv (.t rfl)) rfl (st (.mv (.t rfl)) rfl (st (.mv (.t rfl)) rfl (st (.ixK sl22 ty41 (.t rfl) (.t rfl) zO ⟨by omega, by omega⟩ (getD_some (d := (false, [])) (by omega))) rfl (st (.loadP (.t rfl) ty41 rfl (Ss' := [_, _]) rfl) rfl (st (.eq (.callV ⟨xs.getD i (false, []), hx.raw i⟩ (.t rfl) (.cons (.t rfl) .nil)) ((show _ = isB (decide (cf (vals xs) i ≠ 0)) from zU (by rw [zi])))) rfl (nl (.thn (k9 _ _ (.cond (.t rfl) (fun hc2 => ?_) (fun hc2 => ?_)))))))))))))))))))))
  ·have hc2 := BP.t hc2
   have HQ : cf (vals xs) i ≠ 0 := hc2
   refine .seq fun _ k10 => .region (st (.mv (.t rfl)) rfl (st (.as (.t rfl)) rfl (nl (.thn (k10 _ _ (.ret (.blr (.thr (.thr (.blr (.thr (rt1 (.inl rfl) Tryz.results102 rfl (.tmp (Has.t' rfl ?_) .nil)))))))))))))
   all_goals (exact zE (fir_at (by omega) hq HQ).symm)
  ·have hc2 := BP.f hc2
   have HQ : ¬ cf (vals xs) i ≠ 0 := hc2
   refine .skip (.bln (.thn (k7 _ _ (.region (st (.addI (.t rfl) (.cI 1 rfl) (by omega) (by omega)) rfl (st (.mv (.t rfl)) rfl (nl (.thn ?_))))))))
   refine hK4 (⟨i + 1, by omega, fun j hj => by rcases Nat.lt_or_ge j i with h | h; exact hq j h; obtain rfl : j = i := (by omega); exact Classical.not_not.1 HQ⟩) _ _ ?_ (Cv.mem (.c 8 rfl ?_ (.l [0, 1, 7] rfl)) ?_)
   ·show xs.length - (i + 1) < xs.length - i; omega
   ·exact zE (by omega)
   ·rfl
 ·have hc1 := BP.f hc1
  refine .exit (.the (.the (.blh (.thn (k2 _ _ (.cv (Cv.wk .nil) (.seq fun _ k11 => .region (st (.as (.cI (-1) rfl)) rfl (nl (.thn (k11 _ _ (.ret (rt1 (.inl rfl) Tryz.results102 rfl (.tmp (Has.t' rfl ?_) .nil))))))))))))))
  all_goals (exact zE (fir_all fun j hj => hq j (by omega)).symm)
theorem hnf_first_1 {m : Bool} {xs : List Nat} (hx : (List.length (zA (val xs))) < 4294700000) : Ctr Tryz.prog 103 [Flat [isB m, zD xs]] (isB (decide (zv m xs ≠ 0))) := by
 refine Ctr.intro Tryz.func103 rfl (by kernel_rfl) Tryz.ntmps103 rfl fun w0 F0 => .cv (Cv.wk (.l [0] rfl)) (.fact (Has.okZ (Has.t (t := 0) rfl)) fun okz0 => .seq fun _ k1 => .region (.box (.t rfl) rfl fun b1 => st (.as (.cB false)) rfl (nl (.thn (k1 _ _ (.seq fun _ k2 => .region (st (.load (.t rfl) (i := 0) rfl ty41 rfl (Ss' := [_, _]) rfl) rfl (st (.call (zd (by omega)) (.cons (.t rfl) .nil)) rfl (st (.neI (.t rfl) (.cI 0 rfl)) rfl (st (.as (.t rfl)) rfl (nl (.thn (k2 _ _ (.cv (Cv.wk (.l [2] rfl)) (.ret (rt1 (.inl rfl) Tryz.results103 rfl (.tmp (Has.t' rfl ?_) .nil)))))))))))))))))
 all_goals (exact zU (by simp [qn]))
theorem hnf_first {R C i K : Nat} {xs : List (Bool × List Nat)} (hx : Bd (vals xs) K) (hK : K ≤ 400000000) (hR : R ≤ 64) (hC : C ≤ 64) (hl : xs.length = R * C) (hi : i < R) : Ctr Tryz.prog 72 [isM (R : Int) (C : Int) xs, isI (i : Int)] (isI (fir C ((mf C (vals xs)) i))) := by
 refine Ctr.intro Tryz.func72 rfl (by kernel_rfl) Tryz.ntmps72 rfl fun w0 F0 => .cv (Cv.wk (.l [0, 1] rfl)) (.fact (Has.rngI (Has.t (t := 1) rfl)) fun lt1 => ?_)
 have hRC := qL hR hC
 have hpl1 : (i + 1) * C ≤ R * C := Nat.mul_le_mul_right _ hi
 have hpl2 : (i + 1) * C = i * C + C := Nat.succ_mul _ _
 have hc1 : ((i : Int) * (C : Int)) = ((i * C : Nat) : Int) := (Int.natCast_mul i C).symm
 have hc2 : (((i : Int) + 1) * (C : Int)) = (((i + 1) * C : Nat) : Int) := by rw [Int.natCast_mul]; rfl
 obtain ⟨ys, hys⟩ : ∃ ys, ys = (xs.take ((i + 1) * C)).drop (i * C) := ⟨_, rfl⟩
 have hyl : ys.length = C := by rw [hys, List.length_drop, List.length_take]; omega
 have hyv : ∀ k, k < C → cf (vals ys) k = (mf C (vals xs)) i k := fun k hk => by rw [hys]; exact bH (by omega)
 have hyb : Bd (vals ys) K := fun k => by
  rcases Nat.lt_or_ge k C with h | h
  ·rw [hyv k h]; exact hx _
  ·rw [xS (by rw [qJ]; omega), Int.natAbs_zero, zF]; exact Nat.zero_le _
 refine .seq fun _ k1 => .region (.box (.t rfl) rfl fun b1 => st (.as (.cI 0 rfl)) rfl (nl (.thn (k1 _ _ (.seq fun _ k2 => .region (st (.fieldAddr (.t rfl) qU ty22) rfl (st (.load1 (.t rfl) (i := 0) rfl ty22 rfl) rfl (st (.mv (.t rfl)) rfl (st (.fieldAddr (.t rfl) zS ty3) rfl (st (.load1 (.t rfl) (i := 0) rfl ty3 rfl) rfl (st (.eq (.mulI (.t rfl) (.t rfl) (by omega) (by omega)) ((show isI _ = isI ((i * C : Nat) : Int) from zE hc1))) rfl (st (.mv (.t rfl)) rfl (st (.addI (.t rfl) (.cI 1 rfl) (by omega) (by omega)) rfl (st (.fieldAddr (.t rfl) zS ty3) rfl (st (.load1 (.t rfl) (i := 0) rfl ty3 rfl) rfl (st (.eq (.mulI (.t rfl) (.t rfl) (by omega) (by omega)) ((show isI _ = isI (((i + 1) * C : Nat) : Int) from zE hc2))) rfl (st (.eq (.slLHK sl22 ty41 zO (.t rfl) (.t rfl) (.t rfl) ⟨by omega, by omega, by omega⟩) ((show _ = SlK 2 zc ys from SlK_eq (by rw [hys]; rfl)))) rfl ?_)))))))))))))))))
 refine st (.eq (.call (dU (K := K) hyb) (.cons (.t rfl) (.cons (Has.fn (fun p => hnf_first_1 (Nat.lt_of_le_of_lt p.2 (by omega)))) .nil))) ((show _ = isI (fir C ((mf C (vals xs)) i)) from zE (by rw [hyl]; exact fir_congr hyv)))) rfl ?_
 refine st (.as (.t rfl)) rfl (nl (.thn (k2 _ _ (.cv (Cv.wk (.l [4] rfl)) (.ret (rt1 (.inl rfl) Tryz.results72 rfl (.tmp (Has.t' rfl ?_) .nil)))))))
 all_goals (rfl)
theorem hnf_Pivots {R C K : Nat} {xs : List (Bool × List Nat)} (hx : Bd (vals xs) K) (hK : K ≤ 400000000) (hR : R ≤ 64) (hC : C ≤ 64) (hl : xs.length = R * C) : Ctr Tryz.prog 49 [isM (R : Int) (C : Int) xs] (SlM isI (pv (pivL C (mf C (vals xs)) R))) := by
 refine Ctr.intro Tryz.func49 rfl (by kernel_rfl) Tryz.ntmps49 rfl fun w0 F0 => .cv (Cv.wk (.l [0] rfl)) ?_
 have hRC := qL hR hC
 have hfo := zj hR hC hl
 refine .seq fun _ k1 => .region (.box (.t rfl) rfl fun b1 => st (.as (.cW (f := isI))) rfl (nl (.thn (k1 _ _ (.seq fun _ k2 => .seq fun _ k3 => .region (st (.load (.t rfl) (i := 0) rfl ty24 rfl (Ss' := [_, _, _]) rfl) rfl (st (.eq (.call (zh) (.cons (.t rfl) .nil)) ((show isB _ = isB true from zU (hfo)))) rfl (st (.not (.t rfl)) rfl (nl (.thn (k3 _ _ (.cond (.t rfl) (fun hc1 => ?_) (fun hc1 => ?_)))))))))))))
 ·have hc1 := BP.t hc1
  exfalso; simp at hc1
 ·have hc1 := BP.f hc1
  refine .skip (.thn (k2 _ _ (.seq fun _ k4 => .region (.cv (Cv.grow0 (α := Int) isI) (st (.as (Has.cGr (α := Int))) rfl (nl (.thn (k4 _ _ (.seq fun _ k5 => .seq fun _ k6 => .region (st (.fieldAddr (.t rfl) zT ty3) rfl (st (.load1 (.t rfl) (i := 1) rfl ty3 rfl) rfl (st (.mv (.cI 0 rfl)) rfl (nl (.thn (k6 _ _ (.cv (Cv.wk (.l [1, 2, 3, 10, 11] rfl)) (.block (.loopF [1, 2, 10] (fun (z : { z : Nat × Gr Int // z.1 ≤ R }) => match z with | ⟨(i, g), hI⟩ => [(11, isI (i : Int)), (3, isGr g (pv (pivL C (mf C (vals xs)) i)).length)]) (fun M => fun (z : { z : Nat × Gr Int // z.1 ≤ R }) => match z with | ⟨(i, g), hI⟩ => [grM isI g (pv (pivL C (mf C (vals xs)) i)), (some b1, zB [isI (R : Int), isI (C : Int), SlK 2 zc xs])]) (fun (z : { z : Nat × Gr Int // z.1 ≤ R }) => match z with | ⟨(i, g), hI⟩ => R - i) (⟨(0, Gr.nil), Nat.zero_le _⟩) (Cv.mem (.c 11 rfl ?_ (.c 3 rfl ?_ (.l [1, 2, 10] rfl))) ?_) ?_))))))))))))))))))
  ·rfl
  ·rfl
  ·rfl
  rintro ⟨⟨i, g⟩, hI⟩ K7 hK7
  refine .cv (Cv.wk (.l [11, 3, 1, 2, 10] rfl)) (.memEq (M' := [grM isI g (pv (pivL C (mf C (vals xs)) i)), (some b1, zB [isI (R : Int), isI (C : Int), SlK 2 zc xs])]) rfl ?_)
  simp only [] at hI
  have hpl := pivL_len C (mf C (vals xs)) i
  refine .seq fun _ k8 => .region (st (.ltI (.t rfl) (.t rfl)) rfl (nl (.thn (k8 _ _ (.seq fun _ k9 => .cond (.t rfl) (fun hc2 => ?_) (fun hc2 => ?_))))))
  ·have hc2 := BP.t hc2
   refine .skip (.thn (k9 _ _ (.seq fun _ k10 => .block (.seq fun _ k11 => .region (st (.mv (.t rfl)) rfl (st (.as (.t rfl)) rfl (nl (.thn (k11 _ _ (.seq fun _ k12 => .region (st (.load (.t rfl) (i := 1) rfl ty24 rfl (Ss' := [_, _, _]) rfl) rfl (st (.mv (.t rfl)) rfl (st (.call (hnf_first (i := i) hx hK hR hC hl (by omega)) (.cons (.t rfl) (.cons (.t rfl) .nil))) rfl (st (.as (.t rfl)) rfl (nl (.thn (k12 _ _ (.seq fun _ k13 => .region (st (.mv (.t rfl)) rfl (st (.geI (.t rfl) (.cI 0 rfl)) rfl (nl (.thn (k13 _ _ (.cond (.t rfl) (fun hc3 => ?_) (fun hc3 => ?_)))))))))))))))))))))))))
   ·have hc3 := BP.t hc3
    have hfk := fir_lt hc3
    refine .region (st (.mv (.t rfl)) rfl (st (.eq (.mv (.t rfl)) ((show _ = isI ((fc C ((mf C (vals xs)) i) : Nat) : Int) from zE (if_pos hfk)))) rfl (st (.buildS [isI 0] sl64 ty3 ax (fun _ _ => ⟨⟨rfl, by decide, by decide⟩, trivial⟩) rfl rfl (.cons (.t rfl) rfl rfl rfl .nil) rfl (S := SlM isI [((fc C ((mf C (vals xs)) i) : Nat) : Int)]) rfl) rfl (.appendG (f := isI) (u := 0) sl64 ty3 ax (fun _ _ => ⟨⟨rfl, by decide, by decide⟩, trivial⟩) (fun _ => inferInstance) by3 (.t rfl) (i := 0) rfl (.t rfl) (by rw [ww]; show _ + 1 ≤ _; omega) (by simp) rfl fun gr1 => ?_))))
    refine .memEq (M' := [grM _ _ _, _]) rfl (st (.as (.t rfl)) rfl (nl (.bln (.thn (k10 _ _ (.region (st (.addI (.t rfl) (.cI 1 rfl) (by omega) (by omega)) rfl (st (.mv (.t rfl)) rfl (nl (.thn ?_))))))))))
    refine hK7 (⟨(i + 1, gr1), by show i + 1 ≤ R; omega⟩) _ _ ?_ (Cv.mem (.c 11 rfl ?_ (.c 3 rfl ?_ (.l [1, 2, 10] rfl))) ?_)
    ·show R - (i + 1) < R - i; omega
    ·exact zE (by omega)
    ·exact qq (by rw [cY hfk, pv_app, List.length_append])
    ·exact grM_eq (by rw [cY hfk, pv_app])
   ·have hc3 := BP.f hc3
    have hfk := fir_no hc3
    refine .skip (.bln (.thn (k10 _ _ (.region (st (.addI (.t rfl) (.cI 1 rfl) (by omega) (by omega)) rfl (st (.mv (.t rfl)) rfl (nl (.thn ?_))))))))
    refine hK7 (⟨(i + 1, g), by show i + 1 ≤ R; omega⟩) _ _ ?_ (Cv.mem (.c 11 rfl ?_ (.c 3 rfl ?_ (.l [1, 2, 10] rfl))) ?_)
    ·show R - (i + 1) < R - i; omega
    ·exact zE (by omega)
    ·exact qq (by rw [ez hfk])
    ·exact grM_eq (by rw [ez hfk])
  ·have hc2 := BP.f hc2
   refine .exit (.the (.the (.blh (.thn (k5 _ _ (.seq fun _ k14 => .cv (Cv.freezeG (t := 3) (i := 0) (ys := pv (pivL C (mf C (vals xs)) i)) rfl rfl rfl) (.memEq (M' := [_]) rfl (.cv (Cv.wk (.l [1, 2, 10, 11, 3, 12] rfl)) (.region (st (.mv (.t rfl)) rfl (st (.as (.t rfl)) rfl (nl (.thn (k14 _ _ (.cv (Cv.wk (.l [2] rfl)) (.ret (rt1 (.inl rfl) Tryz.results49 rfl (.tmp (Has.t' rfl ?_) .nil))))))))))))))))))
   all_goals (exact zY (by rw [show i = R by omega]))
theorem zmat_alike {r c r2 c2 : Int} {xs ys : List (Bool × List Nat)} : Ctr Tryz.prog 133 [isM r c xs, isM r2 c2 ys] (isB (xe r c xs.length && xe r2 c2 ys.length && decide (r = r2) && decide (c = c2))) := by
 refine Ctr.intro Tryz.func133 rfl (by kernel_rfl) Tryz.ntmps133 rfl fun w0 F0 => .cv (Cv.wk (.l [0, 1] rfl)) (.seq fun _ k1 => .region (.box (.t rfl) rfl fun b1 => .box (.t rfl) rfl fun b2 => st (.as (.cB false)) rfl (nl (.thn (k1 _ _ (.seq fun _ k2 => .region (st (.load (.t rfl) (i := 1) rfl ty24 rfl (Ss' := [_, _, _]) rfl) rfl (st (.call (zh) (.cons (.t rfl) .nil)) rfl (st (.mv (.t rfl)) rfl (stT rfl rfl (fun hg => .load (.t rfl) (i := 0) rfl ty24 rfl (Ss' := [_, _, _]) rfl) rfl (stT rfl rfl (fun hg => .call (zh) (.cons (Has.g rfl hg) .nil)) rfl (st (.pickAnd (.t rfl) (fun h => Has.g rfl h)) rfl (st (.mv (.t rfl)) rfl (stT rfl rfl (fun hg => .fieldAddr (.t rfl) zT ty3) rfl (stT rfl rfl (fun hg => .load1 (Has.g rfl hg) (i := 1) rfl ty3 rfl) rfl (stT rfl rfl (fun hg => .fieldAddr (.t rfl) zT ty3) rfl (stT rfl rfl (fun hg => .load1 (Has.g rfl hg) (i := 0) rfl ty3 rfl) rfl (stT rfl rfl (fun hg => .eqI (Has.g rfl hg) (Has.g rfl hg)) rfl (st (.pickAnd (.t rfl) (fun h => Has.g rfl h)) rfl (st (.mv (.t rfl)) rfl (stT rfl rfl (fun hg => .fieldAddr (.t rfl) zS ty3) rfl (stT rfl rfl (fun hg => .load1 (Has.g rfl hg) (i := 1) rfl ty3 rfl) rfl (stT rfl rfl (fun hg => .fieldAddr (.t rfl) zS ty3) rfl (stT rfl rfl (fun hg => .load1 (Has.g rfl hg) (i := 0) rfl ty3 rfl) rfl (stT rfl rfl (fun hg => .eqI (Has.g rfl hg) (Has.g rfl hg)) rfl ?_)))))))))))))))))))))))))
 refine st (.pickAnd (.t rfl) (fun h => Has.g rfl h)) rfl (st (.as (.t rfl)) rfl (nl (.thn (k2 _ _ (.cv (Cv.wk (.l [4] rfl)) (.ret (rt1 (.inl rfl) Tryz.results133 rfl (.tmp (Has.t' rfl ?_) .nil))))))))
 all_goals (rfl)
theorem dV {xs ys : List (Bool × List Nat)} {K : Nat} (hx : Bd (vals xs) K) (hy : Bd (vals ys) K) : Ctr Tryz.prog 134 [SlK 2 zc xs, SlK 2 zc ys, aN (ι := PR K) Tryz.prog (fun p => [Flat (zc p.1.1), Flat (zc p.1.2)]) (fun p => isB (decide (zv p.1.1.1 p.1.1.2 = zv p.1.2.1 p.1.2.2)))] (isB (decide (vals xs = vals ys))) := by
 refine Ctr.intro Tryz.func134 rfl (by kernel_rfl) Tryz.ntmps134 rfl fun w0 F0 => .cv (Cv.wk (.l [0, 1, 2] rfl)) (.fact (Has.lenLt (Has.t (t := 0) rfl)) fun lt0 => .fact (Has.lenLt (Has.t (t := 1) rfl)) fun lt1 => .seq fun _ k1 => .region (st (.as (.cB false)) rfl (nl (.thn (k1 _ _ (.seq fun _ k2 => .seq fun _ k3 => .region (st (.mv (.t rfl)) rfl (st (.len sl22 (.t rfl)) rfl (st (.mv (.t rfl)) rfl (st (.len sl22 (.t rfl)) rfl (st (.neI (.t rfl) (.t rfl)) rfl (nl (.thn (k3 _ _ (.cond (.t rfl) (fun hc1 => ?_) (fun hc1 => ?_))))))))))))))))
 ·have hc1 := BP.t hc1
  skip
  refine .seq fun _ k4 => .region (st (.as (.cB false)) rfl (nl (.thn (k4 _ _ (.cv (Cv.wk (.l [0, 1, 2, 6] rfl)) (.ret (.thr (rt1 (.inl rfl) Tryz.results134 rfl (.tmp (Has.t' rfl ?_) .nil)))))))))
  all_goals (exact zU (decide_eq_false fun h => by have := congrArg List.length h; rw [qJ, qJ] at this; omega).symm)
 ·have hc1 := BP.f hc1
  have hll : xs.length = ys.length := (by omega)
  refine .skip (.thn (k2 _ _ (.cv (Cv.wk (.l [0, 1, 2, 6] rfl)) (.seq fun _ k5 => .seq fun _ k6 => .region (st (.mv (.t rfl)) rfl (st (.len sl22 (.t rfl)) rfl (st (.mv (.cI 0 rfl)) rfl (nl (.thn (k6 _ _ (.block (.loopF [1, 2, 15, 16] (fun (z : { i : Nat // i ≤ xs.length ∧ ∀ j, j < i → cf (vals xs) j = cf (vals ys) j }) => match z with | ⟨i, hI⟩ => [(17, isI (i : Int))]) (fun M => fun (z : { i : Nat // i ≤ xs.length ∧ ∀ j, j < i → cf (vals xs) j = cf (vals ys) j }) => match z with | ⟨i, hI⟩ => M) (fun (z : { i : Nat // i ≤ xs.length ∧ ∀ j, j < i → cf (vals xs) j = cf (vals ys) j }) => match z with | ⟨i, hI⟩ => xs.length - i) (⟨0, Nat.zero_le _, fun j hj => absurd hj (Nat.not_lt_zero _)⟩) (Cv.mem (.c 17 rfl ?_ (.l [1, 2, 15, 16] rfl)) ?_) ?_))))))))))))
  ·rfl
  ·rfl
  rintro ⟨i, hi, hq⟩ K7 hK7
  refine .cv (Cv.wk (.l [17, 1, 2, 15, 16] rfl)) (.seq fun _ k8 => .region (st (.ltI (.t rfl) (.t rfl)) rfl (nl (.thn (k8 _ _ (.seq fun _ k9 => .cond (.t rfl) (fun hc2 => ?_) (fun hc2 => ?_)))))))
  ·have hc2 := BP.t hc2
   refine .skip (.thn (k9 _ _ (.seq fun _ k10 => .block (.seq fun _ k11 => .region (st (.mv (.t rfl)) rfl (st (.ixK sl22 ty41 (.t rfl) (.t rfl) zO ⟨by omega, by omega⟩ (getD_some (d := (false, [])) (by omega))) rfl (st (.loadP (.t rfl) ty41 rfl (Ss' := [_, _]) rfl) rfl (.alloc [isB false, SlM isU []] zG (fun _ _ => ⟨rfl, nilM _ _, trivial⟩) rfl fun b1 => st (.as (.t rfl)) rfl (.store (.t rfl) (.t rfl) (i := 0) rfl ty41 rfl rfl (Ss' := [_, _]) rfl (M' := [(some _, zB [_, _])]) rfl (nl (.thn (k11 _ _ (.seq fun _ k12 => .region (st (.mv (.t rfl)) rfl (st (.mv (.t rfl)) rfl (st (.ixK sl22 ty41 (.t rfl) (.t rfl) zO ⟨by omega, by omega⟩ (getD_some (d := (false, [])) (by omega))) rfl (st (.loadP (.t rfl) ty41 rfl (Ss' := [_, _]) rfl) rfl (.alloc [isB false, SlM isU []] zG (fun _ _ => ⟨rfl, nilM _ _, trivial⟩) rfl fun b2 => .store (.t rfl) (.t rfl) (i := 0) rfl ty41 rfl rfl (Ss' := [_, _]) rfl (M' := [(some _, zB [_, _]), _]) rfl (nl (.thn (k12 _ _ (.seq fun _ k13 => .region (st (.mv (.t rfl)) rfl (st (.load (.t rfl) (i := 1) rfl ty41 rfl (Ss' := [_, _]) rfl) rfl (st (.load (.t rfl) (i := 0) rfl ty41 rfl (Ss' := [_, _]) rfl) rfl (st (.callV ⟨(xs.getD i (false, []), ys.getD i (false, [])), hx.raw i, hy.raw i⟩ (.t rfl) (.cons (.t rfl) (.cons (.t rfl) .nil))) rfl (st (.not (.t rfl)) rfl (nl (.thn (k13 _ _ (.cond (.t rfl) (fun hc3 => ?_) (fun hc3 => ?_))))))))))))))))))))))))))))))))
   ·have hc3 := BP.t hc3
    have HQ : ¬ cf (vals xs) i = cf (vals ys) i := (by rw [zi, zi]; simpa using hc3)
    refine .seq fun _ k14 => .region (st (.as (.cB false)) rfl (nl (.thn (k14 _ _ (.ret (.blr (.thr (.thr (.blr (.thr (rt1 (.inl rfl) Tryz.results134 rfl (.tmp (Has.t' rfl ?_) .nil))))))))))))
    all_goals (exact zU (decide_eq_false fun h => HQ (by rw [h])).symm)
   ·have hc3 := BP.f hc3
    have HQ : cf (vals xs) i = cf (vals ys) i := (by rw [zi, zi]; simpa using hc3)
    refine .skip (.bln (.thn (k10 _ _ (.region (st (.addI (.t rfl) (.cI 1 rfl) (by omega) (by omega)) rfl (st (.mv (.t rfl)) rfl (nl (.thn ?_))))))))
    refine hK7 (⟨i + 1, by omega, fun j hj => by rcases Nat.lt_or_ge j i with h | h; exact hq j h; obtain rfl : j = i := (by omega); exact HQ⟩) _ _ ?_ (Cv.trans (Cv.drop ((.cons _ (.cons _ .slnil)))) (Cv.mem (.c 17 rfl ?_ (.l [1, 2, 15, 16] rfl)) ?_))
    ·show xs.length - (i + 1) < xs.length - i; omega
    ·exact zE (by omega)
    ·rfl
  ·have hc2 := BP.f hc2
   refine .exit (.the (.the (.blh (.thn (k5 _ _ (.cv (Cv.wk .nil) (.seq fun _ k15 => .region (st (.as (.cB true)) rfl (nl (.thn (k15 _ _ (.ret (rt1 (.inl rfl) Tryz.results134 rfl (.tmp (Has.t' rfl ?_) .nil))))))))))))))
   all_goals (exact zU (decide_eq_true (dC (by rw [qJ, qJ]; exact hll) fun j hj => hq j (by rw [qJ] at hj; omega))).symm)
theorem zmat_Same {r c r2 c2 : Int} {xs ys : List (Bool × List Nat)} {K : Nat} (hx : Bd (vals xs) K) (hy : Bd (vals ys) K) (hK : K ≤ 4000000000) : Ctr Tryz.prog 127 [isM r c xs, isM r2 c2 ys] (isB (xe r c xs.length && xe r2 c2 ys.length && decide (r = r2) && decide (c = c2) && decide (vals xs = vals ys))) := by
 refine Ctr.intro Tryz.func127 rfl (by kernel_rfl) Tryz.ntmps127 rfl fun w0 F0 => .cv (Cv.wk (.l [0, 1] rfl)) (.seq fun _ k1 => .region (.box (.t rfl) rfl fun b1 => .box (.t rfl) rfl fun b2 => st (.as (.cB false)) rfl (nl (.thn (k1 _ _ (.seq fun _ k2 => .region (st (.load (.t rfl) (i := 1) rfl ty24 rfl (Ss' := [_, _, _]) rfl) rfl (st (.load (.t rfl) (i := 0) rfl ty24 rfl (Ss' := [_, _, _]) rfl) rfl (st (.call (zmat_alike) (.cons (.t rfl) (.cons (.t rfl) .nil))) rfl (st (.mv (.t rfl)) rfl (stT rfl rfl (fun hg => .fieldAddr (.t rfl) qU ty22) rfl (stT rfl rfl (fun hg => .load1 (Has.g rfl hg) (i := 1) rfl ty22 rfl) rfl (stT rfl rfl (fun hg => .fieldAddr (.t rfl) qU ty22) rfl (stT rfl rfl (fun hg => .load1 (Has.g rfl hg) (i := 0) rfl ty22 rfl) rfl ?_))))))))))))))
 refine stT rfl rfl (fun hg => have hg' := BP.t hg; OK1.call (dV hx hy) (.cons (Has.g rfl hg) (.cons (Has.g rfl hg) (.cons (Has.fn (fun i => dg (by have := i.2.1; omega) (by have := i.2.2; omega))) .nil)))) rfl ?_
 refine st (.pickAnd (.t rfl) (fun h => Has.g rfl h)) rfl (st (.as (.t rfl)) rfl (nl (.thn (k2 _ _ (.cv (Cv.wk (.l [4] rfl)) (.ret (rt1 (.inl rfl) Tryz.results127 rfl (.tmp (Has.t' rfl ?_) .nil))))))))
 all_goals (rfl)
theorem zmat_Rows_1 {r : Int} {C i k lo : Nat} {xs : List (Bool × List Nat)} (hxm : xs.length ≤ 4096) (hlo : lo + i ≤ 100) (hp : (lo + i) * C + k < xs.length) : Ctr Tryz.prog 73 [isI (i : Int), isI (k : Int), ptM r (C : Int) xs, PtrL [isI (lo : Int)]] (Flat (zc (xs.getD ((lo + i) * C + k) (false, [])))) := by
 refine Ctr.intro Tryz.func73 rfl (by kernel_rfl) Tryz.ntmps73 rfl fun w0 F0 => .cv (Cv.wk (.l [0, 1, 2, 3] rfl)) (.fact (Has.rngI (Has.t (t := 0) rfl)) fun lt0 => .fact (Has.rngI (Has.t (t := 1) rfl)) fun lt1 => .seq fun _ k1 => .region (.alloc [isB false, SlM isU []] zG (fun _ _ => ⟨rfl, nilM _ _, trivial⟩) rfl fun b1 => nl (.thn (k1 _ _ (.seq fun _ k2 => .region (st (.loadP (.t rfl) ty24 rfl (Ss' := [_, _, _]) rfl) rfl (st (.loadP1 (.t rfl) ty3) rfl (st (.mv (.t rfl)) rfl (st (.eq (.addI (.t rfl) (.t rfl) (by omega) (by omega)) ((show isI _ = isI ((lo + i : Nat) : Int) from zE (by omega)))) rfl (st (.mv (.t rfl)) rfl (st (.call (vc (i := lo + i) (k := k) hxm hp) (.cons (.t rfl) (.cons (.t rfl) (.cons (.t rfl) .nil)))) rfl (.store (.t rfl) (.t rfl) (i := 0) rfl ty41 rfl rfl (Ss' := [_, _]) rfl (M' := [(some _, zB [_, _])]) rfl (nl (.thn (k2 _ _ (.cv (Cv.wk (.l [6] rfl)) (.ret (rt1 (.inl rfl) Tryz.results73 rfl (.cell rfl (i := 0) rfl ty41 rfl ?_ .nil)))))))))))))))))))
 all_goals (rfl)
theorem wO {R C K lo hi : Nat} {xs : List (Bool × List Nat)} (hx : Bd (vals xs) K) (hK : K ≤ 400000000) (hR : R ≤ 64) (hC : C ≤ 64) (hl : xs.length = R * C) (h1 : lo ≤ hi) (h2 : hi ≤ R) : Ctr Tryz.prog 51 [isM (R : Int) (C : Int) xs, isI (lo : Int), isI (hi : Int)] (zQ [isMz ((hi - lo : Nat)) C (tab ((hi - lo) * C) C fun i k => cf (vals xs) ((lo + i) * C + k)), isI 0]) := by
 refine Ctr.intro Tryz.func51 rfl (by kernel_rfl) Tryz.ntmps51 rfl fun w0 F0 => .cv (Cv.wk (.l [0, 1, 2] rfl)) (.fact (Has.rngI (Has.t (t := 1) rfl)) fun lt1 => .fact (Has.rngI (Has.t (t := 2) rfl)) fun lt2 => ?_)
 have hRC := qL hR hC
 have hfo := zj hR hC hl
 refine .seq fun _ k1 => .region (.box (.t rfl) rfl fun b1 => .box (.t rfl) rfl fun b2 => .alloc [isI 0, isI 0, nilS] zg (fun _ _ => ⟨⟨rfl, by decide, by decide⟩, ⟨rfl, by decide, by decide⟩, rfl, trivial⟩) rfl fun b3 => st (.as (.cI 0 rfl)) rfl (nl (.thn (k1 _ _ (.seq fun _ k2 => .block (.seq fun _ k3 => .region (st (.load (.t rfl) (i := 2) rfl ty24 rfl (Ss' := [_, _, _]) rfl) rfl (st (.eq (.call (zh) (.cons (.t rfl) .nil)) ((show isB _ = isB true from zU (hfo)))) rfl (st (.not (.t rfl)) rfl (st (.as (.t rfl)) rfl (nl (.thn (k3 _ _ (.cv (Cv.wk (.l [2, 3, 4, 6, 7, 8] rfl)) (.cond (.t rfl) (fun hc1 => ?_) (fun hc1 => ?_))))))))))))))))
 ·have hc1 := BP.t hc1
  exfalso; simp at hc1
 ·have hc1 := BP.f hc1
  refine .seq fun _ k4 => .region (st (.load1 (.t rfl) (i := 1) rfl ty3 rfl) rfl (st (.ltI (.t rfl) (.cI 0 rfl)) rfl (st (.mv (.t rfl)) rfl (stF rfl rfl (fun hg => .load1 (.t rfl) (i := 1) rfl ty3 rfl) rfl (stF rfl rfl (fun hg => .mv (.t rfl)) rfl (stF rfl rfl (fun hg => .gtI (Has.g rfl hg) (Has.g rfl hg)) rfl (st (.pickOr (.t rfl) (fun h => Has.g rfl (ng h))) rfl (st (.mv (.t rfl)) rfl (stF rfl rfl (fun hg => .mv (.t rfl)) rfl (stF rfl rfl (fun hg => .fieldAddr (.t rfl) zT ty3) rfl (stF rfl rfl (fun hg => .load1 (Has.g rfl hg) (i := 2) rfl ty3 rfl) rfl (stF rfl rfl (fun hg => .gtI (Has.g rfl hg) (Has.g rfl hg)) rfl (st (.pickOr (.t rfl) (fun h => Has.g rfl (ng h))) rfl (st (.as (.t rfl)) rfl (nl (.thn (k4 _ _ (.cv (Cv.wk (.l [2, 3, 4, 6, 7, 13] rfl)) (.cond (.t rfl) (fun hc2 => ?_) (fun hc2 => ?_))))))))))))))))))))
  ·have hc2 := BP.t hc2
   exfalso; omega
  ·have hc2 := BP.f hc2
   refine .skip (.bln (.thn (k2 _ _ (.seq fun _ k5 => .region (st (.mv (.t rfl)) rfl (st (.load1 (.t rfl) (i := 1) rfl ty3 rfl) rfl (st (.eq (.subI (.t rfl) (.t rfl) (by omega) (by omega)) ((show isI _ = isI ((hi - lo : Nat) : Int) from zE (by omega)))) rfl (st (.fieldAddr (.t rfl) zS ty3) rfl (st (.load1 (.t rfl) (i := 2) rfl ty3 rfl) rfl (.cv (Cv.freezeBox (t := 3) (i := 2) rfl rfl rfl) (.memEq (M' := [_, _]) rfl (.cv (Cv.wk (.l [2, 3, 4, 6, 7, 13, 28, 29, 30, 32] rfl)) (.cv (Cv.freezeBox (t := 4) (i := 1) rfl rfl rfl) (.memEq (M' := [_]) rfl (.cv (Cv.wk (.l [2, 3, 4, 6, 7, 13, 28, 29, 30, 32] rfl)) (st (.makeFn (ι := PI (hi - lo) C) (As := fun p => [isI (p.1.1 : Int), isI (p.1.2 : Int)]) (R := fun p => Flat (zc (xs.getD ((lo + p.1.1) * C + p.1.2) (false, [])))) (fun p => zmat_Rows_1 (by omega) (by have := p.2.1; omega) (by have := qG (show lo + p.1.1 < R by have := p.2.1; omega) p.2.2; omega)) .nil (.cons (.t rfl) (.cons (.t rfl) .nil))) rfl ?_))))))))))))))))
   refine st (.call (jI (f := fun i k => xs.getD ((lo + i) * C + k) (false, [])) (by omega) hC (fun i k _ _ => Nat.le_trans (hx.raw _) (by omega))) (.cons (.t rfl) (.cons (.t rfl) (.cons (.t rfl) .nil)))) rfl (.store (.t rfl) (.t rfl) (i := 0) rfl ty24 rfl rfl (Ss' := [_, _, _]) rfl (M' := [(some _, zB [_, _, _])]) rfl (st (.as (.cI 0 rfl)) rfl (nl (.thn (k5 _ _ (.cv (Cv.wk (.l [6, 7] rfl)) (.ret (rtN (.inl rfl) Tryz.results51 rfl rfl (.cell rfl (i := 0) rfl ty24 rfl ?_ (.tmp (Has.t' rfl ?_) .nil))))))))))
   ·exact wb (by congr 1; funext i k; rw [zi])
   ·rfl
theorem eX {R R' C i k : Nat} {xs ys : List (Bool × List Nat)} (hxm : xs.length ≤ 4096) (hym : ys.length ≤ 4096) (hxl : xs.length = R * C) (hyl : ys.length = R' * C) (hi : i < R + R') (hk : k < C) : Ctr Tryz.prog 78 [isI (i : Int), isI (k : Int), ptM (R : Int) (C : Int) xs, ptM (R' : Int) (C : Int) ys] (Flat (zc (if i < R then xs.getD (i * C + k) (false, []) else ys.getD ((i - R) * C + k) (false, [])))) := by
 refine Ctr.intro Tryz.func78 rfl (by kernel_rfl) Tryz.ntmps78 rfl fun w0 F0 => .cv (Cv.wk (.l [0, 1, 2, 3] rfl)) (.fact (Has.rngI (Has.t (t := 0) rfl)) fun lt0 => .fact (Has.rngI (Has.t (t := 1) rfl)) fun lt1 => .seq fun _ k1 => .region (.alloc [isB false, SlM isU []] zG (fun _ _ => ⟨rfl, nilM _ _, trivial⟩) rfl fun b1 => nl (.thn (k1 _ _ (.seq fun _ k2 => .seq fun _ k3 => .region (st (.mv (.t rfl)) rfl (st (.fieldAddrP (.t rfl) zT ty3 (Ss' := [_, _, _]) rfl) rfl (st (.loadP1 (.t rfl) ty3) rfl (st (.ltI (.t rfl) (.t rfl)) rfl (nl (.thn (k3 _ _ (.cond (.t rfl) (fun hc1 => ?_) (fun hc1 => ?_))))))))))))))
 ·have hc1 := BP.t hc1
  refine .seq fun _ k4 => .region (st (.loadP (.t rfl) ty24 rfl (Ss' := [_, _, _]) rfl) rfl (st (.mv (.t rfl)) rfl (st (.mv (.t rfl)) rfl (st (.call (vc (i := i) (k := k) hxm (by have := qG (show i < R by omega) hk; omega)) (.cons (.t rfl) (.cons (.t rfl) (.cons (.t rfl) .nil)))) rfl ?_))))
  refine .store (.t rfl) (.t rfl) (i := 0) rfl ty41 rfl rfl (Ss' := [_, _]) rfl (M' := [(some _, zB [_, _])]) rfl (nl (.thn (k4 _ _ (.cv (Cv.wk (.l [0, 1, 2, 3, 6] rfl)) (.ret (.thr (rt1 (.inl rfl) Tryz.results78 rfl (.cell rfl (i := 0) rfl ty41 rfl ?_ .nil))))))))
  all_goals (rw [if_pos (by omega)])
 ·have hc1 := BP.f hc1
  refine .skip (.thn (k2 _ _ (.seq fun _ k5 => .region (st (.loadP (.t rfl) ty24 rfl (Ss' := [_, _, _]) rfl) rfl (st (.mv (.t rfl)) rfl (st (.fieldAddrP (.t rfl) zT ty3 (Ss' := [_, _, _]) rfl) rfl (st (.loadP1 (.t rfl) ty3) rfl (st (.eq (.subI (.t rfl) (.t rfl) (by omega) (by omega)) ((show isI _ = isI ((i - R : Nat) : Int) from zE (by omega)))) rfl (st (.mv (.t rfl)) rfl (st (.call (vc (i := i - R) (k := k) hym (by have := qG (show i - R < R' by omega) hk; omega)) (.cons (.t rfl) (.cons (.t rfl) (.cons (.t rfl) .nil)))) rfl ?_))))))))))
  refine .store (.t rfl) (.t rfl) (i := 0) rfl ty41 rfl rfl (Ss' := [_, _]) rfl (M' := [(some _, zB [_, _])]) rfl (nl (.thn (k5 _ _ (.cv (Cv.wk (.l [6] rfl)) (.ret (rt1 (.inl rfl) Tryz.results78 rfl (.cell rfl (i := 0) rfl ty41 rfl ?_ .nil)))))))
  all_goals (rw [if_neg (by omega)])
theorem bv {R R' C K : Nat} {xs ys : List (Bool × List Nat)} (hx : Bd (vals xs) K) (hy : Bd (vals ys) K) (hK : K ≤ 400000000) (hR : R + R' ≤ 64) (hC : C ≤ 64) (hl : xs.length = R * C) (hyl : ys.length = R' * C) : Ctr Tryz.prog 55 [isM (R : Int) (C : Int) xs, isM (R' : Int) (C : Int) ys] (zQ [isMz ((R + R' : Nat)) C (stkL R R' C (vals xs) (vals ys)), isI 0]) := by
 refine Ctr.intro Tryz.func55 rfl (by kernel_rfl) Tryz.ntmps55 rfl fun w0 F0 => .cv (Cv.wk (.l [0, 1] rfl)) ?_
 have h1 := qL (show R ≤ 64 by omega) hC
 have h2 := qL (show R' ≤ 64 by omega) hC
 have hfo := zj (show R ≤ 64 by omega) hC hl
 have hfo' := zj (show R' ≤ 64 by omega) hC hyl
 refine .seq fun _ k1 => .region (.box (.t rfl) rfl fun b1 => .box (.t rfl) rfl fun b2 => .alloc [isI 0, isI 0, nilS] zg (fun _ _ => ⟨⟨rfl, by decide, by decide⟩, ⟨rfl, by decide, by decide⟩, rfl, trivial⟩) rfl fun b3 => st (.as (.cI 0 rfl)) rfl (nl (.thn (k1 _ _ (.seq fun _ k2 => .block (.seq fun _ k3 => .region (st (.load (.t rfl) (i := 2) rfl ty24 rfl (Ss' := [_, _, _]) rfl) rfl (st (.eq (.call (zh) (.cons (.t rfl) .nil)) ((show isB _ = isB true from zU (hfo)))) rfl (st (.not (.t rfl)) rfl (st (.mv (.t rfl)) rfl (stF rfl rfl (fun hg => .load (.t rfl) (i := 1) rfl ty24 rfl (Ss' := [_, _, _]) rfl) rfl (stF rfl rfl (fun hg => .eq (.call (zh) (.cons (Has.g rfl hg) .nil)) ((show isB _ = isB true from zU (hfo')))) rfl (stF rfl rfl (fun hg => .not (Has.g rfl hg)) rfl (st (.pickOr (.t rfl) (fun h => Has.g rfl (ng h))) rfl (st (.mv (.t rfl)) rfl (stF rfl rfl (fun hg => .fieldAddr (.t rfl) zS ty3) rfl (stF rfl rfl (fun hg => .load1 (Has.g rfl hg) (i := 2) rfl ty3 rfl) rfl (stF rfl rfl (fun hg => .fieldAddr (.t rfl) zS ty3) rfl (stF rfl rfl (fun hg => .load1 (Has.g rfl hg) (i := 1) rfl ty3 rfl) rfl (stF rfl rfl (fun hg => .neI (Has.g rfl hg) (Has.g rfl hg)) rfl (st (.pickOr (.t rfl) (fun h => Has.g rfl (ng h))) rfl (st (.as (.t rfl)) rfl (nl (.thn (k3 _ _ (.cv (Cv.wk (.l [2, 3, 4, 5, 6] rfl)) ?_))))))))))))))))))))))))))
 refine .cond (.t rfl) (fun hc1 => ?_) (fun hc1 => ?_)
 ·have hc1 := BP.t hc1
  exfalso; simp at hc1
 ·have hc1 := BP.f hc1
  refine .seq fun _ k4 => .region (st (.fieldAddr (.t rfl) zT ty3) rfl (st (.load1 (.t rfl) (i := 2) rfl ty3 rfl) rfl (st (.fieldAddr (.t rfl) zT ty3) rfl (st (.load1 (.t rfl) (i := 1) rfl ty3 rfl) rfl (st (.eq (.addI (.t rfl) (.t rfl) (by omega) (by omega)) ((show isI _ = isI ((R + R' : Nat) : Int) from zE (by omega)))) rfl (st (.call (jH) (.cons (.t rfl) .nil)) rfl (st (.not (.t rfl)) rfl (st (.as (.t rfl)) rfl (nl (.thn (k4 _ _ (.cv (Cv.wk (.l [2, 3, 4, 5, 23] rfl)) (.cond (.t rfl) (fun hc2 => ?_) (fun hc2 => ?_))))))))))))))
  ·have hc2 := BP.t hc2
   exfalso; simp at hc2; omega
  ·have hc2 := BP.f hc2
   refine .skip (.bln (.thn (k2 _ _ (.seq fun _ k5 => .region (st (.fieldAddr (.t rfl) zT ty3) rfl (st (.load1 (.t rfl) (i := 2) rfl ty3 rfl) rfl (st (.fieldAddr (.t rfl) zT ty3) rfl (st (.load1 (.t rfl) (i := 1) rfl ty3 rfl) rfl (st (.eq (.addI (.t rfl) (.t rfl) (by omega) (by omega)) ((show isI _ = isI ((R + R' : Nat) : Int) from zE (by omega)))) rfl (st (.fieldAddr (.t rfl) zS ty3) rfl (st (.load1 (.t rfl) (i := 2) rfl ty3 rfl) rfl (.cv (Cv.freezeBox (t := 2) (i := 2) rfl rfl rfl) (.memEq (M' := [_, _]) rfl (.cv (Cv.wk (.l [2, 3, 4, 5, 23, 33, 34, 35, 36, 38] rfl)) (.cv (Cv.freezeBox (t := 3) (i := 1) rfl rfl rfl) (.memEq (M' := [_]) rfl (.cv (Cv.wk (.l [2, 3, 4, 5, 23, 33, 35, 36, 38] rfl)) (st (.makeFn (ι := PI (R + R') C) (As := fun p => [isI (p.1.1 : Int), isI (p.1.2 : Int)]) (R := fun p => Flat (zc (if p.1.1 < R then xs.getD (p.1.1 * C + p.1.2) (false, []) else ys.getD ((p.1.1 - R) * C + p.1.2) (false, [])))) (fun p => eX (by omega) (by omega) hl hyl p.2.1 p.2.2) .nil (.cons (.t rfl) (.cons (.t rfl) .nil))) rfl ?_))))))))))))))))))
   refine st (.call (jI (f := fun i k => if i < R then xs.getD (i * C + k) (false, []) else ys.getD ((i - R) * C + k) (false, [])) (by omega) hC (fun i k _ _ => by split; exact Nat.le_trans (hx.raw _) (by omega); exact Nat.le_trans (hy.raw _) (by omega))) (.cons (.t rfl) (.cons (.t rfl) (.cons (.t rfl) .nil)))) rfl ?_
   refine .store (.t rfl) (.t rfl) (i := 0) rfl ty24 rfl rfl (Ss' := [_, _, _]) rfl (M' := [(some _, zB [_, _, _])]) rfl (st (.as (.cI 0 rfl)) rfl (nl (.thn (k5 _ _ (.cv (Cv.wk (.l [4, 5] rfl)) (.ret (rtN (.inl rfl) Tryz.results55 rfl rfl (.cell rfl (i := 0) rfl ty24 rfl ?_ (.tmp (Has.t' rfl ?_) .nil)))))))))
   ·exact wb (by unfold stkL; congr 1; funext i k; rw [zi, zi]; split <;> rfl)
   ·rfl
end Go.Proofs.YthmhlblaleahpaaGreat
namespace Go.Pz
open Go.Nt Go.En
theorem same_not {a b : List Int} {i : Nat} (h : ¬ cf a i = cf b i) : decide (psub a b = []) = false := decide_eq_false fun e => h (sub_nil.1 e i)
theorem same_yes {a b : List Int} {n : Nat} (h : ∀ i, i < n → cf a i = cf b i) (ha : a.length ≤ n) (hb : b.length ≤ n) : decide (psub a b = []) = true :=
 decide_eq_true (sub_nil.2 fun i => by
  rcases Nat.lt_or_ge i n with hi | hi
  ·exact h i hi
  ·rw [xS (l := a) (by omega), xS (l := b) (by omega)])
def fewB (xs : List (Bool × List Nat)) (n w : Int) : Bool := (xs.take 100).all (fun p => decide ((p.2.length : Int) ≤ w)) && decide ((xs.length : Int) ≤ n)
theorem fewB_no {xs : List (Bool × List Nat)} {n w : Int} {i : Nat} (hi : i < xs.length) (h1 : i < 100) (h : ¬ ((xs.getD i (false, [])).2.length : Int) ≤ w) : fewB xs n w = false := by
 unfold fewB
 have hm : xs.getD i (false, []) ∈ xs.take 100 := by
  rw [List.getD, List.getElem?_eq_getElem hi]
  exact List.mem_take_iff_getElem.2 ⟨i, by omega, rfl⟩
 have : (xs.take 100).all (fun p => decide ((p.2.length : Int) ≤ w)) = false := by
  rw [List.all_eq_false]
  exact ⟨_, hm, by rw [decide_eq_true_eq]; exact h⟩
 rw [this]; rfl
theorem fewB_yes {xs : List (Bool × List Nat)} {n w : Int} {i : Nat} (hi : xs.length ≤ i ∨ 100 ≤ i) (h : ∀ j, j < i → ((xs.getD j (false, [])).2.length : Int) ≤ w) : fewB xs n w = decide ((xs.length : Int) ≤ n) := by
 unfold fewB
 have : (xs.take 100).all (fun p => decide ((p.2.length : Int) ≤ w)) = true := by
  rw [List.all_eq_true]
  intro p hp
  obtain ⟨j, hj, rfl⟩ := List.mem_take_iff_getElem.1 hp
  have := h j (by omega)
  rw [List.getD, List.getElem?_eq_getElem (by omega)] at this
  exact decide_eq_true this
 rw [this]; rfl
theorem bh {xs : List (Bool × List Nat)} {n w : Int} {N K : Nat} (ok : ∀ p ∈ xs, (∀ y ∈ p.2, y < 18446744073709551616) ∧ p.2.length ≤ 9223372036854775807) (h : fewB xs n w = true) (hn : n = (N : Int)) (hw : w = (K : Int)) (h1 : N ≤ 100) : xs.length ≤ N ∧ Bd (vals xs) K := by
 unfold fewB at h
 rw [Bool.and_eq_true, decide_eq_true_eq, List.all_eq_true] at h
 subst hn; subst hw
 refine ⟨by omega, fun i => ?_⟩
 rw [zi, xZ]
 rcases Nat.lt_or_ge i xs.length with hi | hi
 ·rw [List.getD, List.getElem?_eq_getElem hi]
  have h2 := h.1 xs[i] (List.mem_take_iff_getElem.2 ⟨i, by omega, rfl⟩)
  rw [decide_eq_true_eq] at h2
  exact Nat.le_trans (aj (ok _ (List.getElem_mem hi)).1) (by show xs[i].2.length ≤ K; omega)
 ·rw [List.getD, List.getElem?_eq_none (by omega)]
  show (List.length (zA (val []))) ≤ K
  rw [show val [] = 0 from rfl, zF]; exact Nat.zero_le _
end Go.Pz
