/- The law FmatReckons, as it is stated, of the given program, for every input; no condition. -/
import Derived.Test.YtfoclelageohiaaQFmatReckons2
import Derived.Test.YtfoclelageohiaaRows
/- Contracts: products, transposes, alike matrices of words. -/
namespace Go.Proofs.Ytfoclelageohiaa
open Go.En Go.RowKit
set_option linter.unusedVariables false
set_option maxRecDepth 10000
open Go.Gf
open Go.Mz
open Go.Mu
set_option maxHeartbeats 4000000 in
theorem fmat_Mul_1 {q R C D i k : Nat} {xs ys : List Nat} (hq : q < 4294967296) (hxl : xs.length = R * C) (hyl : ys.length = C * D) (hm : R * C ≤ 4096) (hm2 : C * D ≤ 4096) (hC : C ≤ 64) (hi : i < R) (hk : k < D) : Ctr Try.prog 85 [isI (i : Int), isI (k : Int), ptMW R C xs, PtrL [isU q], ptMW C D ys] (isU (dotN (fun j => xs.getD (i * C + j) 0) (fun j => ys.getD (j * D + k) 0) C % fp q)) := by
  refine Ctr.intro Try.func85 rfl (by kernel_rfl) Try.ntmps85 rfl fun w0 F0 => ?_
  refine Tri.cv (Cv.wk (.cons (t := 0) (Has.t rfl) (.cons (t := 1) (Has.t rfl) (.cons (t := 2) (Has.t rfl) (.cons (t := 3) (Has.t rfl) (.cons (t := 4) (Has.t rfl) .nil)))))) ?_
  refine Tri.fact (Has.rngI (Has.t (t := 0) rfl)) fun lt0 => ?_
  refine Tri.fact (Has.rngI (Has.t (t := 1) rfl)) fun lt1 => ?_
  obtain ⟨f, hf⟩ : ∃ f : Nat → Nat, f = fun j => xs.getD (i * C + j) 0 := ⟨_, rfl⟩
  obtain ⟨g, hg⟩ : ∃ g : Nat → Nat, g = fun j => ys.getD (j * D + k) 0 := ⟨_, rfl⟩
  rw [← hf, ← hg]
  refine Tri.seq fun K1 hK1 => ?_
  refine Tri.region ?_
  refine st (OK1.as (Has.cU 0 rfl)) rfl ?_
  refine nl ?_
  refine At.thn (hK1 _ _ ?_); clear hK1
  refine Tri.seq fun K2 hK2 => ?_
  refine Tri.region ?_
  refine st (OK1.as (Has.cU 0 rfl)) rfl ?_
  refine nl ?_
  refine At.thn (hK2 _ _ ?_); clear hK2
  refine Tri.seq fun K3 hK3 => ?_
  refine Tri.seq fun K4 hK4 => ?_
  refine Tri.region ?_
  refine st (OK1.fieldAddrP (Has.t rfl) fld24_1 ty3 (Ss' := [_, _]) rfl) rfl ?_
  refine st (OK1.loadP1 (Has.t rfl) ty3) rfl ?_
  refine st (OK1.mv (Has.cI 0 rfl)) rfl ?_
  refine nl ?_
  refine At.thn (hK4 _ _ ?_); clear hK4
  refine Tri.block ?_
  refine Tri.loopF [0, 1, 2, 3, 4, 7, 11] (fun (z : { j : Nat // j ≤ C }) => match z with | ⟨j, hj⟩ => [(12, isI (j : Int)), (8, isU (dotN f g j % fp q))]) (fun M => fun (z : { j : Nat // j ≤ C }) => match z with | ⟨j, hj⟩ => M) (fun (z : { j : Nat // j ≤ C }) => match z with | ⟨j, hj⟩ => C - j) (⟨0, Nat.zero_le _⟩) (Cv.mem (.cons (t := 12) (Has.t' rfl ?_) (.cons (t := 8) (Has.t' rfl ?_) (.cons (t := 0) (Has.t rfl) (.cons (t := 1) (Has.t rfl) (.cons (t := 2) (Has.t rfl) (.cons (t := 3) (Has.t rfl) (.cons (t := 4) (Has.t rfl) (.cons (t := 7) (Has.t rfl) (.cons (t := 11) (Has.t rfl) .nil))))))))) ?_) ?_
  · rfl
  · exact isU_eq (Nat.zero_mod _).symm
  · rfl
  rintro ⟨j, hj⟩ K5 hK5
  refine Tri.cv (Cv.wk (.cons (t := 12) (Has.t rfl) (.cons (t := 8) (Has.t rfl) (.cons (t := 0) (Has.t rfl) (.cons (t := 1) (Has.t rfl) (.cons (t := 2) (Has.t rfl) (.cons (t := 3) (Has.t rfl) (.cons (t := 4) (Has.t rfl) (.cons (t := 7) (Has.t rfl) (.cons (t := 11) (Has.t rfl) .nil)))))))))) ?_
  refine Tri.seq fun K6 hK6 => ?_
  refine Tri.region ?_
  refine st (OK1.ltI (Has.t rfl) (Has.t rfl)) rfl ?_
  refine nl ?_
  refine At.thn (hK6 _ _ ?_); clear hK6
  refine Tri.seq fun K7 hK7 => ?_
  refine Tri.cond (Has.t rfl) (fun hc1 => ?_) (fun hc1 => ?_)
  · have hc1 := BP.t hc1
    have hj2 : j < C := (by omega)
    have hp1 := place_lt hi hj2
    have hp2 := place_lt hj2 hk
    have hfj : f j = xs.getD (i * C + j) 0 := by rw [hf]
    have hgj : g j = ys.getD (j * D + k) 0 := by rw [hg]
    refine Tri.skip ?_
    refine At.thn (hK7 _ _ ?_); clear hK7
    refine Tri.seq fun K8 hK8 => ?_
    refine Tri.block ?_
    refine Tri.seq fun K9 hK9 => ?_
    refine Tri.region ?_
    refine st (OK1.mv (Has.t rfl)) rfl ?_
    refine st (OK1.as (Has.t rfl)) rfl ?_
    refine nl ?_
    refine At.thn (hK9 _ _ ?_); clear hK9
    refine Tri.dr ?_
    refine DrG.st (i := 0) [] rfl rfl rfl (by kernel_rfl) (OKG.o rfl (OK1.loadP (Has.t rfl) ty29 rfl (Ss' := [_]) rfl)) ?_
    refine DrG.st (i := 1) [] rfl rfl rfl (by kernel_rfl) (OKG.o rfl (OK1.mv (Has.t rfl))) ?_
    refine DrG.st (i := 2) [] rfl rfl rfl (by kernel_rfl) (OKG.o rfl (OK1.loadP (Has.t rfl) ty29 rfl (Ss' := [_]) rfl)) ?_
    refine DrG.st (i := 3) [] rfl rfl rfl (by kernel_rfl) (OKG.o rfl (OK1.loadP (Has.t rfl) ty24 rfl (Ss' := [_, _, _]) rfl)) ?_
    refine DrG.st (i := 4) [] rfl rfl rfl (by kernel_rfl) (OKG.o rfl (OK1.mv (Has.t rfl))) ?_
    refine DrG.st (i := 5) [] rfl rfl rfl (by kernel_rfl) (OKG.o rfl (OK1.mv (Has.t rfl))) ?_
    refine DrG.st (i := 6) [18, 19, 20] rfl rfl rfl (by kernel_rfl) (OKG.o rfl (OK1.eq (OK1.call (fmat_get (i := i) (k := j) (by omega) (by omega)) (.cons (Has.t rfl) (.cons (Has.t rfl) (.cons (Has.t rfl) .nil)))) ((show isU _ = isU (f j) from isU_eq hfj.symm)))) ?_
    refine DrG.st (i := 7) [] rfl rfl rfl (by kernel_rfl) (OKG.o rfl (OK1.loadP (Has.t rfl) ty24 rfl (Ss' := [_, _, _]) rfl)) ?_
    refine DrG.st (i := 8) [] rfl rfl rfl (by kernel_rfl) (OKG.o rfl (OK1.mv (Has.t rfl))) ?_
    refine DrG.st (i := 9) [] rfl rfl rfl (by kernel_rfl) (OKG.o rfl (OK1.mv (Has.t rfl))) ?_
    refine DrG.st (i := 10) [22, 23, 24] rfl rfl rfl (by kernel_rfl) (OKG.o rfl (OK1.eq (OK1.call (fmat_get (i := j) (k := k) (by omega) (by omega)) (.cons (Has.t rfl) (.cons (Has.t rfl) (.cons (Has.t rfl) .nil)))) ((show isU _ = isU (g j) from isU_eq hgj.symm)))) ?_
    refine DrG.st (i := 11) [17, 21, 25] rfl rfl rfl (by kernel_rfl) (OKG.o rfl (OK1.call (gfp_Mul hq) (.cons (Has.t rfl) (.cons (Has.t rfl) (.cons (Has.t rfl) .nil))))) ?_
    refine DrG.fin (n := 12) mixed (by kernel_rfl) (by kernel_rfl) (by kernel_rfl) ?_
    refine Ops.cv (Cv.wk (.cons (t := 0) (Has.t rfl) (.cons (t := 1) (Has.t rfl) (.cons (t := 2) (Has.t rfl) (.cons (t := 3) (Has.t rfl) (.cons (t := 4) (Has.t rfl) (.cons (t := 7) (Has.t rfl) (.cons (t := 11) (Has.t rfl) (.cons (t := 12) (Has.t rfl) (.cons (t := 8) (Has.t rfl) (.cons (t := 13) (Has.t rfl) (.cons (t := 14) (Has.t rfl) (.cons (t := 9) (Has.t rfl) (.cons (t := 15) (Has.t rfl) (.cons (t := 16) (Has.t rfl) (.cons (t := 17) (Has.t rfl) (.cons (t := 18) (Has.t rfl) (.cons (t := 19) (Has.t rfl) (.cons (t := 20) (Has.t rfl) (.cons (t := 21) (Has.t rfl) (.cons (t := 22) (Has.t rfl) (.cons (t := 23) (Has.t rfl) (.cons (t := 24) (Has.t rfl) (.cons (t := 25) (Has.t rfl) (.cons (t := 26) (Has.t rfl) .nil))))))))))))))))))))))))) ?_
    refine st (OK1.call (gfp_Add hq) (.cons (Has.t rfl) (.cons (Has.t rfl) (.cons (Has.t rfl) .nil)))) rfl ?_
    refine st (OK1.as (Has.t rfl)) rfl ?_
    refine nl ?_
    refine At.bln ?_
    refine At.thn (hK8 _ _ ?_); clear hK8
    refine Tri.region ?_
    refine st (OK1.addI (Has.t rfl) (Has.cI 1 rfl) (by first | omega | assumption) (by first | omega | assumption)) rfl ?_
    refine st (OK1.mv (Has.t rfl)) rfl ?_
    refine nl ?_
    refine At.thn ?_
    refine hK5 (⟨j + 1, by omega⟩) _ _ ?_ (Cv.mem (.cons (t := 12) (Has.t' rfl ?_) (.cons (t := 8) (Has.t' rfl ?_) (.cons (t := 0) (Has.t rfl) (.cons (t := 1) (Has.t rfl) (.cons (t := 2) (Has.t rfl) (.cons (t := 3) (Has.t rfl) (.cons (t := 4) (Has.t rfl) (.cons (t := 7) (Has.t rfl) (.cons (t := 11) (Has.t rfl) .nil))))))))) ?_)
    · show C - (j + 1) < C - j; omega
    · exact isI_eq (by omega)
    · exact isU_eq (dotN_step f g _ j)
    · rfl
  · have hc1 := BP.f hc1
    refine Tri.exit ?_
    refine At.the ?_
    refine At.the ?_
    refine At.blh ?_
    refine At.thn (hK3 _ _ ?_); clear hK3
    refine Tri.cv (Cv.wk (.cons (t := 7) (Has.t rfl) (.cons (t := 8) (Has.t rfl) .nil))) ?_
    refine Tri.seq fun K10 hK10 => ?_
    refine Tri.region ?_
    refine st (OK1.mv (Has.t rfl)) rfl ?_
    refine st (OK1.as (Has.t rfl)) rfl ?_
    refine nl ?_
    refine At.thn (hK10 _ _ ?_); clear hK10
    refine Tri.ret ?_
    refine rt1 (.inl rfl) Try.results85 rfl (.tmp (Has.t' rfl ?_) .nil)
    all_goals (exact isU_eq (by rw [show j = C by omega]))
set_option maxHeartbeats 4000000 in
theorem fmat_Mul {q R C D : Nat} {xs ys : List Nat} (hq : q < 4294967296) (hR : R ≤ 64) (hC : C ≤ 64) (hD : D ≤ 64) (hxl : xs.length = R * C) (hyl : ys.length = C * D) : Ctr Try.prog 35 [Flat [isU q], isMW R C xs, isMW C D ys] (isTup [isMW R D (tabU (R * D) D fun i k => dotN (fun j => xs.getD (i * C + j) 0) (fun j => ys.getD (j * D + k) 0) C % fp q % fp q), isI 0]) := by
  refine Ctr.intro Try.func35 rfl (by kernel_rfl) Try.ntmps35 rfl fun w0 F0 => ?_
  refine Tri.cv (Cv.wk (.cons (t := 0) (Has.t rfl) (.cons (t := 1) (Has.t rfl) (.cons (t := 2) (Has.t rfl) .nil)))) ?_
  have h1 := side_le hR hC
  have h2 := side_le hC hD
  have hf1 := formB_true hR hC hxl
  have hf2 := formB_true hC hD hyl
  refine Tri.seq fun K1 hK1 => ?_
  refine Tri.region ?_
  refine Ops.box (Has.t rfl) rfl fun b1 => ?_
  refine Ops.box (Has.t rfl) rfl fun b2 => ?_
  refine Ops.box (Has.t rfl) rfl fun b3 => ?_
  refine Ops.alloc [isI 0, isI 0, SlM isU []] zero24 (fun _ _ => ⟨⟨rfl, by decide, by decide⟩, ⟨rfl, by decide, by decide⟩, nilM _ _, trivial⟩) rfl fun b4 => ?_
  refine st (OK1.as (Has.cI 0 rfl)) rfl ?_
  refine nl ?_
  refine At.thn (hK1 _ _ ?_); clear hK1
  refine Tri.seq fun K2 hK2 => ?_
  refine Tri.seq fun K3 hK3 => ?_
  refine Tri.region ?_
  refine st (OK1.load (Has.t rfl) (i := 2) rfl ty24 rfl (Ss' := [_, _, _]) rfl) rfl ?_
  refine st (OK1.eq (OK1.call (fmat_Formed) (.cons (Has.t rfl) .nil)) ((show isB _ = isB true from isB_eq hf1))) rfl ?_
  refine st (OK1.not (Has.t rfl)) rfl ?_
  refine st (OK1.mv (Has.t rfl)) rfl ?_
  refine stF rfl rfl (fun hg => have hg' := BP.t hg; OK1.load (Has.t rfl) (i := 1) rfl ty24 rfl (Ss' := [_, _, _]) rfl) rfl ?_
  refine stF rfl rfl (fun hg => have hg' := BP.t hg; OK1.eq (OK1.call (fmat_Formed) (.cons (Has.g rfl hg) .nil)) ((show isB _ = isB true from isB_eq hf2))) rfl ?_
  refine stF rfl rfl (fun hg => have hg' := BP.t hg; OK1.not (Has.g rfl hg)) rfl ?_
  refine st (OK1.pickOr (Has.t rfl) (fun h => Has.g rfl (ng h))) rfl ?_
  refine st (OK1.mv (Has.t rfl)) rfl ?_
  refine stF rfl rfl (fun hg => have hg' := BP.t hg; OK1.fieldAddr (Has.t rfl) fld24_1 ty3) rfl ?_
  refine stF rfl rfl (fun hg => have hg' := BP.t hg; OK1.load1 (Has.g rfl hg) (i := 2) rfl ty3 rfl) rfl ?_
  refine stF rfl rfl (fun hg => have hg' := BP.t hg; OK1.fieldAddr (Has.t rfl) fld24_0 ty3) rfl ?_
  refine stF rfl rfl (fun hg => have hg' := BP.t hg; OK1.load1 (Has.g rfl hg) (i := 1) rfl ty3 rfl) rfl ?_
  refine stF rfl rfl (fun hg => have hg' := BP.t hg; OK1.neI (Has.g rfl hg) (Has.g rfl hg)) rfl ?_
  refine st (OK1.pickOr (Has.t rfl) (fun h => Has.g rfl (ng h))) rfl ?_
  refine nl ?_
  refine At.thn (hK3 _ _ ?_); clear hK3
  refine Tri.cv (Cv.wk (.cons (t := 3) (Has.t rfl) (.cons (t := 4) (Has.t rfl) (.cons (t := 5) (Has.t rfl) (.cons (t := 6) (Has.t rfl) (.cons (t := 7) (Has.t rfl) (.cons (t := 22) (Has.t rfl) .nil))))))) ?_
  refine Tri.cond (Has.t rfl) (fun hc1 => ?_) (fun hc1 => ?_)
  · have hc1 := BP.t hc1
    simp at hc1
  · have hc1 := BP.f hc1
    refine Tri.skip ?_
    refine At.thn (hK2 _ _ ?_); clear hK2
    refine Tri.seq fun K4 hK4 => ?_
    refine Tri.region ?_
    refine st (OK1.load (Has.t rfl) (i := 3) rfl ty29 rfl (Ss' := [_]) rfl) rfl ?_
    refine st (OK1.fieldAddr (Has.t rfl) fld24_0 ty3) rfl ?_
    refine st (OK1.load1 (Has.t rfl) (i := 2) rfl ty3 rfl) rfl ?_
    refine st (OK1.fieldAddr (Has.t rfl) fld24_1 ty3) rfl ?_
    refine st (OK1.load1 (Has.t rfl) (i := 1) rfl ty3 rfl) rfl ?_
    refine Ops.cv (Cv.freezeBox (t := 4) (i := 2) rfl rfl rfl) ?_
    refine Ops.memEq (M' := [_, _, _]) rfl ?_
    refine Ops.cv (Cv.wk (.cons (t := 3) (Has.t rfl) (.cons (t := 4) (Has.t rfl) (.cons (t := 5) (Has.t rfl) (.cons (t := 6) (Has.t rfl) (.cons (t := 7) (Has.t rfl) (.cons (t := 22) (Has.t rfl) (.cons (t := 24) (Has.t rfl) (.cons (t := 26) (Has.t rfl) (.cons (t := 27) (Has.t rfl) (.cons (t := 28) (Has.t rfl) .nil))))))))))) ?_
    refine Ops.cv (Cv.freezeBox (t := 3) (i := 2) rfl rfl rfl) ?_
    refine Ops.memEq (M' := [_, _]) rfl ?_
    refine Ops.cv (Cv.wk (.cons (t := 3) (Has.t rfl) (.cons (t := 4) (Has.t rfl) (.cons (t := 5) (Has.t rfl) (.cons (t := 6) (Has.t rfl) (.cons (t := 7) (Has.t rfl) (.cons (t := 22) (Has.t rfl) (.cons (t := 24) (Has.t rfl) (.cons (t := 26) (Has.t rfl) (.cons (t := 27) (Has.t rfl) (.cons (t := 28) (Has.t rfl) .nil))))))))))) ?_
    refine Ops.cv (Cv.freezeBox (t := 5) (i := 1) rfl rfl rfl) ?_
    refine Ops.memEq (M' := [_]) rfl ?_
    refine Ops.cv (Cv.wk (.cons (t := 3) (Has.t rfl) (.cons (t := 4) (Has.t rfl) (.cons (t := 5) (Has.t rfl) (.cons (t := 6) (Has.t rfl) (.cons (t := 7) (Has.t rfl) (.cons (t := 22) (Has.t rfl) (.cons (t := 24) (Has.t rfl) (.cons (t := 26) (Has.t rfl) (.cons (t := 28) (Has.t rfl) .nil)))))))))) ?_
    refine st (OK1.makeFn (ι := PI R D) (As := fun p => [isI (p.1.1 : Int), isI (p.1.2 : Int)]) (R := fun p => isU (dotN (fun j => xs.getD (p.1.1 * C + j) 0) (fun j => ys.getD (j * D + p.1.2) 0) C % fp q)) (fun p => fmat_Mul_1 hq hxl hyl h1 h2 hC p.2.1 p.2.2) .nil (.cons (Has.t rfl) (.cons (Has.t rfl) (.cons (Has.t rfl) .nil)))) rfl ?_
    refine st (OK1.call (fmat_made (f := fun i k => dotN (fun j => xs.getD (i * C + j) 0) (fun j => ys.getD (j * D + k) 0) C % fp q) hR hD) (.cons (Has.t rfl) (.cons (Has.t rfl) (.cons (Has.t rfl) (.cons (Has.t rfl) .nil))))) rfl ?_
    refine Ops.store (Has.t rfl) (Has.t rfl) (i := 0) rfl ty24 rfl rfl (Ss' := [_, _, _]) rfl (M' := [(some _, cellM [_, _, _])]) rfl ?_
    refine st (OK1.as (Has.cI 0 rfl)) rfl ?_
    refine nl ?_
    refine At.thn (hK4 _ _ ?_); clear hK4
    refine Tri.cv (Cv.wk (.cons (t := 6) (Has.t rfl) (.cons (t := 7) (Has.t rfl) .nil))) ?_
    refine Tri.ret ?_
    refine rtN (.inl rfl) Try.results35 rfl rfl (.cell rfl (i := 0) rfl ty24 rfl ?_ (.tmp (Has.t' rfl ?_) .nil))
    · rfl
    · rfl
set_option maxHeartbeats 4000000 in
theorem fmat_Mul_bad {q : Nat} {r c r2 c2 : Int} {xs ys : List Nat} (hf : ¬ (formB r c xs.length = true ∧ formB r2 c2 ys.length = true ∧ c = r2)) : Ctr Try.prog 35 [Flat [isU q], isMW r c xs, isMW r2 c2 ys] (isTup [isMW 0 0 [], isI 2]) := by
  refine Ctr.intro Try.func35 rfl (by kernel_rfl) Try.ntmps35 rfl fun w0 F0 => ?_
  refine Tri.cv (Cv.wk (.cons (t := 0) (Has.t rfl) (.cons (t := 1) (Has.t rfl) (.cons (t := 2) (Has.t rfl) .nil)))) ?_
  refine Tri.seq fun K1 hK1 => ?_
  refine Tri.region ?_
  refine Ops.box (Has.t rfl) rfl fun b1 => ?_
  refine Ops.box (Has.t rfl) rfl fun b2 => ?_
  refine Ops.box (Has.t rfl) rfl fun b3 => ?_
  refine Ops.alloc [isI 0, isI 0, SlM isU []] zero24 (fun _ _ => ⟨⟨rfl, by decide, by decide⟩, ⟨rfl, by decide, by decide⟩, nilM _ _, trivial⟩) rfl fun b4 => ?_
  refine st (OK1.as (Has.cI 0 rfl)) rfl ?_
  refine nl ?_
  refine At.thn (hK1 _ _ ?_); clear hK1
  refine Tri.seq fun K2 hK2 => ?_
  refine Tri.seq fun K3 hK3 => ?_
  refine Tri.region ?_
  refine st (OK1.load (Has.t rfl) (i := 2) rfl ty24 rfl (Ss' := [_, _, _]) rfl) rfl ?_
  refine st (OK1.call (fmat_Formed) (.cons (Has.t rfl) .nil)) rfl ?_
  refine st (OK1.not (Has.t rfl)) rfl ?_
  refine st (OK1.mv (Has.t rfl)) rfl ?_
  refine stF rfl rfl (fun hg => have hg' := BP.t hg; OK1.load (Has.t rfl) (i := 1) rfl ty24 rfl (Ss' := [_, _, _]) rfl) rfl ?_
  refine stF rfl rfl (fun hg => have hg' := BP.t hg; OK1.call (fmat_Formed) (.cons (Has.g rfl hg) .nil)) rfl ?_
  refine stF rfl rfl (fun hg => have hg' := BP.t hg; OK1.not (Has.g rfl hg)) rfl ?_
  refine st (OK1.pickOr (Has.t rfl) (fun h => Has.g rfl (ng h))) rfl ?_
  refine st (OK1.mv (Has.t rfl)) rfl ?_
  refine stF rfl rfl (fun hg => have hg' := BP.t hg; OK1.fieldAddr (Has.t rfl) fld24_1 ty3) rfl ?_
  refine stF rfl rfl (fun hg => have hg' := BP.t hg; OK1.load1 (Has.g rfl hg) (i := 2) rfl ty3 rfl) rfl ?_
  refine stF rfl rfl (fun hg => have hg' := BP.t hg; OK1.fieldAddr (Has.t rfl) fld24_0 ty3) rfl ?_
  refine stF rfl rfl (fun hg => have hg' := BP.t hg; OK1.load1 (Has.g rfl hg) (i := 1) rfl ty3 rfl) rfl ?_
  refine stF rfl rfl (fun hg => have hg' := BP.t hg; OK1.neI (Has.g rfl hg) (Has.g rfl hg)) rfl ?_
  refine st (OK1.pickOr (Has.t rfl) (fun h => Has.g rfl (ng h))) rfl ?_
  refine nl ?_
  refine At.thn (hK3 _ _ ?_); clear hK3
  refine Tri.cv (Cv.wk (.cons (t := 3) (Has.t rfl) (.cons (t := 4) (Has.t rfl) (.cons (t := 5) (Has.t rfl) (.cons (t := 6) (Has.t rfl) (.cons (t := 7) (Has.t rfl) (.cons (t := 22) (Has.t rfl) .nil))))))) ?_
  refine Tri.cond (Has.t rfl) (fun hc1 => ?_) (fun hc1 => ?_)
  · have hc1 := BP.t hc1
    refine Tri.seq fun K4 hK4 => ?_
    refine Tri.region ?_
    refine st (OK1.build [isI 0, isI 0, SlM isU []] pl24 zero24 (fun _ _ => ⟨⟨rfl, by decide, by decide⟩, ⟨rfl, by decide, by decide⟩, nilM _ _, trivial⟩) .nil (Z'' := [_, _, _]) rfl) rfl ?_
    refine Ops.store (Has.t rfl) (Has.t rfl) (i := 0) rfl ty24 rfl rfl (Ss' := [_, _, _]) rfl (M' := [(some _, cellM [_, _, _]), _, _, _]) rfl ?_
    refine st (OK1.as (Has.cI 2 rfl)) rfl ?_
    refine nl ?_
    refine At.thn (hK4 _ _ ?_); clear hK4
    refine Tri.ret ?_
    refine At.thr ?_
    refine rtN (.inl rfl) Try.results35 rfl rfl (.cell rfl (i := 0) rfl ty24 rfl ?_ (.tmp (Has.t' rfl ?_) .nil))
    · rfl
    · rfl
  · have hc1 := BP.f hc1
    exact (hf (by simpa [and_assoc] using hc1)).elim
set_option maxHeartbeats 4000000 in
theorem fmat_Transpose_1 {R C i k : Nat} {xs : List Nat} (hxl : xs.length = R * C) (hm : R * C ≤ 4096) (hi : i < C) (hk : k < R) : Ctr Try.prog 86 [isI (i : Int), isI (k : Int), ptMW R C xs] (isU (xs.getD (k * C + i) 0)) := by
  refine Ctr.intro Try.func86 rfl (by kernel_rfl) Try.ntmps86 rfl fun w0 F0 => ?_
  refine Tri.cv (Cv.wk (.cons (t := 0) (Has.t rfl) (.cons (t := 1) (Has.t rfl) (.cons (t := 2) (Has.t rfl) .nil)))) ?_
  refine Tri.fact (Has.rngI (Has.t (t := 0) rfl)) fun lt0 => ?_
  refine Tri.fact (Has.rngI (Has.t (t := 1) rfl)) fun lt1 => ?_
  have hp := place_lt hk hi
  refine Tri.seq fun K1 hK1 => ?_
  refine Tri.region ?_
  refine st (OK1.as (Has.cU 0 rfl)) rfl ?_
  refine nl ?_
  refine At.thn (hK1 _ _ ?_); clear hK1
  refine Tri.seq fun K2 hK2 => ?_
  refine Tri.region ?_
  refine st (OK1.loadP (Has.t rfl) ty24 rfl (Ss' := [_, _, _]) rfl) rfl ?_
  refine st (OK1.mv (Has.t rfl)) rfl ?_
  refine st (OK1.mv (Has.t rfl)) rfl ?_
  refine st (OK1.call (fmat_get (i := k) (k := i) (by omega) (by omega)) (.cons (Has.t rfl) (.cons (Has.t rfl) (.cons (Has.t rfl) .nil)))) rfl ?_
  refine st (OK1.as (Has.t rfl)) rfl ?_
  refine nl ?_
  refine At.thn (hK2 _ _ ?_); clear hK2
  refine Tri.cv (Cv.wk (.cons (t := 5) (Has.t rfl) .nil)) ?_
  refine Tri.ret ?_
  refine rt1 (.inl rfl) Try.results86 rfl (.tmp (Has.t' rfl ?_) .nil)
  all_goals (rfl)
set_option maxHeartbeats 4000000 in
theorem fmat_Transpose {q R C : Nat} {xs : List Nat} (hR : R ≤ 64) (hC : C ≤ 64) (hxl : xs.length = R * C) : Ctr Try.prog 36 [Flat [isU q], isMW R C xs] (isTup [isMW C R (tabU (C * R) R fun i k => xs.getD (k * C + i) 0 % fp q), isI 0]) := by
  refine Ctr.intro Try.func36 rfl (by kernel_rfl) Try.ntmps36 rfl fun w0 F0 => ?_
  refine Tri.cv (Cv.wk (.cons (t := 0) (Has.t rfl) (.cons (t := 1) (Has.t rfl) .nil))) ?_
  have hRC := side_le hR hC
  have hfo := formB_true hR hC hxl
  refine Tri.seq fun K1 hK1 => ?_
  refine Tri.region ?_
  refine Ops.box (Has.t rfl) rfl fun b1 => ?_
  refine Ops.box (Has.t rfl) rfl fun b2 => ?_
  refine Ops.alloc [isI 0, isI 0, SlM isU []] zero24 (fun _ _ => ⟨⟨rfl, by decide, by decide⟩, ⟨rfl, by decide, by decide⟩, nilM _ _, trivial⟩) rfl fun b3 => ?_
  refine st (OK1.as (Has.cI 0 rfl)) rfl ?_
  refine nl ?_
  refine At.thn (hK1 _ _ ?_); clear hK1
  refine Tri.seq fun K2 hK2 => ?_
  refine Tri.seq fun K3 hK3 => ?_
  refine Tri.region ?_
  refine st (OK1.load (Has.t rfl) (i := 1) rfl ty24 rfl (Ss' := [_, _, _]) rfl) rfl ?_
  refine st (OK1.eq (OK1.call (fmat_Formed) (.cons (Has.t rfl) .nil)) ((show isB _ = isB true from isB_eq hfo))) rfl ?_
  refine st (OK1.not (Has.t rfl)) rfl ?_
  refine nl ?_
  refine At.thn (hK3 _ _ ?_); clear hK3
  refine Tri.cond (Has.t rfl) (fun hc1 => ?_) (fun hc1 => ?_)
  · have hc1 := BP.t hc1
    simp at hc1
  · have hc1 := BP.f hc1
    refine Tri.skip ?_
    refine At.thn (hK2 _ _ ?_); clear hK2
    refine Tri.cv (Cv.wk (.cons (t := 2) (Has.t rfl) (.cons (t := 3) (Has.t rfl) (.cons (t := 4) (Has.t rfl) (.cons (t := 5) (Has.t rfl) .nil))))) ?_
    refine Tri.seq fun K4 hK4 => ?_
    refine Tri.region ?_
    refine st (OK1.load (Has.t rfl) (i := 2) rfl ty29 rfl (Ss' := [_]) rfl) rfl ?_
    refine st (OK1.fieldAddr (Has.t rfl) fld24_1 ty3) rfl ?_
    refine st (OK1.load1 (Has.t rfl) (i := 1) rfl ty3 rfl) rfl ?_
    refine st (OK1.fieldAddr (Has.t rfl) fld24_0 ty3) rfl ?_
    refine st (OK1.load1 (Has.t rfl) (i := 1) rfl ty3 rfl) rfl ?_
    refine Ops.cv (Cv.freezeBox (t := 3) (i := 1) rfl rfl rfl) ?_
    refine Ops.memEq (M' := [_, _]) rfl ?_
    refine Ops.cv (Cv.wk (.cons (t := 2) (Has.t rfl) (.cons (t := 3) (Has.t rfl) (.cons (t := 4) (Has.t rfl) (.cons (t := 5) (Has.t rfl) (.cons (t := 10) (Has.t rfl) (.cons (t := 12) (Has.t rfl) (.cons (t := 14) (Has.t rfl) .nil)))))))) ?_
    refine st (OK1.makeFn (ι := PI C R) (As := fun p => [isI (p.1.1 : Int), isI (p.1.2 : Int)]) (R := fun p => isU (xs.getD (p.1.2 * C + p.1.1) 0)) (fun p => fmat_Transpose_1 hxl hRC p.2.1 p.2.2) .nil (.cons (Has.t rfl) .nil)) rfl ?_
    refine st (OK1.call (fmat_made (f := fun i k => xs.getD (k * C + i) 0) hC hR) (.cons (Has.t rfl) (.cons (Has.t rfl) (.cons (Has.t rfl) (.cons (Has.t rfl) .nil))))) rfl ?_
    refine Ops.store (Has.t rfl) (Has.t rfl) (i := 0) rfl ty24 rfl rfl (Ss' := [_, _, _]) rfl (M' := [(some _, cellM [_, _, _]), _]) rfl ?_
    refine st (OK1.as (Has.cI 0 rfl)) rfl ?_
    refine nl ?_
    refine At.thn (hK4 _ _ ?_); clear hK4
    refine Tri.cv (Cv.wk (.cons (t := 4) (Has.t rfl) (.cons (t := 5) (Has.t rfl) .nil))) ?_
    refine Tri.ret ?_
    refine rtN (.inl rfl) Try.results36 rfl rfl (.cell rfl (i := 0) rfl ty24 rfl ?_ (.tmp (Has.t' rfl ?_) .nil))
    · rfl
    · rfl
set_option maxHeartbeats 4000000 in
theorem fmat_Transpose_bad {q : Nat} {r c : Int} {xs : List Nat} (hf : formB r c xs.length = false) : Ctr Try.prog 36 [Flat [isU q], isMW r c xs] (isTup [isMW 0 0 [], isI 2]) := by
  refine Ctr.intro Try.func36 rfl (by kernel_rfl) Try.ntmps36 rfl fun w0 F0 => ?_
  refine Tri.cv (Cv.wk (.cons (t := 0) (Has.t rfl) (.cons (t := 1) (Has.t rfl) .nil))) ?_
  refine Tri.seq fun K1 hK1 => ?_
  refine Tri.region ?_
  refine Ops.box (Has.t rfl) rfl fun b1 => ?_
  refine Ops.box (Has.t rfl) rfl fun b2 => ?_
  refine Ops.alloc [isI 0, isI 0, SlM isU []] zero24 (fun _ _ => ⟨⟨rfl, by decide, by decide⟩, ⟨rfl, by decide, by decide⟩, nilM _ _, trivial⟩) rfl fun b3 => ?_
  refine st (OK1.as (Has.cI 0 rfl)) rfl ?_
  refine nl ?_
  refine At.thn (hK1 _ _ ?_); clear hK1
  refine Tri.seq fun K2 hK2 => ?_
  refine Tri.seq fun K3 hK3 => ?_
  refine Tri.region ?_
  refine st (OK1.load (Has.t rfl) (i := 1) rfl ty24 rfl (Ss' := [_, _, _]) rfl) rfl ?_
  refine st (OK1.eq (OK1.call (fmat_Formed) (.cons (Has.t rfl) .nil)) ((show isB _ = isB false from isB_eq hf))) rfl ?_
  refine st (OK1.not (Has.t rfl)) rfl ?_
  refine nl ?_
  refine At.thn (hK3 _ _ ?_); clear hK3
  refine Tri.cond (Has.t rfl) (fun hc1 => ?_) (fun hc1 => ?_)
  · have hc1 := BP.t hc1
    refine Tri.seq fun K4 hK4 => ?_
    refine Tri.region ?_
    refine st (OK1.build [isI 0, isI 0, SlM isU []] pl24 zero24 (fun _ _ => ⟨⟨rfl, by decide, by decide⟩, ⟨rfl, by decide, by decide⟩, nilM _ _, trivial⟩) .nil (Z'' := [_, _, _]) rfl) rfl ?_
    refine Ops.store (Has.t rfl) (Has.t rfl) (i := 0) rfl ty24 rfl rfl (Ss' := [_, _, _]) rfl (M' := [(some _, cellM [_, _, _]), _, _]) rfl ?_
    refine st (OK1.as (Has.cI 2 rfl)) rfl ?_
    refine nl ?_
    refine At.thn (hK4 _ _ ?_); clear hK4
    refine Tri.cv (Cv.wk (.cons (t := 2) (Has.t rfl) (.cons (t := 3) (Has.t rfl) (.cons (t := 4) (Has.t rfl) (.cons (t := 5) (Has.t rfl) .nil))))) ?_
    refine Tri.ret ?_
    refine At.thr ?_
    refine rtN (.inl rfl) Try.results36 rfl rfl (.cell rfl (i := 0) rfl ty24 rfl ?_ (.tmp (Has.t' rfl ?_) .nil))
    · rfl
    · rfl
  · have hc1 := BP.f hc1
    simp at hc1
set_option maxHeartbeats 4000000 in
theorem sl_EqualFunc {xs ys : List Nat} {t : Nat → Nat → Bool} : Ctr Try.prog 87 [SlM isU xs, SlM isU ys, isFun (ι := Nat × Nat) Try.prog (fun p => [isU p.1, isU p.2]) (fun p => isB (t p.1 p.2))] (isB (eqf t xs ys)) := by
  refine Ctr.intro Try.func87 rfl (by kernel_rfl) Try.ntmps87 rfl fun w0 F0 => ?_
  refine Tri.cv (Cv.wk (.cons (t := 0) (Has.t rfl) (.cons (t := 1) (Has.t rfl) (.cons (t := 2) (Has.t rfl) .nil)))) ?_
  refine Tri.fact (Has.lenLt (Has.t (t := 0) rfl)) fun lt0 => ?_
  refine Tri.fact (Has.lenLt (Has.t (t := 1) rfl)) fun lt1 => ?_
  refine Tri.seq fun K1 hK1 => ?_
  refine Tri.region ?_
  refine st (OK1.as (Has.cB false)) rfl ?_
  refine nl ?_
  refine At.thn (hK1 _ _ ?_); clear hK1
  refine Tri.seq fun K2 hK2 => ?_
  refine Tri.seq fun K3 hK3 => ?_
  refine Tri.region ?_
  refine st (OK1.mv (Has.t rfl)) rfl ?_
  refine st (OK1.len sl22 (Has.t rfl)) rfl ?_
  refine st (OK1.mv (Has.t rfl)) rfl ?_
  refine st (OK1.len sl22 (Has.t rfl)) rfl ?_
  refine st (OK1.neI (Has.t rfl) (Has.t rfl)) rfl ?_
  refine nl ?_
  refine At.thn (hK3 _ _ ?_); clear hK3
  refine Tri.cond (Has.t rfl) (fun hc1 => ?_) (fun hc1 => ?_)
  · have hc1 := BP.t hc1
    skip
    refine Tri.seq fun K4 hK4 => ?_
    refine Tri.region ?_
    refine st (OK1.as (Has.cB false)) rfl ?_
    refine nl ?_
    refine At.thn (hK4 _ _ ?_); clear hK4
    refine Tri.cv (Cv.wk (.cons (t := 0) (Has.t rfl) (.cons (t := 1) (Has.t rfl) (.cons (t := 2) (Has.t rfl) (.cons (t := 6) (Has.t rfl) .nil))))) ?_
    refine Tri.ret ?_
    refine At.thr ?_
    refine rt1 (.inl rfl) Try.results87 rfl (.tmp (Has.t' rfl ?_) .nil)
    all_goals (exact isB_eq (eqf_no fun h => absurd h (by omega)))
  · have hc1 := BP.f hc1
    have hll : xs.length = ys.length := (by omega)
    refine Tri.skip ?_
    refine At.thn (hK2 _ _ ?_); clear hK2
    refine Tri.cv (Cv.wk (.cons (t := 0) (Has.t rfl) (.cons (t := 1) (Has.t rfl) (.cons (t := 2) (Has.t rfl) (.cons (t := 6) (Has.t rfl) .nil))))) ?_
    refine Tri.seq fun K5 hK5 => ?_
    refine Tri.seq fun K6 hK6 => ?_
    refine Tri.region ?_
    refine st (OK1.mv (Has.t rfl)) rfl ?_
    refine st (OK1.len sl22 (Has.t rfl)) rfl ?_
    refine st (OK1.mv (Has.cI 0 rfl)) rfl ?_
    refine nl ?_
    refine At.thn (hK6 _ _ ?_); clear hK6
    refine Tri.block ?_
    refine Tri.loopF [1, 2, 15, 16] (fun (z : { i : Nat // i ≤ xs.length ∧ ∀ j, j < i → t (xs.getD j 0) (ys.getD j 0) = true }) => match z with | ⟨i, hI⟩ => [(17, isI (i : Int))]) (fun M => fun (z : { i : Nat // i ≤ xs.length ∧ ∀ j, j < i → t (xs.getD j 0) (ys.getD j 0) = true }) => match z with | ⟨i, hI⟩ => M) (fun (z : { i : Nat // i ≤ xs.length ∧ ∀ j, j < i → t (xs.getD j 0) (ys.getD j 0) = true }) => match z with | ⟨i, hI⟩ => xs.length - i) (⟨0, Nat.zero_le _, fun j hj => absurd hj (Nat.not_lt_zero _)⟩) (Cv.mem (.cons (t := 17) (Has.t' rfl ?_) (.cons (t := 1) (Has.t rfl) (.cons (t := 2) (Has.t rfl) (.cons (t := 15) (Has.t rfl) (.cons (t := 16) (Has.t rfl) .nil))))) ?_) ?_
    · rfl
    · rfl
    rintro ⟨i, hi, hq⟩ K7 hK7
    refine Tri.cv (Cv.wk (.cons (t := 17) (Has.t rfl) (.cons (t := 1) (Has.t rfl) (.cons (t := 2) (Has.t rfl) (.cons (t := 15) (Has.t rfl) (.cons (t := 16) (Has.t rfl) .nil)))))) ?_
    refine Tri.seq fun K8 hK8 => ?_
    refine Tri.region ?_
    refine st (OK1.ltI (Has.t rfl) (Has.t rfl)) rfl ?_
    refine nl ?_
    refine At.thn (hK8 _ _ ?_); clear hK8
    refine Tri.seq fun K9 hK9 => ?_
    refine Tri.cond (Has.t rfl) (fun hc2 => ?_) (fun hc2 => ?_)
    · have hc2 := BP.t hc2
      refine Tri.skip ?_
      refine At.thn (hK9 _ _ ?_); clear hK9
      refine Tri.seq fun K10 hK10 => ?_
      refine Tri.block ?_
      refine Tri.seq fun K11 hK11 => ?_
      refine Tri.region ?_
      refine st (OK1.mv (Has.t rfl)) rfl ?_
      refine st (OK1.ixP sl22 ty27 (Has.t rfl) (Has.t rfl) ⟨by omega, by omega⟩ (getD_some (d := 0) (by first | omega | (simp only [Int.toNat_natCast, List.length_set]; omega)))) rfl ?_
      refine st (OK1.loadP1 (Has.t rfl) ty27) rfl ?_
      refine st (OK1.as (Has.t rfl)) rfl ?_
      refine st (OK1.as (Has.t rfl)) rfl ?_
      refine nl ?_
      refine At.thn (hK11 _ _ ?_); clear hK11
      refine Tri.seq fun K12 hK12 => ?_
      refine Tri.region ?_
      refine st (OK1.mv (Has.t rfl)) rfl ?_
      refine st (OK1.mv (Has.t rfl)) rfl ?_
      refine st (OK1.ixP sl22 ty27 (Has.t rfl) (Has.t rfl) ⟨by omega, by omega⟩ (getD_some (d := 0) (by first | omega | (simp only [Int.toNat_natCast, List.length_set]; omega)))) rfl ?_
      refine st (OK1.loadP1 (Has.t rfl) ty27) rfl ?_
      refine st (OK1.as (Has.t rfl)) rfl ?_
      refine nl ?_
      refine At.thn (hK12 _ _ ?_); clear hK12
      refine Tri.seq fun K13 hK13 => ?_
      refine Tri.region ?_
      refine st (OK1.mv (Has.t rfl)) rfl ?_
      refine st (OK1.mv (Has.t rfl)) rfl ?_
      refine st (OK1.mv (Has.t rfl)) rfl ?_
      refine st (OK1.callV (xs.getD i 0, ys.getD i 0) (Has.t rfl) (.cons (Has.t rfl) (.cons (Has.t rfl) .nil))) rfl ?_
      refine st (OK1.not (Has.t rfl)) rfl ?_
      refine nl ?_
      refine At.thn (hK13 _ _ ?_); clear hK13
      refine Tri.cond (Has.t rfl) (fun hc3 => ?_) (fun hc3 => ?_)
      · have hc3 := BP.t hc3
        have HQ := hc3
        refine Tri.seq fun K14 hK14 => ?_
        refine Tri.region ?_
        refine st (OK1.as (Has.cB false)) rfl ?_
        refine nl ?_
        refine At.thn (hK14 _ _ ?_); clear hK14
        refine Tri.ret ?_
        refine At.blr ?_
        refine At.thr ?_
        refine At.thr ?_
        refine At.blr ?_
        refine At.thr ?_
        refine rt1 (.inl rfl) Try.results87 rfl (.tmp (Has.t' rfl ?_) .nil)
        all_goals (exact isB_eq (eqf_no fun _ => ⟨i, by omega, by simpa using HQ⟩))
      · have hc3 := BP.f hc3
        have HQ := hc3
        refine Tri.skip ?_
        refine At.bln ?_
        refine At.thn (hK10 _ _ ?_); clear hK10
        refine Tri.region ?_
        refine st (OK1.addI (Has.t rfl) (Has.cI 1 rfl) (by first | omega | assumption) (by first | omega | assumption)) rfl ?_
        refine st (OK1.mv (Has.t rfl)) rfl ?_
        refine nl ?_
        refine At.thn ?_
        refine hK7 (⟨i + 1, by omega, fun j hj => by rcases Nat.lt_or_ge j i with h | h; exact hq j h; obtain rfl : j = i := (by omega); simpa using HQ⟩) _ _ ?_ (Cv.mem (.cons (t := 17) (Has.t' rfl ?_) (.cons (t := 1) (Has.t rfl) (.cons (t := 2) (Has.t rfl) (.cons (t := 15) (Has.t rfl) (.cons (t := 16) (Has.t rfl) .nil))))) ?_)
        · show xs.length - (i + 1) < xs.length - i; omega
        · exact isI_eq (by omega)
        · rfl
    · have hc2 := BP.f hc2
      refine Tri.exit ?_
      refine At.the ?_
      refine At.the ?_
      refine At.blh ?_
      refine At.thn (hK5 _ _ ?_); clear hK5
      refine Tri.cv (Cv.wk .nil) ?_
      refine Tri.seq fun K15 hK15 => ?_
      refine Tri.region ?_
      refine st (OK1.as (Has.cB true)) rfl ?_
      refine nl ?_
      refine At.thn (hK15 _ _ ?_); clear hK15
      refine Tri.ret ?_
      refine rt1 (.inl rfl) Try.results87 rfl (.tmp (Has.t' rfl ?_) .nil)
      all_goals (exact isB_eq (eqf_yes hll fun j hj => hq j (by omega)))
set_option maxHeartbeats 4000000 in
theorem fmat_Same_1 {q x y : Nat} : Ctr Try.prog 88 [isU x, isU y, PtrL [isU q]] (isB (decide (x % fp q = y % fp q))) := by
  refine Ctr.intro Try.func88 rfl (by kernel_rfl) Try.ntmps88 rfl fun w0 F0 => ?_
  refine Tri.cv (Cv.wk (.cons (t := 0) (Has.t rfl) (.cons (t := 1) (Has.t rfl) (.cons (t := 2) (Has.t rfl) .nil)))) ?_
  refine Tri.fact (Has.ltU (Has.t (t := 0) rfl)) fun lt0 => ?_
  refine Tri.fact (Has.ltU (Has.t (t := 1) rfl)) fun lt1 => ?_
  refine Tri.seq fun K1 hK1 => ?_
  refine Tri.region ?_
  refine st (OK1.as (Has.cB false)) rfl ?_
  refine nl ?_
  refine At.thn (hK1 _ _ ?_); clear hK1
  refine Tri.seq fun K2 hK2 => ?_
  refine Tri.dr ?_
  refine DrG.st (i := 0) [] rfl rfl rfl (by kernel_rfl) (OKG.o rfl (OK1.loadP (Has.t rfl) ty29 rfl (Ss' := [_]) rfl)) ?_
  refine DrG.st (i := 1) [] rfl rfl rfl (by kernel_rfl) (OKG.o rfl (OK1.mv (Has.t rfl))) ?_
  refine DrG.st (i := 2) [6, 7] rfl rfl rfl (by kernel_rfl) (OKG.o rfl (OK1.call (gfp_Norm) (.cons (Has.t rfl) (.cons (Has.t rfl) .nil)))) ?_
  refine DrG.st (i := 3) [] rfl rfl rfl (by kernel_rfl) (OKG.o rfl (OK1.loadP (Has.t rfl) ty29 rfl (Ss' := [_]) rfl)) ?_
  refine DrG.st (i := 4) [] rfl rfl rfl (by kernel_rfl) (OKG.o rfl (OK1.mv (Has.t rfl))) ?_
  refine DrG.fin (n := 5) mixed (by kernel_rfl) (by kernel_rfl) (by kernel_rfl) ?_
  refine Ops.cv (Cv.wk (.cons (t := 5) (Has.t rfl) (.cons (t := 8) (Has.t rfl) (.cons (t := 9) (Has.t rfl) (.cons (t := 10) (Has.t rfl) .nil))))) ?_
  refine st (OK1.call (gfp_Norm) (.cons (Has.t rfl) (.cons (Has.t rfl) .nil))) rfl ?_
  refine st (OK1.eqU (Has.t rfl) (Has.t rfl)) rfl ?_
  refine st (OK1.as (Has.t rfl)) rfl ?_
  refine nl ?_
  refine At.thn (hK2 _ _ ?_); clear hK2
  refine Tri.cv (Cv.wk (.cons (t := 5) (Has.t rfl) .nil)) ?_
  refine Tri.ret ?_
  refine rt1 (.inl rfl) Try.results88 rfl (.tmp (Has.t' rfl ?_) .nil)
  all_goals (rfl)
set_option maxHeartbeats 4000000 in
theorem fmat_Same {q : Nat} {r c r2 c2 : Int} {xs ys : List Nat} : Ctr Try.prog 40 [Flat [isU q], isMW r c xs, isMW r2 c2 ys] (isB (alikeB r c xs.length r2 c2 ys.length && eqf (fun x y => decide (x % fp q = y % fp q)) xs ys)) := by
  refine Ctr.intro Try.func40 rfl (by kernel_rfl) Try.ntmps40 rfl fun w0 F0 => ?_
  refine Tri.cv (Cv.wk (.cons (t := 0) (Has.t rfl) (.cons (t := 1) (Has.t rfl) (.cons (t := 2) (Has.t rfl) .nil)))) ?_
  refine Tri.seq fun K1 hK1 => ?_
  refine Tri.region ?_
  refine Ops.box (Has.t rfl) rfl fun b1 => ?_
  refine Ops.box (Has.t rfl) rfl fun b2 => ?_
  refine Ops.box (Has.t rfl) rfl fun b3 => ?_
  refine st (OK1.as (Has.cB false)) rfl ?_
  refine nl ?_
  refine At.thn (hK1 _ _ ?_); clear hK1
  refine Tri.seq fun K2 hK2 => ?_
  refine Tri.region ?_
  refine st (OK1.load (Has.t rfl) (i := 1) rfl ty24 rfl (Ss' := [_, _, _]) rfl) rfl ?_
  refine st (OK1.load (Has.t rfl) (i := 0) rfl ty24 rfl (Ss' := [_, _, _]) rfl) rfl ?_
  refine st (OK1.call (fmat_alike) (.cons (Has.t rfl) (.cons (Has.t rfl) .nil))) rfl ?_
  refine st (OK1.mv (Has.t rfl)) rfl ?_
  refine stT rfl rfl (fun hg => have hg' := BP.t hg; OK1.fieldAddr (Has.t rfl) fld24_2 ty22) rfl ?_
  refine stT rfl rfl (fun hg => have hg' := BP.t hg; OK1.load1 (Has.g rfl hg) (i := 1) rfl ty22 rfl) rfl ?_
  refine stT rfl rfl (fun hg => have hg' := BP.t hg; OK1.fieldAddr (Has.t rfl) fld24_2 ty22) rfl ?_
  refine stT rfl rfl (fun hg => have hg' := BP.t hg; OK1.load1 (Has.g rfl hg) (i := 0) rfl ty22 rfl) rfl ?_
  refine Ops.cv (Cv.freezeBox (t := 3) (i := 2) rfl rfl rfl) ?_
  refine Ops.memEq (M' := [_, _]) rfl ?_
  refine Ops.cv (Cv.wk (.cons (t := 0) (Has.t rfl) (.cons (t := 1) (Has.t rfl) (.cons (t := 2) (Has.t rfl) (.cons (t := 3) (Has.t rfl) (.cons (t := 4) (Has.t rfl) (.cons (t := 5) (Has.t rfl) (.cons (t := 6) (Has.t rfl) (.cons (t := 7) (Has.t rfl) (.cons (t := 8) (Has.t rfl) (.cons (t := 9) (Has.t rfl) (.cons (t := 10) (Has.t rfl) (.cons (t := 11) (Has.t rfl) (.cons (t := 12) (Has.t rfl) (.cons (t := 13) (Has.t rfl) (.cons (t := 14) (Has.t rfl) .nil)))))))))))))))) ?_
  refine stT rfl rfl (fun hg => have hg' := BP.t hg; OK1.makeFn (ι := Nat × Nat) (As := fun p => [isU p.1, isU p.2]) (R := fun p => isB (decide (p.1 % fp q = p.2 % fp q))) (fun p => fmat_Same_1) .nil (.cons (Has.t rfl) .nil)) rfl ?_
  refine stT rfl rfl (fun hg => have hg' := BP.t hg; OK1.call (sl_EqualFunc (t := fun x y => decide (x % fp q = y % fp q))) (.cons (Has.g rfl hg) (.cons (Has.g rfl hg) (.cons (Has.g rfl hg) .nil)))) rfl ?_
  refine st (OK1.pickAnd (Has.t rfl) (fun h => Has.g rfl h)) rfl ?_
  refine st (OK1.as (Has.t rfl)) rfl ?_
  refine nl ?_
  refine At.thn (hK2 _ _ ?_); clear hK2
  refine Tri.cv (Cv.wk (.cons (t := 6) (Has.t rfl) .nil)) ?_
  refine Tri.ret ?_
  refine rt1 (.inl rfl) Try.results40 rfl (.tmp (Has.t' rfl ?_) .nil)
  all_goals (rfl)
end Go.Proofs.Ytfoclelageohiaa
/- Contracts: the document's products, transposes of words. -/
namespace Go.Proofs.Ytfoclelageohiaa
open Go.En Go.RowKit
set_option linter.unusedVariables false
set_option maxRecDepth 10000
open Go.Gf
open Go.Mz
open Go.Mu
open Go.Fe
set_option maxHeartbeats 4000000 in
theorem ref21_Mul {p R C D : Nat} {xs ys : List Nat} (hp : 0 < p) (hp2 : p < 4294967296) (hR : R ≤ 64) (hC : C ≤ 64) (hD : D ≤ 64) (hxl : xs.length = R * C) (hyl : ys.length = C * D) : Ctr Try.prog 24 [isMW R C xs, isMW C D ys, isU p] (isMW R D (tabU (R * D) D fun i k => dotN (fun j => xs.getD (i * C + j) 0) (fun j => ys.getD (j * D + k) 0) C % p)) := by
  refine Ctr.intro Try.func24 rfl (by kernel_rfl) Try.ntmps24 rfl fun w0 F0 => ?_
  refine Tri.cv (Cv.wk (.cons (t := 0) (Has.t rfl) (.cons (t := 1) (Has.t rfl) (.cons (t := 2) (Has.t rfl) .nil)))) ?_
  refine Tri.fact (Has.ltU (Has.t (t := 2) rfl)) fun lt2 => ?_
  have h1 := side_le hR hC
  have h2 := side_le hC hD
  have h3 := side_le hR hD
  obtain ⟨G, hG⟩ : ∃ G : Nat → Nat → Nat, G = fun i k => dotN (fun j => xs.getD (i * C + j) 0) (fun j => ys.getD (j * D + k) 0) C % p := ⟨_, rfl⟩
  rw [← hG]
  refine Tri.seq fun K1 hK1 => ?_
  refine Tri.region ?_
  refine Ops.box (Has.t rfl) rfl fun b1 => ?_
  refine Ops.box (Has.t rfl) rfl fun b2 => ?_
  refine Ops.alloc [isI 0, isI 0, nilS] zero24 (fun _ _ => ⟨⟨rfl, by decide, by decide⟩, ⟨rfl, by decide, by decide⟩, rfl, trivial⟩) rfl fun b3 => ?_
  refine nl ?_
  refine At.thn (hK1 _ _ ?_); clear hK1
  refine Tri.seq fun K2 hK2 => ?_
  refine Tri.region ?_
  refine st (OK1.fieldAddr (Has.t rfl) fld24_0 ty3) rfl ?_
  refine st (OK1.load1 (Has.t rfl) (i := 2) rfl ty3 rfl) rfl ?_
  refine st (OK1.fieldAddr (Has.t rfl) fld24_1 ty3) rfl ?_
  refine st (OK1.load1 (Has.t rfl) (i := 1) rfl ty3 rfl) rfl ?_
  refine st (OK1.build [isI 0, isI 0, nilS] pl24 zero24 (fun _ _ => ⟨⟨rfl, by decide, by decide⟩, ⟨rfl, by decide, by decide⟩, rfl, trivial⟩) (.cons (Has.t rfl) rfl rfl rfl (.cons (Has.t rfl) rfl rfl rfl .nil)) (Z'' := [_, _, _]) rfl) rfl ?_
  refine Ops.alloc [isI 0, isI 0, nilS] zero24 (fun _ _ => ⟨⟨rfl, by decide, by decide⟩, ⟨rfl, by decide, by decide⟩, rfl, trivial⟩) rfl fun b4 => ?_
  refine Ops.store (Has.t rfl) (Has.t rfl) (i := 0) rfl ty24 rfl rfl (Ss' := [_, _, _]) rfl (M' := [(some _, cellM [_, _, _]), _, _, _]) rfl ?_
  refine nl ?_
  refine At.thn (hK2 _ _ ?_); clear hK2
  refine Tri.cv (Cv.wk (.cons (t := 2) (Has.t rfl) (.cons (t := 3) (Has.t rfl) (.cons (t := 4) (Has.t rfl) (.cons (t := 6) (Has.t rfl) (.cons (t := 7) (Has.t rfl) .nil)))))) ?_
  refine Tri.seq fun K3 hK3 => ?_
  refine Tri.seq fun K4 hK4 => ?_
  refine Tri.cv (Cv.growF (Nat) (i := 0) (o := 2) rfl rfl rfl) ?_
  refine Tri.memEq (M' := [grM isU Gr.nil [], _, _, _, _]) rfl ?_
  refine Tri.region ?_
  refine st (OK1.as (Has.cI 0 rfl)) rfl ?_
  refine nl ?_
  refine At.thn (hK4 _ _ ?_); clear hK4
  refine Tri.block ?_
  refine Tri.loopF [2, 3, 4, 6, 7] (fun (z : { z : Nat × Gr Nat // z.1 ≤ R }) => match z with | ⟨(i, g), hI⟩ => [(8, isI (i : Int))]) (fun M => fun (z : { z : Nat × Gr Nat // z.1 ≤ R }) => match z with | ⟨(i, g), hI⟩ => [grM isU g (tabU (i * D + 0) D G), (some b4, cellM [isI (R : Int), isI (D : Int), isGr g (tabU (i * D + 0) D G).length]), (some b3, cellM [isI 0, isI 0, nilS]), (some b2, cellM [isI (C : Int), isI (D : Int), SlM isU ys]), (some b1, cellM [isI (R : Int), isI (C : Int), SlM isU xs])]) (fun (z : { z : Nat × Gr Nat // z.1 ≤ R }) => match z with | ⟨(i, g), hI⟩ => R - i) (⟨(0, Gr.nil), Nat.zero_le _⟩) (Cv.mem (.cons (t := 8) (Has.t' rfl ?_) (.cons (t := 2) (Has.t rfl) (.cons (t := 3) (Has.t rfl) (.cons (t := 4) (Has.t rfl) (.cons (t := 6) (Has.t rfl) (.cons (t := 7) (Has.t rfl) .nil)))))) ?_) ?_
  · rfl
  · exact grFu_eq (n := 0) (ys := []) (by rw [tabU_len, Nat.zero_mul]) (show [] = tabU (0 * D + 0) D G by rw [Nat.zero_mul]; rfl)
  rintro ⟨⟨i, g⟩, hI⟩ K5 hK5
  refine Tri.cv (Cv.wk (.cons (t := 8) (Has.t rfl) (.cons (t := 2) (Has.t rfl) (.cons (t := 3) (Has.t rfl) (.cons (t := 4) (Has.t rfl) (.cons (t := 6) (Has.t rfl) (.cons (t := 7) (Has.t rfl) .nil))))))) ?_
  refine Tri.memEq (M' := [grM isU g (tabU (i * D + 0) D G), (some b4, cellM [isI (R : Int), isI (D : Int), isGr g (tabU (i * D + 0) D G).length]), (some b3, cellM [isI 0, isI 0, nilS]), (some b2, cellM [isI (C : Int), isI (D : Int), SlM isU ys]), (some b1, cellM [isI (R : Int), isI (C : Int), SlM isU xs])]) rfl ?_
  simp only [] at hI
  refine Tri.seq fun K6 hK6 => ?_
  refine Tri.seq fun K7 hK7 => ?_
  refine Tri.region ?_
  refine st (OK1.mv (Has.t rfl)) rfl ?_
  refine st (OK1.fieldAddr (Has.t rfl) fld24_0 ty3) rfl ?_
  refine st (OK1.load1 (Has.t rfl) (i := 4) rfl ty3 rfl) rfl ?_
  refine st (OK1.ltI (Has.t rfl) (Has.t rfl)) rfl ?_
  refine nl ?_
  refine At.thn (hK7 _ _ ?_); clear hK7
  refine Tri.cond (Has.t rfl) (fun hc1 => ?_) (fun hc1 => ?_)
  · have hc1 := BP.t hc1
    refine Tri.skip ?_
    refine At.thn (hK6 _ _ ?_); clear hK6
    refine Tri.seq fun K8 hK8 => ?_
    refine Tri.block ?_
    refine Tri.seq fun K9 hK9 => ?_
    refine Tri.region ?_
    refine st (OK1.as (Has.cI 0 rfl)) rfl ?_
    refine nl ?_
    refine At.thn (hK9 _ _ ?_); clear hK9
    refine Tri.block ?_
    refine Tri.loopF [2, 3, 4, 6, 7, 8, 17, 18, 19, 20] (fun (z : { z : Nat × Gr Nat // z.1 ≤ D }) => match z with | ⟨(k, g2), hK⟩ => [(9, isI (k : Int))]) (fun M => fun (z : { z : Nat × Gr Nat // z.1 ≤ D }) => match z with | ⟨(k, g2), hK⟩ => [grM isU g2 (tabU (i * D + k) D G), (some b4, cellM [isI (R : Int), isI (D : Int), isGr g2 (tabU (i * D + k) D G).length]), (some b3, cellM [isI 0, isI 0, nilS]), (some b2, cellM [isI (C : Int), isI (D : Int), SlM isU ys]), (some b1, cellM [isI (R : Int), isI (C : Int), SlM isU xs])]) (fun (z : { z : Nat × Gr Nat // z.1 ≤ D }) => match z with | ⟨(k, g2), hK⟩ => D - k) (⟨(0, g), Nat.zero_le _⟩) (Cv.mem (.cons (t := 9) (Has.t' rfl ?_) (.cons (t := 2) (Has.t rfl) (.cons (t := 3) (Has.t rfl) (.cons (t := 4) (Has.t rfl) (.cons (t := 6) (Has.t rfl) (.cons (t := 7) (Has.t rfl) (.cons (t := 8) (Has.t rfl) (.cons (t := 17) (Has.t rfl) (.cons (t := 18) (Has.t rfl) (.cons (t := 19) (Has.t rfl) (.cons (t := 20) (Has.t rfl) .nil))))))))))) ?_) ?_
    · rfl
    · rfl
    rintro ⟨⟨k, g2⟩, hK⟩ K10 hK10
    refine Tri.cv (Cv.wk (.cons (t := 9) (Has.t rfl) (.cons (t := 2) (Has.t rfl) (.cons (t := 3) (Has.t rfl) (.cons (t := 4) (Has.t rfl) (.cons (t := 6) (Has.t rfl) (.cons (t := 7) (Has.t rfl) (.cons (t := 8) (Has.t rfl) (.cons (t := 17) (Has.t rfl) (.cons (t := 18) (Has.t rfl) (.cons (t := 19) (Has.t rfl) (.cons (t := 20) (Has.t rfl) .nil)))))))))))) ?_
    refine Tri.memEq (M' := [grM isU g2 (tabU (i * D + k) D G), (some b4, cellM [isI (R : Int), isI (D : Int), isGr g2 (tabU (i * D + k) D G).length]), (some b3, cellM [isI 0, isI 0, nilS]), (some b2, cellM [isI (C : Int), isI (D : Int), SlM isU ys]), (some b1, cellM [isI (R : Int), isI (C : Int), SlM isU xs])]) rfl ?_
    simp only [] at hK
    refine Tri.seq fun K11 hK11 => ?_
    refine Tri.seq fun K12 hK12 => ?_
    refine Tri.region ?_
    refine st (OK1.mv (Has.t rfl)) rfl ?_
    refine st (OK1.fieldAddr (Has.t rfl) fld24_1 ty3) rfl ?_
    refine st (OK1.load1 (Has.t rfl) (i := 3) rfl ty3 rfl) rfl ?_
    refine st (OK1.ltI (Has.t rfl) (Has.t rfl)) rfl ?_
    refine nl ?_
    refine At.thn (hK12 _ _ ?_); clear hK12
    refine Tri.cond (Has.t rfl) (fun hc2 => ?_) (fun hc2 => ?_)
    · have hc2 := BP.t hc2
      refine Tri.skip ?_
      refine At.thn (hK11 _ _ ?_); clear hK11
      refine Tri.seq fun K13 hK13 => ?_
      refine Tri.block ?_
      refine Tri.seq fun K14 hK14 => ?_
      refine Tri.region ?_
      refine st (OK1.as (Has.cU 0 rfl)) rfl ?_
      refine nl ?_
      refine At.thn (hK14 _ _ ?_); clear hK14
      refine Tri.seq fun K15 hK15 => ?_
      refine Tri.seq fun K16 hK16 => ?_
      refine Tri.region ?_
      refine st (OK1.as (Has.cI 0 rfl)) rfl ?_
      refine nl ?_
      refine At.thn (hK16 _ _ ?_); clear hK16
      refine Tri.block ?_
      refine Tri.loopF [2, 3, 4, 6, 7, 8, 17, 18, 19, 20, 9, 23, 24, 25, 26] (fun (z : { j : Nat // j ≤ C }) => match z with | ⟨j, hj⟩ => [(11, isI (j : Int)), (10, isU (dotN (fun j => xs.getD (i * C + j) 0) (fun j => ys.getD (j * D + k) 0) j % p))]) (fun M => fun (z : { j : Nat // j ≤ C }) => match z with | ⟨j, hj⟩ => M) (fun (z : { j : Nat // j ≤ C }) => match z with | ⟨j, hj⟩ => C - j) (⟨0, Nat.zero_le _⟩) (Cv.mem (.cons (t := 11) (Has.t' rfl ?_) (.cons (t := 10) (Has.t' rfl ?_) (.cons (t := 2) (Has.t rfl) (.cons (t := 3) (Has.t rfl) (.cons (t := 4) (Has.t rfl) (.cons (t := 6) (Has.t rfl) (.cons (t := 7) (Has.t rfl) (.cons (t := 8) (Has.t rfl) (.cons (t := 17) (Has.t rfl) (.cons (t := 18) (Has.t rfl) (.cons (t := 19) (Has.t rfl) (.cons (t := 20) (Has.t rfl) (.cons (t := 9) (Has.t rfl) (.cons (t := 23) (Has.t rfl) (.cons (t := 24) (Has.t rfl) (.cons (t := 25) (Has.t rfl) (.cons (t := 26) (Has.t rfl) .nil))))))))))))))))) ?_) ?_
      · rfl
      · exact isU_eq (Nat.zero_mod _).symm
      · rfl
      rintro ⟨j, hj⟩ K17 hK17
      refine Tri.cv (Cv.wk (.cons (t := 11) (Has.t rfl) (.cons (t := 10) (Has.t rfl) (.cons (t := 2) (Has.t rfl) (.cons (t := 3) (Has.t rfl) (.cons (t := 4) (Has.t rfl) (.cons (t := 6) (Has.t rfl) (.cons (t := 7) (Has.t rfl) (.cons (t := 8) (Has.t rfl) (.cons (t := 17) (Has.t rfl) (.cons (t := 18) (Has.t rfl) (.cons (t := 19) (Has.t rfl) (.cons (t := 20) (Has.t rfl) (.cons (t := 9) (Has.t rfl) (.cons (t := 23) (Has.t rfl) (.cons (t := 24) (Has.t rfl) (.cons (t := 25) (Has.t rfl) (.cons (t := 26) (Has.t rfl) .nil)))))))))))))))))) ?_
      refine Tri.seq fun K18 hK18 => ?_
      refine Tri.seq fun K19 hK19 => ?_
      refine Tri.region ?_
      refine st (OK1.mv (Has.t rfl)) rfl ?_
      refine st (OK1.fieldAddr (Has.t rfl) fld24_1 ty3) rfl ?_
      refine st (OK1.load1 (Has.t rfl) (i := 4) rfl ty3 rfl) rfl ?_
      refine st (OK1.ltI (Has.t rfl) (Has.t rfl)) rfl ?_
      refine nl ?_
      refine At.thn (hK19 _ _ ?_); clear hK19
      refine Tri.cond (Has.t rfl) (fun hc3 => ?_) (fun hc3 => ?_)
      · have hc3 := BP.t hc3
        have hp1 := place_lt (show i < R by omega) (show j < C by omega)
        have hp3 := place_lt (show j < C by omega) (show k < D by omega)
        have hm1 := Nat.mod_lt (dotN (fun j => xs.getD (i * C + j) 0) (fun j => ys.getD (j * D + k) 0) j) hp
        have hm2 := Nat.mod_lt (xs.getD (i * C + j) 0 % p * (ys.getD (j * D + k) 0 % p)) hp
        refine Tri.skip ?_
        refine At.thn (hK18 _ _ ?_); clear hK18
        refine Tri.seq fun K20 hK20 => ?_
        refine Tri.block ?_
        refine Tri.dr ?_
        refine DrG.st (i := 0) [] rfl rfl rfl (by kernel_rfl) (OKG.o rfl (OK1.mv (Has.t rfl))) ?_
        refine DrG.st (i := 1) [] rfl rfl rfl (by kernel_rfl) (OKG.o rfl (OK1.load (Has.t rfl) (i := 4) rfl ty24 rfl (Ss' := [_, _, _]) rfl)) ?_
        refine DrG.st (i := 2) [] rfl rfl rfl (by kernel_rfl) (OKG.o rfl (OK1.mv (Has.t rfl))) ?_
        refine DrG.st (i := 3) [] rfl rfl rfl (by kernel_rfl) (OKG.o rfl (OK1.mv (Has.t rfl))) ?_
        refine DrG.st (i := 4) [] rfl rfl rfl (by kernel_rfl) (OKG.o rfl (OK1.mv (Has.t rfl))) ?_
        refine DrG.st (i := 5) [36, 37, 38, 39] rfl rfl rfl (by kernel_rfl) (OKG.o rfl (OK1.call (ref21_At (i := i) (k := j) hp (by omega) (by omega)) (.cons (Has.t rfl) (.cons (Has.t rfl) (.cons (Has.t rfl) (.cons (Has.t rfl) .nil)))))) ?_
        refine DrG.st (i := 6) [] rfl rfl rfl (by kernel_rfl) (OKG.o rfl (OK1.load (Has.t rfl) (i := 3) rfl ty24 rfl (Ss' := [_, _, _]) rfl)) ?_
        refine DrG.st (i := 7) [] rfl rfl rfl (by kernel_rfl) (OKG.o rfl (OK1.mv (Has.t rfl))) ?_
        refine DrG.st (i := 8) [] rfl rfl rfl (by kernel_rfl) (OKG.o rfl (OK1.mv (Has.t rfl))) ?_
        refine DrG.st (i := 9) [] rfl rfl rfl (by kernel_rfl) (OKG.o rfl (OK1.mv (Has.t rfl))) ?_
        refine DrG.st (i := 10) [41, 42, 43, 44] rfl rfl rfl (by kernel_rfl) (OKG.o rfl (OK1.call (ref21_At (i := j) (k := k) hp (by omega) (by omega)) (.cons (Has.t rfl) (.cons (Has.t rfl) (.cons (Has.t rfl) (.cons (Has.t rfl) .nil)))))) ?_
        refine DrG.st (i := 11) [] rfl rfl rfl (by kernel_rfl) (OKG.o rfl (OK1.mv (Has.t rfl))) ?_
        refine DrG.st (i := 12) [40, 45, 46] rfl rfl rfl (by kernel_rfl) (OKG.o rfl (OK1.call (ref08_Mul hp hp2) (.cons (Has.t rfl) (.cons (Has.t rfl) (.cons (Has.t rfl) .nil))))) ?_
        refine DrG.st (i := 13) [35, 47] rfl rfl rfl (by kernel_rfl) (OKG.o rfl (OK1.addU' (Has.t rfl) (Has.t rfl) (by first | omega | assumption))) ?_
        refine DrG.st (i := 14) [] rfl rfl rfl (by kernel_rfl) (OKG.o rfl (OK1.mv (Has.t rfl))) ?_
        refine DrG.fin (n := 15) mixed (by kernel_rfl) (by kernel_rfl) (by kernel_rfl) ?_
        refine Ops.cv (Cv.wk (.cons (t := 2) (Has.t rfl) (.cons (t := 3) (Has.t rfl) (.cons (t := 4) (Has.t rfl) (.cons (t := 6) (Has.t rfl) (.cons (t := 7) (Has.t rfl) (.cons (t := 8) (Has.t rfl) (.cons (t := 17) (Has.t rfl) (.cons (t := 18) (Has.t rfl) (.cons (t := 19) (Has.t rfl) (.cons (t := 20) (Has.t rfl) (.cons (t := 9) (Has.t rfl) (.cons (t := 23) (Has.t rfl) (.cons (t := 24) (Has.t rfl) (.cons (t := 25) (Has.t rfl) (.cons (t := 26) (Has.t rfl) (.cons (t := 11) (Has.t rfl) (.cons (t := 10) (Has.t rfl) (.cons (t := 29) (Has.t rfl) (.cons (t := 30) (Has.t rfl) (.cons (t := 31) (Has.t rfl) (.cons (t := 32) (Has.t rfl) (.cons (t := 35) (Has.t rfl) (.cons (t := 36) (Has.t rfl) (.cons (t := 37) (Has.t rfl) (.cons (t := 38) (Has.t rfl) (.cons (t := 39) (Has.t rfl) (.cons (t := 40) (Has.t rfl) (.cons (t := 41) (Has.t rfl) (.cons (t := 42) (Has.t rfl) (.cons (t := 43) (Has.t rfl) (.cons (t := 44) (Has.t rfl) (.cons (t := 45) (Has.t rfl) (.cons (t := 46) (Has.t rfl) (.cons (t := 47) (Has.t rfl) (.cons (t := 48) (Has.t rfl) (.cons (t := 49) (Has.t rfl) .nil))))))))))))))))))))))))))))))))))))) ?_
        refine st (OK1.remU (Has.t rfl) (Has.t rfl) (by first | omega | assumption) (by first | omega | assumption)) rfl ?_
        refine st (OK1.as (Has.t rfl)) rfl ?_
        refine nl ?_
        refine At.bln ?_
        refine At.thn (hK20 _ _ ?_); clear hK20
        refine Tri.region ?_
        refine st (OK1.mv (Has.t rfl)) rfl ?_
        refine st (OK1.addI (Has.t rfl) (Has.cI 1 rfl) (by first | omega | assumption) (by first | omega | assumption)) rfl ?_
        refine st (OK1.as (Has.t rfl)) rfl ?_
        refine nl ?_
        refine At.thn ?_
        refine hK17 (⟨j + 1, by omega⟩) _ _ ?_ (Cv.mem (.cons (t := 11) (Has.t' rfl ?_) (.cons (t := 10) (Has.t' rfl ?_) (.cons (t := 2) (Has.t rfl) (.cons (t := 3) (Has.t rfl) (.cons (t := 4) (Has.t rfl) (.cons (t := 6) (Has.t rfl) (.cons (t := 7) (Has.t rfl) (.cons (t := 8) (Has.t rfl) (.cons (t := 17) (Has.t rfl) (.cons (t := 18) (Has.t rfl) (.cons (t := 19) (Has.t rfl) (.cons (t := 20) (Has.t rfl) (.cons (t := 9) (Has.t rfl) (.cons (t := 23) (Has.t rfl) (.cons (t := 24) (Has.t rfl) (.cons (t := 25) (Has.t rfl) (.cons (t := 26) (Has.t rfl) .nil))))))))))))))))) ?_)
        · show C - (j + 1) < C - j; omega
        · exact isI_eq (by omega)
        · exact isU_eq (mul_step _ _ _ _)
        · rfl
      · have hc3 := BP.f hc3
        skip
        refine Tri.exit ?_
        refine At.the ?_
        refine At.the ?_
        refine At.blh ?_
        refine At.thn (hK15 _ _ ?_); clear hK15
        refine Tri.region ?_
        refine st (OK1.fieldAddr (Has.t rfl) fld24_2 ty22) rfl ?_
        refine st (OK1.load1 (Has.t rfl) (i := 1) rfl ty22 rfl) rfl ?_
        refine st (OK1.eq (OK1.mv (Has.t rfl)) ((show isU _ = isU (G i k) from isU_eq (by rw [hG, show j = C by omega])))) rfl ?_
        refine st (OK1.buildS [isU 0] sl22 ty27 zero27 (fun _ _ => ⟨⟨rfl, by decide⟩, trivial⟩) rfl rfl (.cons (Has.t rfl) rfl rfl rfl .nil) rfl (S := SlM isU [G i k]) rfl) rfl ?_
        refine Ops.appendG (f := isU) (u := 0) sl22 ty27 zero27 (fun _ _ => ⟨⟨rfl, by decide⟩, trivial⟩) (fun _ => inferInstance) by27 (Has.t rfl) (i := 0) rfl (Has.t rfl) (by have hpl := place_lt (show i < R by omega) (show k < D by omega); rw [tabU_len]; show i * D + k + 1 ≤ _; omega) (by simp) rfl fun gr1 => ?_
        refine Ops.memEq (M' := [grM _ _ _, _, _, _, _]) rfl ?_
        refine st (OK1.fieldAddr (Has.t rfl) fld24_2 ty22) rfl ?_
        refine Ops.store (Has.t rfl) (Has.t rfl) (i := 1) rfl ty22 rfl rfl (Ss' := [_, _, _]) rfl (M' := [_, (some _, cellM [_, _, _]), _, _, _]) rfl ?_
        refine nl ?_
        refine At.bln ?_
        refine At.thn (hK13 _ _ ?_); clear hK13
        refine Tri.region ?_
        refine st (OK1.mv (Has.t rfl)) rfl ?_
        refine st (OK1.addI (Has.t rfl) (Has.cI 1 rfl) (by first | omega | assumption) (by first | omega | assumption)) rfl ?_
        refine st (OK1.as (Has.t rfl)) rfl ?_
        refine nl ?_
        refine At.thn ?_
        have hpl := place_lt (show i < R by omega) (show k < D by omega)
        refine hK10 (⟨(k + 1, gr1), by show k + 1 ≤ D; omega⟩) _ _ ?_ (Cv.mem (.cons (t := 9) (Has.t' rfl ?_) (.cons (t := 2) (Has.t rfl) (.cons (t := 3) (Has.t rfl) (.cons (t := 4) (Has.t rfl) (.cons (t := 6) (Has.t rfl) (.cons (t := 7) (Has.t rfl) (.cons (t := 8) (Has.t rfl) (.cons (t := 17) (Has.t rfl) (.cons (t := 18) (Has.t rfl) (.cons (t := 19) (Has.t rfl) (.cons (t := 20) (Has.t rfl) .nil))))))))))) ?_)
        · show D - (k + 1) < D - k; omega
        · exact isI_eq (by omega)
        · exact grFu_eq (by rw [← tabU_succ G (show k < D by omega), List.length_append]) (by rw [← tabU_succ G (show k < D by omega)])
    · have hc2 := BP.f hc2
      refine Tri.exit ?_
      refine At.the ?_
      refine At.the ?_
      refine At.blh ?_
      refine At.bln ?_
      refine At.thn (hK8 _ _ ?_); clear hK8
      refine Tri.region ?_
      refine st (OK1.mv (Has.t rfl)) rfl ?_
      refine st (OK1.addI (Has.t rfl) (Has.cI 1 rfl) (by first | omega | assumption) (by first | omega | assumption)) rfl ?_
      refine st (OK1.as (Has.t rfl)) rfl ?_
      refine nl ?_
      refine At.thn ?_
      have hkD : k = D := by omega
      subst hkD
      refine hK5 (⟨(i + 1, g2), by show i + 1 ≤ R; omega⟩) _ _ ?_ (Cv.mem (.cons (t := 8) (Has.t' rfl ?_) (.cons (t := 2) (Has.t rfl) (.cons (t := 3) (Has.t rfl) (.cons (t := 4) (Has.t rfl) (.cons (t := 6) (Has.t rfl) (.cons (t := 7) (Has.t rfl) .nil)))))) ?_)
      · show R - (i + 1) < R - i; omega
      · exact isI_eq (by omega)
      · exact grFu_eq (by rw [tabU_next]) (by rw [tabU_next])
  · have hc1 := BP.f hc1
    refine Tri.exit ?_
    refine At.the ?_
    refine At.the ?_
    refine At.blh ?_
    refine At.thn (hK3 _ _ ?_); clear hK3
    refine Tri.cv (Cv.wk (.cons (t := 6) (Has.t rfl) (.cons (t := 7) (Has.t rfl) .nil))) ?_
    refine Tri.seq fun K21 hK21 => ?_
    refine Tri.cv (Cv.freezeF (k := 1) (i := 0) (j := 0) (o := 2) rfl rfl rfl rfl gr_lenM gr_takeM (Ss' := [_, _, SlM isU (tabU (i * D + 0) D G)]) rfl) ?_
    refine Tri.memEq (M' := [(some _, cellM [_, _, SlM isU (tabU (i * D + 0) D G)]), _, _, _]) rfl ?_
    refine Tri.cv (Cv.wk (.cons (t := 6) (Has.t rfl) (.cons (t := 7) (Has.t rfl) .nil))) ?_
    refine Tri.region ?_
    refine st (OK1.load (Has.t rfl) (i := 0) rfl ty24 rfl (Ss' := [_, _, _]) rfl) rfl ?_
    refine Ops.store (Has.t rfl) (Has.t rfl) (i := 1) rfl ty24 rfl rfl (Ss' := [_, _, _]) rfl (M' := [_, (some _, cellM [_, _, _]), _, _]) rfl ?_
    refine nl ?_
    refine At.thn (hK21 _ _ ?_); clear hK21
    refine Tri.ret ?_
    refine rt1 (.inl rfl) Try.results24 rfl (.cell rfl (i := 1) rfl ty24 rfl ?_ .nil)
    all_goals (rw [Nat.add_zero, show i = R by omega])
set_option maxHeartbeats 4000000 in
theorem ref21_Turned {R C : Nat} {xs : List Nat} (hR : R ≤ 64) (hC : C ≤ 64) (hxl : xs.length = R * C) : Ctr Try.prog 29 [isMW R C xs] (isMW C R (tabU (C * R) R fun i k => xs.getD (k * C + i) 0)) := by
  refine Ctr.intro Try.func29 rfl (by kernel_rfl) Try.ntmps29 rfl fun w0 F0 => ?_
  refine Tri.cv (Cv.wk (.cons (t := 0) (Has.t rfl) .nil)) ?_
  have h1 := side_le hR hC
  have h2 := side_le hC hR
  obtain ⟨G, hG⟩ : ∃ G : Nat → Nat → Nat, G = fun i k => xs.getD (k * C + i) 0 := ⟨_, rfl⟩
  rw [← hG]
  refine Tri.seq fun K1 hK1 => ?_
  refine Tri.region ?_
  refine Ops.box (Has.t rfl) rfl fun b1 => ?_
  refine Ops.alloc [isI 0, isI 0, nilS] zero24 (fun _ _ => ⟨⟨rfl, by decide, by decide⟩, ⟨rfl, by decide, by decide⟩, rfl, trivial⟩) rfl fun b2 => ?_
  refine nl ?_
  refine At.thn (hK1 _ _ ?_); clear hK1
  refine Tri.seq fun K2 hK2 => ?_
  refine Tri.region ?_
  refine st (OK1.fieldAddr (Has.t rfl) fld24_1 ty3) rfl ?_
  refine st (OK1.load1 (Has.t rfl) (i := 1) rfl ty3 rfl) rfl ?_
  refine st (OK1.fieldAddr (Has.t rfl) fld24_0 ty3) rfl ?_
  refine st (OK1.load1 (Has.t rfl) (i := 1) rfl ty3 rfl) rfl ?_
  refine st (OK1.build [isI 0, isI 0, nilS] pl24 zero24 (fun _ _ => ⟨⟨rfl, by decide, by decide⟩, ⟨rfl, by decide, by decide⟩, rfl, trivial⟩) (.cons (Has.t rfl) rfl rfl rfl (.cons (Has.t rfl) rfl rfl rfl .nil)) (Z'' := [_, _, _]) rfl) rfl ?_
  refine Ops.alloc [isI 0, isI 0, nilS] zero24 (fun _ _ => ⟨⟨rfl, by decide, by decide⟩, ⟨rfl, by decide, by decide⟩, rfl, trivial⟩) rfl fun b3 => ?_
  refine Ops.store (Has.t rfl) (Has.t rfl) (i := 0) rfl ty24 rfl rfl (Ss' := [_, _, _]) rfl (M' := [(some _, cellM [_, _, _]), _, _]) rfl ?_
  refine nl ?_
  refine At.thn (hK2 _ _ ?_); clear hK2
  refine Tri.cv (Cv.wk (.cons (t := 1) (Has.t rfl) (.cons (t := 2) (Has.t rfl) (.cons (t := 3) (Has.t rfl) .nil)))) ?_
  refine Tri.seq fun K3 hK3 => ?_
  refine Tri.seq fun K4 hK4 => ?_
  refine Tri.cv (Cv.growF (Nat) (i := 0) (o := 2) rfl rfl rfl) ?_
  refine Tri.memEq (M' := [grM isU Gr.nil [], _, _, _]) rfl ?_
  refine Tri.region ?_
  refine st (OK1.as (Has.cI 0 rfl)) rfl ?_
  refine nl ?_
  refine At.thn (hK4 _ _ ?_); clear hK4
  refine Tri.block ?_
  refine Tri.loopF [1, 2, 3] (fun (z : { z : Nat × Gr Nat // z.1 ≤ C }) => match z with | ⟨(i, g), hI⟩ => [(4, isI (i : Int))]) (fun M => fun (z : { z : Nat × Gr Nat // z.1 ≤ C }) => match z with | ⟨(i, g), hI⟩ => [grM isU g (tabU (i * R + 0) R G), (some b3, cellM [isI (C : Int), isI (R : Int), isGr g (tabU (i * R + 0) R G).length]), (some b2, cellM [isI 0, isI 0, nilS]), (some b1, cellM [isI (R : Int), isI (C : Int), SlM isU xs])]) (fun (z : { z : Nat × Gr Nat // z.1 ≤ C }) => match z with | ⟨(i, g), hI⟩ => C - i) (⟨(0, Gr.nil), Nat.zero_le _⟩) (Cv.mem (.cons (t := 4) (Has.t' rfl ?_) (.cons (t := 1) (Has.t rfl) (.cons (t := 2) (Has.t rfl) (.cons (t := 3) (Has.t rfl) .nil)))) ?_) ?_
  · rfl
  · exact grFu_eq (n := 0) (ys := []) (by rw [tabU_len, Nat.zero_mul]) (show [] = tabU (0 * R + 0) R G by rw [Nat.zero_mul]; rfl)
  rintro ⟨⟨i, g⟩, hI⟩ K5 hK5
  refine Tri.cv (Cv.wk (.cons (t := 4) (Has.t rfl) (.cons (t := 1) (Has.t rfl) (.cons (t := 2) (Has.t rfl) (.cons (t := 3) (Has.t rfl) .nil))))) ?_
  refine Tri.memEq (M' := [grM isU g (tabU (i * R + 0) R G), (some b3, cellM [isI (C : Int), isI (R : Int), isGr g (tabU (i * R + 0) R G).length]), (some b2, cellM [isI 0, isI 0, nilS]), (some b1, cellM [isI (R : Int), isI (C : Int), SlM isU xs])]) rfl ?_
  simp only [] at hI
  refine Tri.seq fun K6 hK6 => ?_
  refine Tri.seq fun K7 hK7 => ?_
  refine Tri.region ?_
  refine st (OK1.mv (Has.t rfl)) rfl ?_
  refine st (OK1.fieldAddr (Has.t rfl) fld24_1 ty3) rfl ?_
  refine st (OK1.load1 (Has.t rfl) (i := 3) rfl ty3 rfl) rfl ?_
  refine st (OK1.ltI (Has.t rfl) (Has.t rfl)) rfl ?_
  refine nl ?_
  refine At.thn (hK7 _ _ ?_); clear hK7
  refine Tri.cond (Has.t rfl) (fun hc1 => ?_) (fun hc1 => ?_)
  · have hc1 := BP.t hc1
    refine Tri.skip ?_
    refine At.thn (hK6 _ _ ?_); clear hK6
    refine Tri.seq fun K8 hK8 => ?_
    refine Tri.block ?_
    refine Tri.seq fun K9 hK9 => ?_
    refine Tri.region ?_
    refine st (OK1.as (Has.cI 0 rfl)) rfl ?_
    refine nl ?_
    refine At.thn (hK9 _ _ ?_); clear hK9
    refine Tri.block ?_
    refine Tri.loopF [1, 2, 3, 4, 11, 12, 13, 14] (fun (z : { z : Nat × Gr Nat // z.1 ≤ R }) => match z with | ⟨(k, g2), hK⟩ => [(5, isI (k : Int))]) (fun M => fun (z : { z : Nat × Gr Nat // z.1 ≤ R }) => match z with | ⟨(k, g2), hK⟩ => [grM isU g2 (tabU (i * R + k) R G), (some b3, cellM [isI (C : Int), isI (R : Int), isGr g2 (tabU (i * R + k) R G).length]), (some b2, cellM [isI 0, isI 0, nilS]), (some b1, cellM [isI (R : Int), isI (C : Int), SlM isU xs])]) (fun (z : { z : Nat × Gr Nat // z.1 ≤ R }) => match z with | ⟨(k, g2), hK⟩ => R - k) (⟨(0, g), Nat.zero_le _⟩) (Cv.mem (.cons (t := 5) (Has.t' rfl ?_) (.cons (t := 1) (Has.t rfl) (.cons (t := 2) (Has.t rfl) (.cons (t := 3) (Has.t rfl) (.cons (t := 4) (Has.t rfl) (.cons (t := 11) (Has.t rfl) (.cons (t := 12) (Has.t rfl) (.cons (t := 13) (Has.t rfl) (.cons (t := 14) (Has.t rfl) .nil))))))))) ?_) ?_
    · rfl
    · rfl
    rintro ⟨⟨k, g2⟩, hK⟩ K10 hK10
    refine Tri.cv (Cv.wk (.cons (t := 5) (Has.t rfl) (.cons (t := 1) (Has.t rfl) (.cons (t := 2) (Has.t rfl) (.cons (t := 3) (Has.t rfl) (.cons (t := 4) (Has.t rfl) (.cons (t := 11) (Has.t rfl) (.cons (t := 12) (Has.t rfl) (.cons (t := 13) (Has.t rfl) (.cons (t := 14) (Has.t rfl) .nil)))))))))) ?_
    refine Tri.memEq (M' := [grM isU g2 (tabU (i * R + k) R G), (some b3, cellM [isI (C : Int), isI (R : Int), isGr g2 (tabU (i * R + k) R G).length]), (some b2, cellM [isI 0, isI 0, nilS]), (some b1, cellM [isI (R : Int), isI (C : Int), SlM isU xs])]) rfl ?_
    simp only [] at hK
    refine Tri.seq fun K11 hK11 => ?_
    refine Tri.seq fun K12 hK12 => ?_
    refine Tri.region ?_
    refine st (OK1.mv (Has.t rfl)) rfl ?_
    refine st (OK1.fieldAddr (Has.t rfl) fld24_0 ty3) rfl ?_
    refine st (OK1.load1 (Has.t rfl) (i := 3) rfl ty3 rfl) rfl ?_
    refine st (OK1.ltI (Has.t rfl) (Has.t rfl)) rfl ?_
    refine nl ?_
    refine At.thn (hK12 _ _ ?_); clear hK12
    refine Tri.cond (Has.t rfl) (fun hc2 => ?_) (fun hc2 => ?_)
    · have hc2 := BP.t hc2
      have hp1 := place_lt (show k < R by omega) (show i < C by omega)
      have hcp : ((k : Int) * (C : Int)) = ((k * C : Nat) : Int) := (Int.natCast_mul k C).symm
      refine Tri.skip ?_
      refine At.thn (hK11 _ _ ?_); clear hK11
      refine Tri.seq fun K13 hK13 => ?_
      refine Tri.block ?_
      refine Tri.dr ?_
      refine DrG.st (i := 0) [] rfl rfl rfl (by kernel_rfl) (OKG.o rfl (OK1.fieldAddr (Has.t rfl) fld24_2 ty22)) ?_
      refine DrG.st (i := 1) [23] rfl rfl rfl (by kernel_rfl) (OKG.o rfl (OK1.load1 (Has.t rfl) (i := 1) rfl ty22 rfl)) ?_
      refine DrG.st (i := 2) [] rfl rfl rfl (by kernel_rfl) (OKG.o rfl (OK1.fieldAddr (Has.t rfl) fld24_2 ty22)) ?_
      refine DrG.st (i := 3) [25] rfl rfl rfl (by kernel_rfl) (OKG.o rfl (OK1.load1 (Has.t rfl) (i := 3) rfl ty22 rfl)) ?_
      refine DrG.st (i := 4) [] rfl rfl rfl (by kernel_rfl) (OKG.o rfl (OK1.mv (Has.t rfl))) ?_
      refine DrG.st (i := 5) [] rfl rfl rfl (by kernel_rfl) (OKG.o rfl (OK1.fieldAddr (Has.t rfl) fld24_1 ty3)) ?_
      refine DrG.st (i := 6) [28] rfl rfl rfl (by kernel_rfl) (OKG.o rfl (OK1.load1 (Has.t rfl) (i := 3) rfl ty3 rfl)) ?_
      refine DrG.st (i := 7) [27, 29] rfl rfl rfl (by kernel_rfl) (OKG.o rfl (OK1.eq (OK1.mulI (Has.t rfl) (Has.t rfl) (by first | omega | (rw [hcp]; omega)) (by first | omega | (rw [hcp]; omega))) ((show isI _ = isI ((k * C : Nat) : Int) from isI_eq hcp)))) ?_
      refine DrG.st (i := 8) [] rfl rfl rfl (by kernel_rfl) (OKG.o rfl (OK1.mv (Has.t rfl))) ?_
      refine DrG.st (i := 9) [30, 31] rfl rfl rfl (by kernel_rfl) (OKG.o rfl (OK1.eq (OK1.addI (Has.t rfl) (Has.t rfl) (by first | omega | (rw [hcp]; omega)) (by first | omega | (rw [hcp]; omega))) ((show isI _ = isI ((k * C + i : Nat) : Int) from isI_eq (by omega))))) ?_
      refine DrG.st (i := 10) [26, 32] rfl rfl rfl (by kernel_rfl) (OKG.o rfl (OK1.ixP sl22 ty27 (Has.t rfl) (Has.t rfl) ⟨by omega, by omega⟩ (getD_some (d := 0) (by first | omega | (simp only [Int.toNat_natCast, List.length_set]; omega))))) ?_
      refine DrG.st (i := 11) [33] rfl rfl rfl (by kernel_rfl) (OKG.o rfl (OK1.eq (OK1.loadP1 (Has.t rfl) ty27) ((show isU _ = isU (G i k) from isU_eq (by rw [hG]; rfl))))) ?_
      refine DrG.st (i := 12) [34] rfl rfl rfl (by kernel_rfl) (OKG.o rfl (OK1.buildS [isU 0] sl22 ty27 zero27 (fun _ _ => ⟨⟨rfl, by decide⟩, trivial⟩) rfl rfl (.cons (Has.t rfl) rfl rfl rfl .nil) rfl (S := SlM isU [G i k]) rfl)) ?_
      refine DrG.fin (n := 13) mixed (by kernel_rfl) (by kernel_rfl) (by kernel_rfl) ?_
      refine Ops.cv (Cv.wk (.cons (t := 1) (Has.t rfl) (.cons (t := 2) (Has.t rfl) (.cons (t := 3) (Has.t rfl) (.cons (t := 4) (Has.t rfl) (.cons (t := 11) (Has.t rfl) (.cons (t := 12) (Has.t rfl) (.cons (t := 13) (Has.t rfl) (.cons (t := 14) (Has.t rfl) (.cons (t := 5) (Has.t rfl) (.cons (t := 17) (Has.t rfl) (.cons (t := 18) (Has.t rfl) (.cons (t := 19) (Has.t rfl) (.cons (t := 20) (Has.t rfl) (.cons (t := 23) (Has.t rfl) (.cons (t := 24) (Has.t rfl) (.cons (t := 25) (Has.t rfl) (.cons (t := 26) (Has.t rfl) (.cons (t := 27) (Has.t rfl) (.cons (t := 28) (Has.t rfl) (.cons (t := 29) (Has.t rfl) (.cons (t := 30) (Has.t rfl) (.cons (t := 31) (Has.t rfl) (.cons (t := 32) (Has.t rfl) (.cons (t := 33) (Has.t rfl) (.cons (t := 34) (Has.t rfl) (.cons (t := 35) (Has.t rfl) .nil))))))))))))))))))))))))))) ?_
      refine Ops.appendG (f := isU) (u := 0) sl22 ty27 zero27 (fun _ _ => ⟨⟨rfl, by decide⟩, trivial⟩) (fun _ => inferInstance) by27 (Has.t rfl) (i := 0) rfl (Has.t rfl) (by have hpl := place_lt (show i < C by omega) (show k < R by omega); rw [tabU_len]; show i * R + k + 1 ≤ _; omega) (by simp) rfl fun gr1 => ?_
      refine Ops.memEq (M' := [grM _ _ _, _, _, _]) rfl ?_
      refine st (OK1.fieldAddr (Has.t rfl) fld24_2 ty22) rfl ?_
      refine Ops.store (Has.t rfl) (Has.t rfl) (i := 1) rfl ty22 rfl rfl (Ss' := [_, _, _]) rfl (M' := [_, (some _, cellM [_, _, _]), _, _]) rfl ?_
      refine nl ?_
      refine At.bln ?_
      refine At.thn (hK13 _ _ ?_); clear hK13
      refine Tri.region ?_
      refine st (OK1.mv (Has.t rfl)) rfl ?_
      refine st (OK1.addI (Has.t rfl) (Has.cI 1 rfl) (by first | omega | assumption) (by first | omega | assumption)) rfl ?_
      refine st (OK1.as (Has.t rfl)) rfl ?_
      refine nl ?_
      refine At.thn ?_
      have hpl := place_lt (show i < C by omega) (show k < R by omega)
      refine hK10 (⟨(k + 1, gr1), by show k + 1 ≤ R; omega⟩) _ _ ?_ (Cv.mem (.cons (t := 5) (Has.t' rfl ?_) (.cons (t := 1) (Has.t rfl) (.cons (t := 2) (Has.t rfl) (.cons (t := 3) (Has.t rfl) (.cons (t := 4) (Has.t rfl) (.cons (t := 11) (Has.t rfl) (.cons (t := 12) (Has.t rfl) (.cons (t := 13) (Has.t rfl) (.cons (t := 14) (Has.t rfl) .nil))))))))) ?_)
      · show R - (k + 1) < R - k; omega
      · exact isI_eq (by omega)
      · exact grFu_eq (by rw [← tabU_succ G (show k < R by omega), List.length_append]) (by rw [← tabU_succ G (show k < R by omega)])
    · have hc2 := BP.f hc2
      skip
      refine Tri.exit ?_
      refine At.the ?_
      refine At.the ?_
      refine At.blh ?_
      refine At.bln ?_
      refine At.thn (hK8 _ _ ?_); clear hK8
      refine Tri.region ?_
      refine st (OK1.mv (Has.t rfl)) rfl ?_
      refine st (OK1.addI (Has.t rfl) (Has.cI 1 rfl) (by first | omega | assumption) (by first | omega | assumption)) rfl ?_
      refine st (OK1.as (Has.t rfl)) rfl ?_
      refine nl ?_
      refine At.thn ?_
      have hkR : k = R := by omega
      subst hkR
      refine hK5 (⟨(i + 1, g2), by show i + 1 ≤ C; omega⟩) _ _ ?_ (Cv.mem (.cons (t := 4) (Has.t' rfl ?_) (.cons (t := 1) (Has.t rfl) (.cons (t := 2) (Has.t rfl) (.cons (t := 3) (Has.t rfl) .nil)))) ?_)
      · show C - (i + 1) < C - i; omega
      · exact isI_eq (by omega)
      · exact grFu_eq (by rw [tabU_next]) (by rw [tabU_next])
  · have hc1 := BP.f hc1
    refine Tri.exit ?_
    refine At.the ?_
    refine At.the ?_
    refine At.blh ?_
    refine At.thn (hK3 _ _ ?_); clear hK3
    refine Tri.cv (Cv.wk (.cons (t := 2) (Has.t rfl) (.cons (t := 3) (Has.t rfl) .nil))) ?_
    refine Tri.seq fun K14 hK14 => ?_
    refine Tri.cv (Cv.freezeF (k := 1) (i := 0) (j := 0) (o := 2) rfl rfl rfl rfl gr_lenM gr_takeM (Ss' := [_, _, SlM isU (tabU (i * R + 0) R G)]) rfl) ?_
    refine Tri.memEq (M' := [(some _, cellM [_, _, SlM isU (tabU (i * R + 0) R G)]), _, _]) rfl ?_
    refine Tri.cv (Cv.wk (.cons (t := 2) (Has.t rfl) (.cons (t := 3) (Has.t rfl) .nil))) ?_
    refine Tri.region ?_
    refine st (OK1.load (Has.t rfl) (i := 0) rfl ty24 rfl (Ss' := [_, _, _]) rfl) rfl ?_
    refine Ops.store (Has.t rfl) (Has.t rfl) (i := 1) rfl ty24 rfl rfl (Ss' := [_, _, _]) rfl (M' := [_, (some _, cellM [_, _, _]), _]) rfl ?_
    refine nl ?_
    refine At.thn (hK14 _ _ ?_); clear hK14
    refine Tri.ret ?_
    refine rt1 (.inl rfl) Try.results29 rfl (.cell rfl (i := 1) rfl ty24 rfl ?_ .nil)
    all_goals (rw [Nat.add_zero, show i = C by omega])
end Go.Proofs.Ytfoclelageohiaa
/- The laws of layer 21 as plain facts: reduced forms, inverses. No program here. -/
namespace Go.Fe
open Go.Gf Go.Mu Go.Dt Go.Mz
theorem tabP {p N C : Nat} {g : Nat → Nat → Nat} (hp : 0 < p) {j : Nat} (hj : j < (tabU N C fun i k => g i k % p).length) : (tabU N C fun i k => g i k % p).getD j 0 < p := by
  rw [tabU_len] at hj
  rw [tabU_at _ hj]; exact Nat.mod_lt _ hp
/-- alike, place by place -/
theorem sameW_of {p R C : Nat} {xs ys : List Nat} (hx : xs.length = R * C) (hy : ys.length = R * C) (h : ∀ i k, i < R → k < C → xs.getD (i * C + k) 0 % p = ys.getD (i * C + k) 0 % p) : sameW p (R : Int) (C : Int) xs (R : Int) (C : Int) ys = true := by
  refine decide_eq_true ⟨⟨⟨rfl, rfl⟩, by omega⟩, fun j hj => ?_⟩
  have hC : 0 < C := by rcases Nat.eq_zero_or_pos C with e | e; rw [e, Nat.mul_zero] at hx; omega; exact e
  have h1 : j / C < R := (Nat.div_lt_iff_lt_mul hC).2 (by omega)
  have h2 := h (j / C) (j % C) h1 (Nat.mod_lt _ hC)
  rwa [Nat.mul_comm (j / C), Nat.div_add_mod] at h2
section
variable {p R C : Nat} {xs : List Nat}
end
/-! ### inverses -/
end Go.Fe
/- The laws of layer 21 as plain facts: sums, multiples, products. No program here. -/
namespace Go.Fe
open Go.Gf Go.Mu Go.Dt Go.Mz
def byL (p : Nat) (xs : List Nat) (k : Nat) : List Nat := (List.range k).map fun j => xs.getD j 0 * 3 % p
def sumL (p : Nat) (s : Bool) (xs ys : List Nat) (k : Nat) : List Nat := if s = true then (List.range k).map fun j => (xs.getD j 0 % p + ys.getD j 0 % p) % p else []
theorem byL_len (p : Nat) (xs : List Nat) (k : Nat) : (byL p xs k).length = k := by unfold byL; rw [List.length_map, List.length_range]
theorem byL_succ (p : Nat) (xs : List Nat) (k : Nat) : byL p xs k ++ [xs.getD k 0 * 3 % p] = byL p xs (k + 1) := by unfold byL; rw [List.range_succ, List.map_append]; rfl
theorem byL_at {p : Nat} {xs : List Nat} {k j : Nat} (h : j < k) : (byL p xs k).getD j 0 = xs.getD j 0 * 3 % p := by
  unfold byL; rw [List.getD, List.getElem?_map, List.getElem?_range h]; rfl
theorem sumL_len {p : Nat} {s : Bool} {xs ys : List Nat} {k : Nat} : (sumL p s xs ys k).length ≤ k := by
  unfold sumL; split
  · rw [List.length_map, List.length_range]; exact Nat.le_refl _
  · exact Nat.zero_le _
theorem sumL_full {p : Nat} {s : Bool} {xs ys : List Nat} {k : Nat} (h : s = true) : (sumL p s xs ys k).length = k := by
  unfold sumL; rw [if_pos h, List.length_map, List.length_range]
theorem sumL_succ {p : Nat} {s : Bool} {xs ys : List Nat} {k : Nat} (h : s = true) : sumL p s xs ys k ++ [(xs.getD k 0 % p + ys.getD k 0 % p) % p] = sumL p s xs ys (k + 1) := by unfold sumL; rw [if_pos h, if_pos h, List.range_succ, List.map_append]; rfl
theorem sumL_none {p : Nat} {s : Bool} {xs ys : List Nat} {k : Nat} (h : s = false) : sumL p s xs ys k = sumL p s xs ys (k + 1) := by unfold sumL; rw [h]; rfl
theorem sumL_at {p : Nat} {s : Bool} {xs ys : List Nat} {k j : Nat} (hs : s = true) (h : j < k) : (sumL p s xs ys k).getD j 0 = (xs.getD j 0 % p + ys.getD j 0 % p) % p := by
  unfold sumL; rw [if_pos hs, List.getD, List.getElem?_map, List.getElem?_range h]; rfl
/-- both ways to compare -/
theorem same_both {p R C : Nat} {r2 c2 : Int} {xs ys : List Nat} (hfo : formB (R : Int) (C : Int) xs.length = true) :
    (alikeB (R : Int) (C : Int) xs.length r2 c2 ys.length && eqf (fun x y => decide (x % p = y % p)) xs ys) = (formB r2 c2 ys.length && sameW p (R : Int) (C : Int) xs r2 c2 ys) := by
  rw [Bool.eq_iff_iff, Bool.and_eq_true, Bool.and_eq_true, alike_iff, eqf_iff]
  unfold sameW
  rw [decide_eq_true_eq]
  constructor
  · rintro ⟨⟨_, h1, h2, h3⟩, h4, h5⟩
    exact ⟨h1, ⟨⟨h2, h3⟩, h4⟩, fun j hj => of_decide_eq_true (h5 j hj)⟩
  · rintro ⟨h1, ⟨⟨h2, h3⟩, h4⟩, h5⟩
    exact ⟨⟨hfo, h1, h2, h3⟩, h4, fun j hj => decide_eq_true (h5 j hj)⟩
theorem mulT {p R D : Nat} {g : Nat → Nat → Nat} : (tabU (R * D) D fun i k => g i k % p % p) = tabU (R * D) D fun i k => g i k % p := by
  congr 1; funext i k; exact Nat.mod_mod _ _
theorem sameW_refl (p : Nat) (r c : Int) (xs : List Nat) : sameW p r c xs r c xs = true := decide_eq_true ⟨⟨⟨rfl, rfl⟩, rfl⟩, fun _ _ => rfl⟩
end Go.Fe
/- A law of layer 21: sums, multiples, products, transposes, as a contract. -/
namespace Go.Proofs.Ytfoclelageohiaa
open Go.En Go.RowKit
set_option linter.unusedVariables false
set_option maxRecDepth 10000
open Go.Gf
open Go.Mz
open Go.Mu
open Go.Fe
theorem gr2_eq {g1 g2 : Gr Nat} {a a' b b' : List Nat} {r : Mem} (h : a = a') (h2 : b = b') : (grM isU g1 a :: grM isU g2 b :: r : Mem) = grM isU g1 a' :: grM isU g2 b' :: r := by subst h; subst h2; rfl
theorem fmat_AddAll {q R C : Nat} {r2 c2 : Int} {xs ys : List Nat} (hq : q < 4294967296) (hR : R ≤ 64) (hC : C ≤ 64) (hxl : xs.length = R * C) : Ctr Try.prog 33 [Flat [isU q], isMW R C xs, isMW r2 c2 ys]
    (isTup [isMW (if alikeB R C xs.length r2 c2 ys.length = true then R else 0) (if alikeB R C xs.length r2 c2 ys.length = true then C else 0) (if alikeB R C xs.length r2 c2 ys.length = true then tabU (R * C) C fun i k => (xs.getD (i * C + k) 0 % fp q + ys.getD (i * C + k) 0 % fp q) % fp q % fp q else []), isI (if alikeB R C xs.length r2 c2 ys.length = true then 0 else 2)]) := by
  cases h : alikeB R C xs.length r2 c2 ys.length with
  | true =>
    obtain ⟨_, h1, h2, h3⟩ := alike_iff.1 h
    subst h2; subst h3
    obtain ⟨R2, C2, e1, e2, _, _, h4⟩ := formB_iff.1 h1
    obtain rfl : R = R2 := by omega
    obtain rfl : C = C2 := by omega
    exact fmat_Add hq hR hC hxl h4
  | false => exact fmat_Add_bad h
theorem fmat_MulAll {q R C : Nat} {r2 c2 : Int} {xs ys : List Nat} (hq : q < 4294967296) (hR : R ≤ 64) (hC : C ≤ 64) (hxl : xs.length = R * C) : Ctr Try.prog 35 [Flat [isU q], isMW R C xs, isMW r2 c2 ys]
    (isTup [isMW (if (formB r2 c2 ys.length && decide ((C : Int) = r2)) = true then R else 0) (if (formB r2 c2 ys.length && decide ((C : Int) = r2)) = true then c2 else 0) (if (formB r2 c2 ys.length && decide ((C : Int) = r2)) = true then tabU (R * c2.toNat) c2.toNat fun i k => dotN (fun j => xs.getD (i * C + j) 0) (fun j => ys.getD (j * c2.toNat + k) 0) C % fp q % fp q else []), isI (if (formB r2 c2 ys.length && decide ((C : Int) = r2)) = true then 0 else 2)]) := by
  cases h : (formB r2 c2 ys.length && decide ((C : Int) = r2)) with
  | true =>
    rw [Bool.and_eq_true, decide_eq_true_eq] at h
    obtain ⟨h1, h2⟩ := h
    subst h2
    obtain ⟨C2, D, e1, rfl, _, hD, h4⟩ := formB_iff.1 h1
    obtain rfl : C = C2 := by omega
    exact fmat_Mul hq hR hC hD hxl h4
  | false => exact fmat_Mul_bad fun ⟨_, h1, h2⟩ => by rw [h1, decide_eq_true h2] at h; cases h
set_option maxHeartbeats 4000000 in
theorem c_FmatReckons_ok (n R C : Nat) (xs : List Nat) (r2 c2 : Int) (ys : List Nat) (hR : R ≤ 64) (hC : C ≤ 64) (hl : xs.length = R * C) : Ctr Try.prog 7 [isK .u8 (n : Int), isMW R C xs, isMW r2 c2 ys] (isB true) := by
  refine Ctr.intro Try.func7 rfl (by kernel_rfl) Try.ntmps7 rfl fun w0 F0 => ?_
  refine Tri.cv (Cv.wk (.cons (t := 0) (Has.t rfl) (.cons (t := 1) (Has.t rfl) (.cons (t := 2) (Has.t rfl) .nil)))) ?_
  obtain ⟨p, hp⟩ : ∃ p, p = ptab (n % 12) := ⟨_, rfl⟩
  have hpp : Prime p := by rw [hp]; exact ptab_prime
  have hfp : fp p = p := by rw [hp]; exact ptab_fp _
  have hpl : p < 2147483648 := by rw [hp]; exact ptab_le
  have hp2 : 2 ≤ p := hpp.1
  have hp0 : 0 < p := (by omega)
  have hpq : p < 4294967296 := (by omega)
  have hfp2 : 2 ≤ fp p := by rw [hfp]; exact hp2
  have hfo := formB_true hR hC hl
  have hRC := side_le hR hC
  have hCR := side_le hC hR
  obtain ⟨same, hsame⟩ : ∃ same, same = alikeB R C xs.length r2 c2 ys.length := ⟨_, rfl⟩
  obtain ⟨may, hmay⟩ : ∃ may, may = (formB r2 c2 ys.length && decide ((C : Int) = r2)) := ⟨_, rfl⟩
  obtain ⟨AL, hAL⟩ : ∃ AL, AL = (if same = true then tabU (R * C) C fun i k => (xs.getD (i * C + k) 0 % p + ys.getD (i * C + k) 0 % p) % p % p else []) := ⟨_, rfl⟩
  obtain ⟨QL, hQL⟩ : ∃ QL, QL = (if may = true then tabU (R * c2.toNat) c2.toNat fun i k => dotN (fun j => xs.getD (i * C + j) 0) (fun j => ys.getD (j * c2.toNat + k) 0) C % p % p else []) := ⟨_, rfl⟩
  obtain ⟨SL, hSL⟩ : ∃ SL, SL = tabU (R * C) C fun i k => xs.getD (i * C + k) 0 * 3 % p % p := ⟨_, rfl⟩
  obtain ⟨TL, hTL⟩ : ∃ TL, TL = tabU (C * R) R fun i k => xs.getD (k * C + i) 0 % p := ⟨_, rfl⟩
  obtain ⟨XL, hXL⟩ : ∃ XL, XL = tabU (R * C) C fun i k => xs.getD (i * C + k) 0 % p := ⟨_, rfl⟩
  obtain ⟨sb, hsb⟩ : ∃ sb, sb = (alikeB R C xs.length r2 c2 ys.length && eqf (fun x y => decide (x % p = y % p)) xs ys) := ⟨_, rfl⟩
  have hsb2 : (formB r2 c2 ys.length && sameW p (R : Int) (C : Int) xs r2 c2 ys) = sb := by rw [hsb]; exact (same_both hfo).symm
  have hsm : same = true → r2 = (R : Int) ∧ c2 = (C : Int) ∧ ys.length = R * C := fun h => by
    rw [hsame] at h
    obtain ⟨_, h1, h2, h3⟩ := alike_iff.1 h
    obtain ⟨R2, C2, e1, e2, _, _, h4⟩ := formB_iff.1 h1
    refine ⟨h2.symm, h3.symm, ?_⟩
    obtain rfl : R = R2 := by omega
    obtain rfl : C = C2 := by omega
    exact h4
  have hmy : may = true → r2 = (C : Int) ∧ c2 = (c2.toNat : Int) ∧ c2.toNat ≤ 64 ∧ ys.length = C * c2.toNat := fun h => by
    rw [hmay, Bool.and_eq_true, decide_eq_true_eq] at h
    obtain ⟨h1, h2⟩ := h
    obtain ⟨C2, D, e1, rfl, _, hD, h4⟩ := formB_iff.1 h1
    obtain rfl : C = C2 := by omega
    exact ⟨e1, rfl, hD, h4⟩
  have hSLl : SL.length = R * C := by rw [hSL]; exact tabU_len _ _ _
  have hTLl : TL.length = C * R := by rw [hTL]; exact tabU_len _ _ _
  have hXLl : XL.length = R * C := by rw [hXL]; exact tabU_len _ _ _
  have hSLp : ∀ j, j < SL.length → SL.getD j 0 < p := by rw [hSL]; exact fun j hj => tabP hp0 hj
  have hTLp : ∀ j, j < TL.length → TL.getD j 0 < p := by rw [hTL]; exact fun j hj => tabP hp0 hj
  have hXLp : ∀ j, j < XL.length → XL.getD j 0 < p := by rw [hXL]; exact fun j hj => tabP hp0 hj
  have hfT := formB_true hC hR hTLl
  have hfS := formB_true hR hC hSLl
  have hfX := formB_true hR hC hXLl
  have hsS : sameW p (R : Int) (C : Int) SL (R : Int) (C : Int) (byL p xs xs.length) = true := sameW_of hSLl (by rw [byL_len]; exact hl) fun i k hi hk => by
    have := place_lt hi hk
    rw [hSL, tabU_place _ hk this, byL_at (by omega), Nat.mod_mod]
  have hsT : sameW p (C : Int) (R : Int) TL (C : Int) (R : Int) (tabU (C * R) R fun i k => xs.getD (k * C + i) 0) = true := sameW_of hTLl (tabU_len _ _ _) fun i k hi hk => by
    have := place_lt hi hk
    rw [hTL, tabU_place _ hk this, tabU_place _ hk this, Nat.mod_mod]
  have hsX : sameW p (R : Int) (C : Int) XL (R : Int) (C : Int) xs = true := sameW_of hXLl hl fun i k hi hk => by
    have := place_lt hi hk
    rw [hXL, tabU_place _ hk this, Nat.mod_mod]
  have hAs : same = true → AL.length = R * C ∧ (∀ j, j < AL.length → AL.getD j 0 < p) ∧ sameW p (R : Int) (C : Int) AL (R : Int) (C : Int) (sumL p same xs ys xs.length) = true := fun h => by
    rw [if_pos h] at hAL
    have e : AL.length = R * C := by rw [hAL]; exact tabU_len _ _ _
    refine ⟨e, by rw [hAL]; exact fun j hj => tabP hp0 hj, sameW_of e (by rw [sumL_full h]; exact hl) fun i k hi hk => ?_⟩
    have := place_lt hi hk
    rw [hAL, tabU_place _ hk this, sumL_at h (by omega), Nat.mod_mod]
  have hQs : may = true → QL.length = R * c2.toNat ∧ (∀ j, j < QL.length → QL.getD j 0 < p) ∧ QL = tabU (R * c2.toNat) c2.toNat fun i k => dotN (fun j => xs.getD (i * C + j) 0) (fun j => ys.getD (j * c2.toNat + k) 0) C % p := fun h => by
    rw [if_pos h] at hQL
    refine ⟨by rw [hQL]; exact tabU_len _ _ _, by rw [hQL]; exact fun j hj => tabP hp0 hj, by rw [hQL]; exact mulT⟩
  refine Tri.fact (Has.okX (Has.t (t := 1) rfl)) fun okx => ?_
  refine Tri.fact (Has.okX (Has.t (t := 2) rfl)) fun oky => ?_
  refine Tri.seq fun K1 hK1 => ?_
  refine Tri.region ?_
  refine Ops.box (Has.t rfl) rfl fun b1 => ?_
  refine Ops.box (Has.t rfl) rfl fun b2 => ?_
  refine st (OK1.as (Has.cB false)) rfl ?_
  refine nl ?_
  refine At.thn (hK1 _ _ ?_); clear hK1
  refine Tri.seq fun K2 hK2 => ?_
  refine Tri.seq fun K3 hK3 => ?_
  refine Tri.region ?_
  refine st (OK1.call (law21_awake) .nil) rfl ?_
  refine st (OK1.not (Has.t rfl)) rfl ?_
  refine st (OK1.mv (Has.t rfl)) rfl ?_
  refine stF rfl rfl (fun hg => have hg' := BP.t hg; OK1.load (Has.t rfl) (i := 1) rfl ty24 rfl (Ss' := [_, _, _]) rfl) rfl ?_
  refine stF rfl rfl (fun hg => have hg' := BP.t hg; OK1.call (ref21_Few) (.cons (Has.g rfl hg) (.cons (Has.cI 4 rfl) .nil))) rfl ?_
  refine stF rfl rfl (fun hg => have hg' := BP.t hg; OK1.not (Has.g rfl hg)) rfl ?_
  refine st (OK1.pickOr (Has.t rfl) (fun h => Has.g rfl (ng h))) rfl ?_
  refine st (OK1.mv (Has.t rfl)) rfl ?_
  refine stF rfl rfl (fun hg => have hg' := BP.t hg; OK1.load (Has.t rfl) (i := 0) rfl ty24 rfl (Ss' := [_, _, _]) rfl) rfl ?_
  refine stF rfl rfl (fun hg => have hg' := BP.t hg; OK1.call (ref21_Few) (.cons (Has.g rfl hg) (.cons (Has.cI 4 rfl) .nil))) rfl ?_
  refine stF rfl rfl (fun hg => have hg' := BP.t hg; OK1.not (Has.g rfl hg)) rfl ?_
  refine st (OK1.pickOr (Has.t rfl) (fun h => Has.g rfl (ng h))) rfl ?_
  refine nl ?_
  refine At.thn (hK3 _ _ ?_); clear hK3
  refine Tri.cv (Cv.wk (.cons (t := 0) (Has.t rfl) (.cons (t := 4) (Has.t rfl) (.cons (t := 5) (Has.t rfl) (.cons (t := 6) (Has.t rfl) (.cons (t := 35) (Has.t rfl) .nil)))))) ?_
  refine Tri.cond (Has.t rfl) (fun hc1 => ?_) (fun hc1 => ?_)
  · have hc1 := BP.t hc1
    refine Tri.seq fun K4 hK4 => ?_
    refine Tri.region ?_
    refine st (OK1.call (law21_awake) .nil) rfl ?_
    refine st (OK1.as (Has.t rfl)) rfl ?_
    refine nl ?_
    refine At.thn (hK4 _ _ ?_); clear hK4
    refine Tri.ret ?_
    refine At.thr ?_
    refine rt1 (.inl rfl) Try.results7 rfl (.tmp (Has.t' rfl ?_) .nil)
    all_goals (rfl)
  · have hc1 := BP.f hc1
    refine Tri.skip ?_
    refine At.thn (hK2 _ _ ?_); clear hK2
    refine Tri.seq fun K5 hK5 => ?_
    refine Tri.region ?_
    refine st (OK1.mv (Has.t rfl)) rfl ?_
    refine st (OK1.eq (OK1.call (law09_Of) (.cons (Has.t rfl) .nil)) ((show Flat [isU _] = Flat [isU p] from by rw [hp]))) rfl ?_
    refine st (OK1.mv (Has.t rfl)) rfl ?_
    refine st (OK1.eq (OK1.call (ref08_P) (.cons (Has.t rfl) .nil)) ((show isU _ = isU p from isU_eq hp.symm))) rfl ?_
    refine Ops.alloc [isU 0] zero29 (fun _ _ => ⟨⟨rfl, by decide⟩, trivial⟩) rfl fun b3 => ?_
    refine Ops.store (Has.t rfl) (Has.t rfl) (i := 0) rfl ty29 rfl rfl (Ss' := [_]) rfl (M' := [(some _, cellM [_]), _, _]) rfl ?_
    refine st (OK1.as (Has.t rfl)) rfl ?_
    refine nl ?_
    refine At.thn (hK5 _ _ ?_); clear hK5
    refine Tri.cv (Cv.wk (.cons (t := 4) (Has.t rfl) (.cons (t := 5) (Has.t rfl) (.cons (t := 6) (Has.t rfl) (.cons (t := 7) (Has.t rfl) (.cons (t := 8) (Has.t rfl) .nil)))))) ?_
    refine Tri.seq fun K6 hK6 => ?_
    refine Tri.region ?_
    refine st (OK1.load (Has.t rfl) (i := 0) rfl ty29 rfl (Ss' := [_]) rfl) rfl ?_
    refine st (OK1.load (Has.t rfl) (i := 2) rfl ty24 rfl (Ss' := [_, _, _]) rfl) rfl ?_
    refine st (OK1.load (Has.t rfl) (i := 1) rfl ty24 rfl (Ss' := [_, _, _]) rfl) rfl ?_
    refine st (OK1.eq (OK1.call (fmat_AddAll hpq hR hC hl) (.cons (Has.t rfl) (.cons (Has.t rfl) (.cons (Has.t rfl) .nil)))) ((show isTup [isMW _ _ _, isI _] = isTup [isMW (if same = true then (R : Int) else 0) (if same = true then (C : Int) else 0) AL, isI (if same = true then 0 else 2)] from by rw [hfp, ← hsame, ← hAL]))) rfl ?_
    refine st (OK1.mv (Has.t rfl)) rfl ?_
    refine st (OK1.ext (Has.t rfl) rfl) rfl ?_
    refine st (OK1.ext (Has.t rfl) rfl) rfl ?_
    refine Ops.alloc [isI 0, isI 0, SlM isU []] zero24 (fun _ _ => ⟨⟨rfl, by decide, by decide⟩, ⟨rfl, by decide, by decide⟩, nilM _ _, trivial⟩) rfl fun b4 => ?_
    refine Ops.store (Has.t rfl) (Has.t rfl) (i := 0) rfl ty24 rfl rfl (Ss' := [_, _, _]) rfl (M' := [(some _, cellM [_, _, _]), _, _, _]) rfl ?_
    refine st (OK1.as (Has.t rfl)) rfl ?_
    refine nl ?_
    refine At.thn (hK6 _ _ ?_); clear hK6
    refine Tri.cv (Cv.wk (.cons (t := 4) (Has.t rfl) (.cons (t := 5) (Has.t rfl) (.cons (t := 6) (Has.t rfl) (.cons (t := 7) (Has.t rfl) (.cons (t := 8) (Has.t rfl) (.cons (t := 9) (Has.t rfl) (.cons (t := 10) (Has.t rfl) .nil)))))))) ?_
    refine Tri.seq fun K7 hK7 => ?_
    refine Tri.region ?_
    refine st (OK1.load (Has.t rfl) (i := 1) rfl ty29 rfl (Ss' := [_]) rfl) rfl ?_
    refine st (OK1.load (Has.t rfl) (i := 3) rfl ty24 rfl (Ss' := [_, _, _]) rfl) rfl ?_
    refine st (OK1.eq (OK1.call (fmat_Scale (c := 3) hpq hR hC hl) (.cons (Has.t rfl) (.cons (Has.t rfl) (.cons (Has.cU 3 rfl) .nil)))) ((show isTup [isMW _ _ _, isI 0] = isTup [isMW R C SL, isI 0] from by rw [hfp, ← hSL]))) rfl ?_
    refine st (OK1.mv (Has.t rfl)) rfl ?_
    refine st (OK1.ext (Has.t rfl) rfl) rfl ?_
    refine st (OK1.ext (Has.t rfl) rfl) rfl ?_
    refine Ops.alloc [isI 0, isI 0, SlM isU []] zero24 (fun _ _ => ⟨⟨rfl, by decide, by decide⟩, ⟨rfl, by decide, by decide⟩, nilM _ _, trivial⟩) rfl fun b5 => ?_
    refine Ops.store (Has.t rfl) (Has.t rfl) (i := 0) rfl ty24 rfl rfl (Ss' := [_, _, _]) rfl (M' := [(some _, cellM [_, _, _]), _, _, _, _]) rfl ?_
    refine st (OK1.as (Has.t rfl)) rfl ?_
    refine nl ?_
    refine At.thn (hK7 _ _ ?_); clear hK7
    refine Tri.cv (Cv.wk (.cons (t := 4) (Has.t rfl) (.cons (t := 5) (Has.t rfl) (.cons (t := 6) (Has.t rfl) (.cons (t := 7) (Has.t rfl) (.cons (t := 8) (Has.t rfl) (.cons (t := 9) (Has.t rfl) (.cons (t := 10) (Has.t rfl) (.cons (t := 11) (Has.t rfl) (.cons (t := 12) (Has.t rfl) .nil)))))))))) ?_
    refine Tri.seq fun K8 hK8 => ?_
    refine Tri.region ?_
    refine st (OK1.load (Has.t rfl) (i := 2) rfl ty29 rfl (Ss' := [_]) rfl) rfl ?_
    refine st (OK1.load (Has.t rfl) (i := 4) rfl ty24 rfl (Ss' := [_, _, _]) rfl) rfl ?_
    refine st (OK1.load (Has.t rfl) (i := 3) rfl ty24 rfl (Ss' := [_, _, _]) rfl) rfl ?_
    refine st (OK1.eq (OK1.call (fmat_MulAll hpq hR hC hl) (.cons (Has.t rfl) (.cons (Has.t rfl) (.cons (Has.t rfl) .nil)))) ((show isTup [isMW _ _ _, isI _] = isTup [isMW (if may = true then (R : Int) else 0) (if may = true then c2 else 0) QL, isI (if may = true then 0 else 2)] from by rw [hfp, ← hmay, ← hQL]))) rfl ?_
    refine st (OK1.mv (Has.t rfl)) rfl ?_
    refine st (OK1.ext (Has.t rfl) rfl) rfl ?_
    refine st (OK1.ext (Has.t rfl) rfl) rfl ?_
    refine Ops.alloc [isI 0, isI 0, SlM isU []] zero24 (fun _ _ => ⟨⟨rfl, by decide, by decide⟩, ⟨rfl, by decide, by decide⟩, nilM _ _, trivial⟩) rfl fun b6 => ?_
    refine Ops.store (Has.t rfl) (Has.t rfl) (i := 0) rfl ty24 rfl rfl (Ss' := [_, _, _]) rfl (M' := [(some _, cellM [_, _, _]), _, _, _, _, _]) rfl ?_
    refine st (OK1.as (Has.t rfl)) rfl ?_
    refine nl ?_
    refine At.thn (hK8 _ _ ?_); clear hK8
    refine Tri.cv (Cv.wk (.cons (t := 4) (Has.t rfl) (.cons (t := 5) (Has.t rfl) (.cons (t := 6) (Has.t rfl) (.cons (t := 7) (Has.t rfl) (.cons (t := 8) (Has.t rfl) (.cons (t := 9) (Has.t rfl) (.cons (t := 10) (Has.t rfl) (.cons (t := 11) (Has.t rfl) (.cons (t := 12) (Has.t rfl) (.cons (t := 13) (Has.t rfl) (.cons (t := 14) (Has.t rfl) .nil)))))))))))) ?_
    refine Tri.seq fun K9 hK9 => ?_
    refine Tri.region ?_
    refine st (OK1.load (Has.t rfl) (i := 3) rfl ty29 rfl (Ss' := [_]) rfl) rfl ?_
    refine st (OK1.load (Has.t rfl) (i := 5) rfl ty24 rfl (Ss' := [_, _, _]) rfl) rfl ?_
    refine st (OK1.eq (OK1.call (fmat_Transpose (q := p) hR hC hl) (.cons (Has.t rfl) (.cons (Has.t rfl) .nil))) ((show isTup [isMW _ _ _, isI 0] = isTup [isMW C R TL, isI 0] from by rw [hfp, ← hTL]))) rfl ?_
    refine st (OK1.mv (Has.t rfl)) rfl ?_
    refine st (OK1.ext (Has.t rfl) rfl) rfl ?_
    refine st (OK1.ext (Has.t rfl) rfl) rfl ?_
    refine Ops.alloc [isI 0, isI 0, SlM isU []] zero24 (fun _ _ => ⟨⟨rfl, by decide, by decide⟩, ⟨rfl, by decide, by decide⟩, nilM _ _, trivial⟩) rfl fun b7 => ?_
    refine Ops.store (Has.t rfl) (Has.t rfl) (i := 0) rfl ty24 rfl rfl (Ss' := [_, _, _]) rfl (M' := [(some _, cellM [_, _, _]), _, _, _, _, _, _]) rfl ?_
    refine st (OK1.as (Has.t rfl)) rfl ?_
    refine nl ?_
    refine At.thn (hK9 _ _ ?_); clear hK9
    refine Tri.cv (Cv.wk (.cons (t := 4) (Has.t rfl) (.cons (t := 5) (Has.t rfl) (.cons (t := 6) (Has.t rfl) (.cons (t := 7) (Has.t rfl) (.cons (t := 8) (Has.t rfl) (.cons (t := 9) (Has.t rfl) (.cons (t := 10) (Has.t rfl) (.cons (t := 11) (Has.t rfl) (.cons (t := 12) (Has.t rfl) (.cons (t := 13) (Has.t rfl) (.cons (t := 14) (Has.t rfl) (.cons (t := 15) (Has.t rfl) (.cons (t := 16) (Has.t rfl) .nil)))))))))))))) ?_
    refine Tri.seq fun K10 hK10 => ?_
    refine Tri.region ?_
    refine st (OK1.load (Has.t rfl) (i := 4) rfl ty29 rfl (Ss' := [_]) rfl) rfl ?_
    refine st (OK1.load (Has.t rfl) (i := 6) rfl ty24 rfl (Ss' := [_, _, _]) rfl) rfl ?_
    refine st (OK1.eq (OK1.call (fmat_Norm (q := p) hR hC hl) (.cons (Has.t rfl) (.cons (Has.t rfl) .nil))) ((show isTup [isMW _ _ _, isI 0] = isTup [isMW R C XL, isI 0] from by rw [hfp, ← hXL]))) rfl ?_
    refine st (OK1.mv (Has.t rfl)) rfl ?_
    refine st (OK1.ext (Has.t rfl) rfl) rfl ?_
    refine st (OK1.ext (Has.t rfl) rfl) rfl ?_
    refine Ops.alloc [isI 0, isI 0, SlM isU []] zero24 (fun _ _ => ⟨⟨rfl, by decide, by decide⟩, ⟨rfl, by decide, by decide⟩, nilM _ _, trivial⟩) rfl fun b8 => ?_
    refine Ops.store (Has.t rfl) (Has.t rfl) (i := 0) rfl ty24 rfl rfl (Ss' := [_, _, _]) rfl (M' := [(some _, cellM [_, _, _]), _, _, _, _, _, _, _]) rfl ?_
    refine st (OK1.as (Has.t rfl)) rfl ?_
    refine nl ?_
    refine At.thn (hK10 _ _ ?_); clear hK10
    refine Tri.cv (Cv.wk (.cons (t := 4) (Has.t rfl) (.cons (t := 5) (Has.t rfl) (.cons (t := 6) (Has.t rfl) (.cons (t := 7) (Has.t rfl) (.cons (t := 8) (Has.t rfl) (.cons (t := 9) (Has.t rfl) (.cons (t := 10) (Has.t rfl) (.cons (t := 11) (Has.t rfl) (.cons (t := 12) (Has.t rfl) (.cons (t := 13) (Has.t rfl) (.cons (t := 14) (Has.t rfl) (.cons (t := 15) (Has.t rfl) (.cons (t := 16) (Has.t rfl) (.cons (t := 17) (Has.t rfl) (.cons (t := 18) (Has.t rfl) .nil)))))))))))))))) ?_
    refine Tri.seq fun K11 hK11 => ?_
    refine Tri.seq fun K12 hK12 => ?_
    refine Tri.region ?_
    refine st (OK1.load (Has.t rfl) (i := 7) rfl ty24 rfl (Ss' := [_, _, _]) rfl) rfl ?_
    refine st (OK1.eq (OK1.call (ref21_Formed) (.cons (Has.t rfl) .nil)) ((show isB _ = isB true from isB_eq hfo))) rfl ?_
    refine st (OK1.not (Has.t rfl)) rfl ?_
    refine nl ?_
    refine At.thn (hK12 _ _ ?_); clear hK12
    refine Tri.cond (Has.t rfl) (fun hc2 => ?_) (fun hc2 => ?_)
    · have hc2 := BP.t hc2
      exfalso; simp at hc2
    · have hc2 := BP.f hc2
      refine Tri.skip ?_
      refine At.thn (hK11 _ _ ?_); clear hK11
      refine Tri.seq fun K13 hK13 => ?_
      refine Tri.region ?_
      refine Ops.cv (Cv.grow0 (α := Nat) isU) ?_
      refine st (OK1.as (Has.cGr (α := Nat))) rfl ?_
      refine Ops.cv (Cv.grow0 (α := Nat) isU) ?_
      refine st (OK1.as (Has.cGr (α := Nat))) rfl ?_
      refine nl ?_
      refine At.thn (hK13 _ _ ?_); clear hK13
      refine Tri.seq fun K14 hK14 => ?_
      refine Tri.region ?_
      refine st (OK1.load (Has.t rfl) (i := 8) rfl ty24 rfl (Ss' := [_, _, _]) rfl) rfl ?_
      refine st (OK1.call (ref21_Formed) (.cons (Has.t rfl) .nil)) rfl ?_
      refine st (OK1.mv (Has.t rfl)) rfl ?_
      refine stT rfl rfl (fun hg => have hg' := BP.t hg; OK1.fieldAddr (Has.t rfl) fld24_0 ty3) rfl ?_
      refine stT rfl rfl (fun hg => have hg' := BP.t hg; OK1.load1 (Has.g rfl hg) (i := 9) rfl ty3 rfl) rfl ?_
      refine stT rfl rfl (fun hg => have hg' := BP.t hg; OK1.fieldAddr (Has.t rfl) fld24_0 ty3) rfl ?_
      refine stT rfl rfl (fun hg => have hg' := BP.t hg; OK1.load1 (Has.g rfl hg) (i := 8) rfl ty3 rfl) rfl ?_
      refine stT rfl rfl (fun hg => have hg' := BP.t hg; OK1.eqI (Has.g rfl hg) (Has.g rfl hg)) rfl ?_
      refine st (OK1.pickAnd (Has.t rfl) (fun h => Has.g rfl h)) rfl ?_
      refine st (OK1.mv (Has.t rfl)) rfl ?_
      refine stT rfl rfl (fun hg => have hg' := BP.t hg; OK1.fieldAddr (Has.t rfl) fld24_1 ty3) rfl ?_
      refine stT rfl rfl (fun hg => have hg' := BP.t hg; OK1.load1 (Has.g rfl hg) (i := 9) rfl ty3 rfl) rfl ?_
      refine stT rfl rfl (fun hg => have hg' := BP.t hg; OK1.fieldAddr (Has.t rfl) fld24_1 ty3) rfl ?_
      refine stT rfl rfl (fun hg => have hg' := BP.t hg; OK1.load1 (Has.g rfl hg) (i := 8) rfl ty3 rfl) rfl ?_
      refine stT rfl rfl (fun hg => have hg' := BP.t hg; OK1.eqI (Has.g rfl hg) (Has.g rfl hg)) rfl ?_
      refine st (OK1.eq (OK1.pickAnd (Has.t rfl) (fun h => Has.g rfl h)) ((show isB _ = isB same from isB_eq (by rw [hsame]; unfold alikeB; rw [hfo]; rfl)))) rfl ?_
      refine st (OK1.as (Has.t rfl)) rfl ?_
      refine nl ?_
      refine At.thn (hK14 _ _ ?_); clear hK14
      refine Tri.cv (Cv.wk (.cons (t := 4) (Has.t rfl) (.cons (t := 5) (Has.t rfl) (.cons (t := 6) (Has.t rfl) (.cons (t := 7) (Has.t rfl) (.cons (t := 8) (Has.t rfl) (.cons (t := 9) (Has.t rfl) (.cons (t := 10) (Has.t rfl) (.cons (t := 11) (Has.t rfl) (.cons (t := 12) (Has.t rfl) (.cons (t := 13) (Has.t rfl) (.cons (t := 14) (Has.t rfl) (.cons (t := 15) (Has.t rfl) (.cons (t := 16) (Has.t rfl) (.cons (t := 17) (Has.t rfl) (.cons (t := 18) (Has.t rfl) (.cons (t := 19) (Has.t rfl) (.cons (t := 20) (Has.t rfl) (.cons (t := 21) (Has.t rfl) .nil))))))))))))))))))) ?_
      refine Tri.seq fun K15 hK15 => ?_
      refine Tri.seq fun K16 hK16 => ?_
      refine Tri.region ?_
      refine st (OK1.as (Has.cI 0 rfl)) rfl ?_
      refine nl ?_
      refine At.thn (hK16 _ _ ?_); clear hK16
      refine Tri.block ?_
      refine Tri.loopF [4, 5, 6, 7, 8, 9, 10, 11, 12, 13, 14, 15, 16, 17, 18, 21] (fun (z : { z : Nat × Gr Nat × Gr Nat // z.1 ≤ xs.length }) => match z with | ⟨(k, g1, g2), hI⟩ => [(22, isI (k : Int)), (20, isGr g1 (byL p xs k).length), (19, isGr g2 (sumL p same xs ys k).length)]) (fun M => fun (z : { z : Nat × Gr Nat × Gr Nat // z.1 ≤ xs.length }) => match z with | ⟨(k, g1, g2), hI⟩ => [grM isU g1 (byL p xs k), grM isU g2 (sumL p same xs ys k), (some b8, cellM [isI (R : Int), isI (C : Int), SlM isU XL]), (some b7, cellM [isI (C : Int), isI (R : Int), SlM isU TL]), (some b6, cellM [isI (if may = true then (R : Int) else 0), isI (if may = true then c2 else 0), SlM isU QL]), (some b5, cellM [isI (R : Int), isI (C : Int), SlM isU SL]), (some b4, cellM [isI (if same = true then (R : Int) else 0), isI (if same = true then (C : Int) else 0), SlM isU AL]), (some b3, cellM [isU p]), (some b2, cellM [isI r2, isI c2, SlM isU ys]), (some b1, cellM [isI (R : Int), isI (C : Int), SlM isU xs])]) (fun (z : { z : Nat × Gr Nat × Gr Nat // z.1 ≤ xs.length }) => match z with | ⟨(k, g1, g2), hI⟩ => xs.length - k) (⟨(0, Gr.nil, Gr.nil), Nat.zero_le _⟩) (Cv.mem (.cons (t := 22) (Has.t' rfl ?_) (.cons (t := 20) (Has.t' rfl ?_) (.cons (t := 19) (Has.t' rfl ?_) (.cons (t := 4) (Has.t rfl) (.cons (t := 5) (Has.t rfl) (.cons (t := 6) (Has.t rfl) (.cons (t := 7) (Has.t rfl) (.cons (t := 8) (Has.t rfl) (.cons (t := 9) (Has.t rfl) (.cons (t := 10) (Has.t rfl) (.cons (t := 11) (Has.t rfl) (.cons (t := 12) (Has.t rfl) (.cons (t := 13) (Has.t rfl) (.cons (t := 14) (Has.t rfl) (.cons (t := 15) (Has.t rfl) (.cons (t := 16) (Has.t rfl) (.cons (t := 17) (Has.t rfl) (.cons (t := 18) (Has.t rfl) (.cons (t := 21) (Has.t rfl) .nil))))))))))))))))))) ?_) ?_
      · rfl
      · rfl
      · exact isGr_eq (by unfold sumL; split <;> rfl)
      · exact gr2_eq rfl (by unfold sumL; split <;> rfl)
      rintro ⟨⟨k, g1, g2⟩, hI⟩ K17 hK17
      refine Tri.cv (Cv.wk (.cons (t := 22) (Has.t rfl) (.cons (t := 20) (Has.t rfl) (.cons (t := 19) (Has.t rfl) (.cons (t := 4) (Has.t rfl) (.cons (t := 5) (Has.t rfl) (.cons (t := 6) (Has.t rfl) (.cons (t := 7) (Has.t rfl) (.cons (t := 8) (Has.t rfl) (.cons (t := 9) (Has.t rfl) (.cons (t := 10) (Has.t rfl) (.cons (t := 11) (Has.t rfl) (.cons (t := 12) (Has.t rfl) (.cons (t := 13) (Has.t rfl) (.cons (t := 14) (Has.t rfl) (.cons (t := 15) (Has.t rfl) (.cons (t := 16) (Has.t rfl) (.cons (t := 17) (Has.t rfl) (.cons (t := 18) (Has.t rfl) (.cons (t := 21) (Has.t rfl) .nil)))))))))))))))))))) ?_
      refine Tri.memEq (M' := [grM isU g1 (byL p xs k), grM isU g2 (sumL p same xs ys k), (some b8, cellM [isI (R : Int), isI (C : Int), SlM isU XL]), (some b7, cellM [isI (C : Int), isI (R : Int), SlM isU TL]), (some b6, cellM [isI (if may = true then (R : Int) else 0), isI (if may = true then c2 else 0), SlM isU QL]), (some b5, cellM [isI (R : Int), isI (C : Int), SlM isU SL]), (some b4, cellM [isI (if same = true then (R : Int) else 0), isI (if same = true then (C : Int) else 0), SlM isU AL]), (some b3, cellM [isU p]), (some b2, cellM [isI r2, isI c2, SlM isU ys]), (some b1, cellM [isI (R : Int), isI (C : Int), SlM isU xs])]) rfl ?_
      simp only [] at hI
      refine Tri.seq fun K18 hK18 => ?_
      refine Tri.seq fun K19 hK19 => ?_
      refine Tri.region ?_
      refine st (OK1.mv (Has.t rfl)) rfl ?_
      refine st (OK1.fieldAddr (Has.t rfl) fld24_2 ty22) rfl ?_
      refine st (OK1.load1 (Has.t rfl) (i := 9) rfl ty22 rfl) rfl ?_
      refine st (OK1.len sl22 (Has.t rfl)) rfl ?_
      refine st (OK1.ltI (Has.t rfl) (Has.t rfl)) rfl ?_
      refine nl ?_
      refine At.thn (hK19 _ _ ?_); clear hK19
      refine Tri.cond (Has.t rfl) (fun hc3 => ?_) (fun hc3 => ?_)
      · have hc3 := BP.t hc3
        refine Tri.skip ?_
        refine At.thn (hK18 _ _ ?_); clear hK18
        refine Tri.seq fun K20 hK20 => ?_
        refine Tri.block ?_
        refine Tri.seq fun K21 hK21 => ?_
        refine Tri.region ?_
        refine st (OK1.mv (Has.t rfl)) rfl ?_
        refine st (OK1.fieldAddr (Has.t rfl) fld24_2 ty22) rfl ?_
        refine st (OK1.load1 (Has.t rfl) (i := 9) rfl ty22 rfl) rfl ?_
        refine st (OK1.mv (Has.t rfl)) rfl ?_
        refine st (OK1.ixP sl22 ty27 (Has.t rfl) (Has.t rfl) ⟨by omega, by omega⟩ (getD_some (d := 0) (by first | omega | (simp only [Int.toNat_natCast, List.length_set]; omega)))) rfl ?_
        refine st (OK1.eq (OK1.loadP1 (Has.t rfl) ty27) ((show isU _ = isU (xs.getD k 0) from isU_eq rfl))) rfl ?_
        refine st (OK1.mv (Has.t rfl)) rfl ?_
        refine st (OK1.call (ref08_Mul hp0 hpq) (.cons (Has.t rfl) (.cons (Has.cU 3 rfl) (.cons (Has.t rfl) .nil)))) rfl ?_
        refine st (OK1.buildS [isU 0] sl22 ty27 zero27 (fun _ _ => ⟨⟨rfl, by decide⟩, trivial⟩) rfl rfl (.cons (Has.t rfl) rfl rfl rfl .nil) rfl (S := SlM isU [xs.getD k 0 * 3 % p]) rfl) rfl ?_
        refine Ops.appendG (f := isU) (u := 0) sl22 ty27 zero27 (fun _ _ => ⟨⟨rfl, by decide⟩, trivial⟩) (fun _ => inferInstance) by27 (Has.t rfl) (i := 0) rfl (Has.t rfl) (by rw [byL_len]; show k + 1 ≤ _; omega) (by simp) rfl fun gr1 => ?_
        refine Ops.memEq (M' := [grM _ _ _, _, _, _, _, _, _, _, _, _]) rfl ?_
        refine st (OK1.as (Has.t rfl)) rfl ?_
        refine nl ?_
        refine At.thn (hK21 _ _ ?_); clear hK21
        refine Tri.seq fun K22 hK22 => ?_
        refine Tri.region ?_
        refine st (OK1.mv (Has.t rfl)) rfl ?_
        refine nl ?_
        refine At.thn (hK22 _ _ ?_); clear hK22
        refine Tri.cond (Has.t rfl) (fun hc4 => ?_) (fun hc4 => ?_)
        · have hc4 := BP.t hc4
          have hys := hsm hc4
          have hsT2 := hc4
          refine Tri.dr ?_
          refine DrG.st (i := 0) [] rfl rfl rfl (by kernel_rfl) (OKG.o rfl (OK1.mv (Has.t rfl))) ?_
          refine DrG.st (i := 1) [] rfl rfl rfl (by kernel_rfl) (OKG.o rfl (OK1.fieldAddr (Has.t rfl) fld24_2 ty22)) ?_
          refine DrG.st (i := 2) [149] rfl rfl rfl (by kernel_rfl) (OKG.o rfl (OK1.load1 (Has.t rfl) (i := 9) rfl ty22 rfl)) ?_
          refine DrG.st (i := 3) [] rfl rfl rfl (by kernel_rfl) (OKG.o rfl (OK1.mv (Has.t rfl))) ?_
          refine DrG.st (i := 4) [150, 151] rfl rfl rfl (by kernel_rfl) (OKG.o rfl (OK1.ixP sl22 ty27 (Has.t rfl) (Has.t rfl) ⟨by omega, by omega⟩ (getD_some (d := 0) (by first | omega | (simp only [Int.toNat_natCast, List.length_set]; omega))))) ?_
          refine DrG.st (i := 5) [152] rfl rfl rfl (by kernel_rfl) (OKG.o rfl (OK1.eq (OK1.loadP1 (Has.t rfl) ty27) ((show isU _ = isU (xs.getD k 0) from isU_eq rfl)))) ?_
          refine DrG.st (i := 6) [] rfl rfl rfl (by kernel_rfl) (OKG.o rfl (OK1.mv (Has.t rfl))) ?_
          refine DrG.st (i := 7) [153, 154] rfl rfl rfl (by kernel_rfl) (OKG.o rfl (OK1.remU (Has.t rfl) (Has.t rfl) (by first | omega | exact getX okx k | exact getX oky k | (have h1 := Nat.mod_lt (xs.getD k 0) hp0; have h2 := Nat.mod_lt (ys.getD k 0) hp0; omega)) (by first | omega | exact getX okx k | exact getX oky k | (have h1 := Nat.mod_lt (xs.getD k 0) hp0; have h2 := Nat.mod_lt (ys.getD k 0) hp0; omega)))) ?_
          refine DrG.st (i := 8) [] rfl rfl rfl (by kernel_rfl) (OKG.o rfl (OK1.fieldAddr (Has.t rfl) fld24_2 ty22)) ?_
          refine DrG.st (i := 9) [156] rfl rfl rfl (by kernel_rfl) (OKG.o rfl (OK1.load1 (Has.t rfl) (i := 8) rfl ty22 rfl)) ?_
          refine DrG.st (i := 10) [] rfl rfl rfl (by kernel_rfl) (OKG.o rfl (OK1.mv (Has.t rfl))) ?_
          refine DrG.st (i := 11) [157, 158] rfl rfl rfl (by kernel_rfl) (OKG.o rfl (OK1.ixP sl22 ty27 (Has.t rfl) (Has.t rfl) ⟨by omega, by omega⟩ (getD_some (d := 0) (by first | omega | (simp only [Int.toNat_natCast, List.length_set]; omega))))) ?_
          refine DrG.st (i := 12) [159] rfl rfl rfl (by kernel_rfl) (OKG.o rfl (OK1.eq (OK1.loadP1 (Has.t rfl) ty27) ((show isU _ = isU (ys.getD k 0) from isU_eq rfl)))) ?_
          refine DrG.st (i := 13) [] rfl rfl rfl (by kernel_rfl) (OKG.o rfl (OK1.mv (Has.t rfl))) ?_
          refine DrG.st (i := 14) [160, 161] rfl rfl rfl (by kernel_rfl) (OKG.o rfl (OK1.remU (Has.t rfl) (Has.t rfl) (by first | omega | exact getX okx k | exact getX oky k | (have h1 := Nat.mod_lt (xs.getD k 0) hp0; have h2 := Nat.mod_lt (ys.getD k 0) hp0; omega)) (by first | omega | exact getX okx k | exact getX oky k | (have h1 := Nat.mod_lt (xs.getD k 0) hp0; have h2 := Nat.mod_lt (ys.getD k 0) hp0; omega)))) ?_
          refine DrG.st (i := 15) [155, 162] rfl rfl rfl (by kernel_rfl) (OKG.o rfl (OK1.addU' (Has.t rfl) (Has.t rfl) (by first | omega | exact getX okx k | exact getX oky k | (have h1 := Nat.mod_lt (xs.getD k 0) hp0; have h2 := Nat.mod_lt (ys.getD k 0) hp0; omega)))) ?_
          refine DrG.st (i := 16) [] rfl rfl rfl (by kernel_rfl) (OKG.o rfl (OK1.mv (Has.t rfl))) ?_
          refine DrG.st (i := 17) [163, 164] rfl rfl rfl (by kernel_rfl) (OKG.o rfl (OK1.remU (Has.t rfl) (Has.t rfl) (by first | omega | exact getX okx k | exact getX oky k | (have h1 := Nat.mod_lt (xs.getD k 0) hp0; have h2 := Nat.mod_lt (ys.getD k 0) hp0; omega)) (by first | omega | exact getX okx k | exact getX oky k | (have h1 := Nat.mod_lt (xs.getD k 0) hp0; have h2 := Nat.mod_lt (ys.getD k 0) hp0; omega)))) ?_
          refine DrG.st (i := 18) [165] rfl rfl rfl (by kernel_rfl) (OKG.o rfl (OK1.buildS [isU 0] sl22 ty27 zero27 (fun _ _ => ⟨⟨rfl, by decide⟩, trivial⟩) rfl rfl (.cons (Has.t rfl) rfl rfl rfl .nil) rfl (S := SlM isU [(xs.getD k 0 % p + ys.getD k 0 % p) % p]) rfl)) ?_
          refine DrG.fin (n := 19) mixed (by kernel_rfl) (by kernel_rfl) (by kernel_rfl) ?_
          refine Ops.cv (Cv.wk (.cons (t := 4) (Has.t rfl) (.cons (t := 5) (Has.t rfl) (.cons (t := 6) (Has.t rfl) (.cons (t := 7) (Has.t rfl) (.cons (t := 8) (Has.t rfl) (.cons (t := 9) (Has.t rfl) (.cons (t := 10) (Has.t rfl) (.cons (t := 11) (Has.t rfl) (.cons (t := 12) (Has.t rfl) (.cons (t := 13) (Has.t rfl) (.cons (t := 14) (Has.t rfl) (.cons (t := 15) (Has.t rfl) (.cons (t := 16) (Has.t rfl) (.cons (t := 17) (Has.t rfl) (.cons (t := 18) (Has.t rfl) (.cons (t := 21) (Has.t rfl) (.cons (t := 22) (Has.t rfl) (.cons (t := 20) (Has.t rfl) (.cons (t := 19) (Has.t rfl) (.cons (t := 130) (Has.t rfl) (.cons (t := 131) (Has.t rfl) (.cons (t := 132) (Has.t rfl) (.cons (t := 133) (Has.t rfl) (.cons (t := 134) (Has.t rfl) (.cons (t := 137) (Has.t rfl) (.cons (t := 138) (Has.t rfl) (.cons (t := 139) (Has.t rfl) (.cons (t := 140) (Has.t rfl) (.cons (t := 141) (Has.t rfl) (.cons (t := 142) (Has.t rfl) (.cons (t := 143) (Has.t rfl) (.cons (t := 144) (Has.t rfl) (.cons (t := 145) (Has.t rfl) (.cons (t := 146) (Has.t rfl) (.cons (t := 147) (Has.t rfl) (.cons (t := 148) (Has.t rfl) (.cons (t := 149) (Has.t rfl) (.cons (t := 150) (Has.t rfl) (.cons (t := 151) (Has.t rfl) (.cons (t := 152) (Has.t rfl) (.cons (t := 153) (Has.t rfl) (.cons (t := 154) (Has.t rfl) (.cons (t := 155) (Has.t rfl) (.cons (t := 156) (Has.t rfl) (.cons (t := 157) (Has.t rfl) (.cons (t := 158) (Has.t rfl) (.cons (t := 159) (Has.t rfl) (.cons (t := 160) (Has.t rfl) (.cons (t := 161) (Has.t rfl) (.cons (t := 162) (Has.t rfl) (.cons (t := 163) (Has.t rfl) (.cons (t := 164) (Has.t rfl) (.cons (t := 165) (Has.t rfl) (.cons (t := 166) (Has.t rfl) .nil))))))))))))))))))))))))))))))))))))))))))))))))))))))) ?_
          refine Ops.appendG (f := isU) (u := 0) sl22 ty27 zero27 (fun _ _ => ⟨⟨rfl, by decide⟩, trivial⟩) (fun _ => inferInstance) by27 (Has.t rfl) (i := 1) rfl (Has.t rfl) (by have := sumL_len (p := p) (s := same) (xs := xs) (ys := ys) (k := k); show _ + 1 ≤ _; omega) (by simp) rfl fun gr2 => ?_
          refine Ops.memEq (M' := [_, grM _ _ _, _, _, _, _, _, _, _, _]) rfl ?_
          refine st (OK1.as (Has.t rfl)) rfl ?_
          refine nl ?_
          refine At.bln ?_
          refine At.thn (hK20 _ _ ?_); clear hK20
          refine Tri.region ?_
          refine st (OK1.mv (Has.t rfl)) rfl ?_
          refine st (OK1.addI (Has.t rfl) (Has.cI 1 rfl) (by first | omega | assumption) (by first | omega | assumption)) rfl ?_
          refine st (OK1.as (Has.t rfl)) rfl ?_
          refine nl ?_
          refine At.thn ?_
          refine hK17 (⟨(k + 1, gr1, gr2), by show k + 1 ≤ xs.length; omega⟩) _ _ ?_ (Cv.mem (.cons (t := 22) (Has.t' rfl ?_) (.cons (t := 20) (Has.t' rfl ?_) (.cons (t := 19) (Has.t' rfl ?_) (.cons (t := 4) (Has.t rfl) (.cons (t := 5) (Has.t rfl) (.cons (t := 6) (Has.t rfl) (.cons (t := 7) (Has.t rfl) (.cons (t := 8) (Has.t rfl) (.cons (t := 9) (Has.t rfl) (.cons (t := 10) (Has.t rfl) (.cons (t := 11) (Has.t rfl) (.cons (t := 12) (Has.t rfl) (.cons (t := 13) (Has.t rfl) (.cons (t := 14) (Has.t rfl) (.cons (t := 15) (Has.t rfl) (.cons (t := 16) (Has.t rfl) (.cons (t := 17) (Has.t rfl) (.cons (t := 18) (Has.t rfl) (.cons (t := 21) (Has.t rfl) .nil))))))))))))))))))) ?_)
          · show xs.length - (k + 1) < xs.length - k; omega
          · exact isI_eq (by omega)
          · exact isGr_eq (by rw [← byL_succ, List.length_append])
          · exact isGr_eq (by rw [← sumL_succ hsT2, List.length_append])
          · exact gr2_eq (byL_succ _ _ _) (sumL_succ hsT2)
        · have hc4 := BP.f hc4
          have hsF := hc4
          refine Tri.skip ?_
          refine At.bln ?_
          refine At.thn (hK20 _ _ ?_); clear hK20
          refine Tri.region ?_
          refine st (OK1.mv (Has.t rfl)) rfl ?_
          refine st (OK1.addI (Has.t rfl) (Has.cI 1 rfl) (by first | omega | assumption) (by first | omega | assumption)) rfl ?_
          refine st (OK1.as (Has.t rfl)) rfl ?_
          refine nl ?_
          refine At.thn ?_
          refine hK17 (⟨(k + 1, gr1, g2), by show k + 1 ≤ xs.length; omega⟩) _ _ ?_ (Cv.mem (.cons (t := 22) (Has.t' rfl ?_) (.cons (t := 20) (Has.t' rfl ?_) (.cons (t := 19) (Has.t' rfl ?_) (.cons (t := 4) (Has.t rfl) (.cons (t := 5) (Has.t rfl) (.cons (t := 6) (Has.t rfl) (.cons (t := 7) (Has.t rfl) (.cons (t := 8) (Has.t rfl) (.cons (t := 9) (Has.t rfl) (.cons (t := 10) (Has.t rfl) (.cons (t := 11) (Has.t rfl) (.cons (t := 12) (Has.t rfl) (.cons (t := 13) (Has.t rfl) (.cons (t := 14) (Has.t rfl) (.cons (t := 15) (Has.t rfl) (.cons (t := 16) (Has.t rfl) (.cons (t := 17) (Has.t rfl) (.cons (t := 18) (Has.t rfl) (.cons (t := 21) (Has.t rfl) .nil))))))))))))))))))) ?_)
          · show xs.length - (k + 1) < xs.length - k; omega
          · exact isI_eq (by omega)
          · exact isGr_eq (by rw [← byL_succ, List.length_append])
          · exact isGr_eq (by rw [← sumL_none hsF])
          · exact gr2_eq (byL_succ _ _ _) (sumL_none hsF)
      · have hc3 := BP.f hc3
        refine Tri.exit ?_
        refine At.the ?_
        refine At.the ?_
        refine At.blh ?_
        refine At.thn (hK15 _ _ ?_); clear hK15
        refine Tri.cv (Cv.wk (.cons (t := 4) (Has.t rfl) (.cons (t := 5) (Has.t rfl) (.cons (t := 6) (Has.t rfl) (.cons (t := 7) (Has.t rfl) (.cons (t := 8) (Has.t rfl) (.cons (t := 9) (Has.t rfl) (.cons (t := 10) (Has.t rfl) (.cons (t := 11) (Has.t rfl) (.cons (t := 12) (Has.t rfl) (.cons (t := 13) (Has.t rfl) (.cons (t := 14) (Has.t rfl) (.cons (t := 15) (Has.t rfl) (.cons (t := 16) (Has.t rfl) (.cons (t := 17) (Has.t rfl) (.cons (t := 18) (Has.t rfl) (.cons (t := 21) (Has.t rfl) (.cons (t := 20) (Has.t rfl) (.cons (t := 19) (Has.t rfl) .nil))))))))))))))))))) ?_
        refine Tri.seq fun K23 hK23 => ?_
        refine Tri.seq fun K24 hK24 => ?_
        refine Tri.cv (Cv.freezeG (t := 20) (i := 0) (ys := byL p xs k) rfl rfl rfl) ?_
        refine Tri.memEq (M' := [_, _, _, _, _, _, _, _, _]) rfl ?_
        refine Tri.cv (Cv.wk (.cons (t := 4) (Has.t rfl) (.cons (t := 5) (Has.t rfl) (.cons (t := 6) (Has.t rfl) (.cons (t := 7) (Has.t rfl) (.cons (t := 8) (Has.t rfl) (.cons (t := 9) (Has.t rfl) (.cons (t := 10) (Has.t rfl) (.cons (t := 11) (Has.t rfl) (.cons (t := 12) (Has.t rfl) (.cons (t := 13) (Has.t rfl) (.cons (t := 14) (Has.t rfl) (.cons (t := 15) (Has.t rfl) (.cons (t := 16) (Has.t rfl) (.cons (t := 17) (Has.t rfl) (.cons (t := 18) (Has.t rfl) (.cons (t := 21) (Has.t rfl) (.cons (t := 20) (Has.t rfl) (.cons (t := 19) (Has.t rfl) .nil))))))))))))))))))) ?_
        refine Tri.cv (Cv.freezeG (t := 19) (i := 0) (ys := sumL p same xs ys k) rfl rfl rfl) ?_
        refine Tri.memEq (M' := [_, _, _, _, _, _, _, _]) rfl ?_
        refine Tri.cv (Cv.wk (.cons (t := 4) (Has.t rfl) (.cons (t := 5) (Has.t rfl) (.cons (t := 6) (Has.t rfl) (.cons (t := 7) (Has.t rfl) (.cons (t := 8) (Has.t rfl) (.cons (t := 9) (Has.t rfl) (.cons (t := 10) (Has.t rfl) (.cons (t := 11) (Has.t rfl) (.cons (t := 12) (Has.t rfl) (.cons (t := 13) (Has.t rfl) (.cons (t := 14) (Has.t rfl) (.cons (t := 15) (Has.t rfl) (.cons (t := 16) (Has.t rfl) (.cons (t := 17) (Has.t rfl) (.cons (t := 18) (Has.t rfl) (.cons (t := 21) (Has.t rfl) (.cons (t := 20) (Has.t rfl) (.cons (t := 19) (Has.t rfl) .nil))))))))))))))))))) ?_
        refine Tri.dr ?_
        refine DrG.st (i := 0) [] rfl rfl rfl (by kernel_rfl) (OKG.o rfl (OK1.mv (Has.t rfl))) ?_
        refine DrG.st (i := 1) [168] rfl rfl rfl (by kernel_rfl) (OKG.o rfl (OK1.neI (Has.t rfl) (Has.cI 0 rfl))) ?_
        refine DrG.st (i := 2) [169] rfl rfl rfl (by kernel_rfl) (OKG.o rfl (OK1.mv (Has.t rfl))) ?_
        refine DrG.st (i := 3) [170] rfl rfl rfl (by kernel_rfl) (OKG.F rfl rfl rfl (fun hg => have hg' := BP.t hg; OK1.mv (Has.t rfl))) ?_
        refine DrG.st (i := 4) [170, 171] rfl rfl rfl (by kernel_rfl) (OKG.F rfl rfl rfl (fun hg => have hg' := BP.t hg; OK1.neI (Has.g rfl hg) (Has.cI 0 rfl))) ?_
        refine DrG.st (i := 5) [170, 172] rfl rfl rfl (by kernel_rfl) (OKG.o rfl (OK1.pickOr (Has.t rfl) (fun h => Has.g rfl (ng h)))) ?_
        refine DrG.st (i := 6) [173] rfl rfl rfl (by kernel_rfl) (OKG.o rfl (OK1.mv (Has.t rfl))) ?_
        refine DrG.st (i := 7) [174] rfl rfl rfl (by kernel_rfl) (OKG.F rfl rfl rfl (fun hg => have hg' := BP.t hg; OK1.mv (Has.t rfl))) ?_
        refine DrG.st (i := 8) [174, 175] rfl rfl rfl (by kernel_rfl) (OKG.F rfl rfl rfl (fun hg => have hg' := BP.t hg; OK1.neI (Has.g rfl hg) (Has.cI 0 rfl))) ?_
        refine DrG.st (i := 9) [174, 176] rfl rfl rfl (by kernel_rfl) (OKG.o rfl (OK1.pickOr (Has.t rfl) (fun h => Has.g rfl (ng h)))) ?_
        refine DrG.st (i := 10) [177] rfl rfl rfl (by kernel_rfl) (OKG.o rfl (OK1.mv (Has.t rfl))) ?_
        refine DrG.st (i := 11) [178] rfl rfl rfl (by kernel_rfl) (OKG.F rfl rfl rfl (fun hg => have hg' := BP.t hg; OK1.load (Has.t rfl) (i := 3) rfl ty24 rfl (Ss' := [_, _, _]) rfl)) ?_
        refine DrG.st (i := 12) [178] rfl rfl rfl (by kernel_rfl) (OKG.F rfl rfl rfl (fun hg => have hg' := BP.t hg; OK1.fieldAddr (Has.t rfl) fld24_0 ty3)) ?_
        refine DrG.st (i := 13) [178, 180] rfl rfl rfl (by kernel_rfl) (OKG.F rfl rfl rfl (fun hg => have hg' := BP.t hg; OK1.load1 (Has.g rfl hg) (i := 7) rfl ty3 rfl)) ?_
        refine DrG.st (i := 14) [178] rfl rfl rfl (by kernel_rfl) (OKG.F rfl rfl rfl (fun hg => have hg' := BP.t hg; OK1.fieldAddr (Has.t rfl) fld24_1 ty3)) ?_
        refine DrG.st (i := 15) [178, 182] rfl rfl rfl (by kernel_rfl) (OKG.F rfl rfl rfl (fun hg => have hg' := BP.t hg; OK1.load1 (Has.g rfl hg) (i := 7) rfl ty3 rfl)) ?_
        refine DrG.st (i := 16) [178] rfl rfl rfl (by kernel_rfl) (OKG.F rfl rfl rfl (fun hg => have hg' := BP.t hg; OK1.mv (Has.t rfl))) ?_
        refine DrG.st (i := 17) [178, 181, 183, 184] rfl rfl rfl (by kernel_rfl) (OKG.F rfl rfl rfl (fun hg => have hg' := BP.t hg; OK1.build [isI 0, isI 0, SlM isU []] pl24 zero24 (fun _ _ => ⟨⟨rfl, by decide, by decide⟩, ⟨rfl, by decide, by decide⟩, nilM _ _, trivial⟩) (.cons (Has.g rfl hg) rfl rfl rfl (.cons (Has.g rfl hg) rfl rfl rfl (.cons (Has.g rfl hg) rfl rfl rfl .nil))) (Z'' := [_, _, _]) rfl)) ?_
        refine DrG.st (i := 18) [178] rfl rfl rfl (by kernel_rfl) (OKG.F rfl rfl rfl (fun hg => have hg' := BP.t hg; OK1.mv (Has.t rfl))) ?_
        refine DrG.st (i := 19) [178, 179, 185, 186] rfl rfl rfl (by kernel_rfl) (OKG.F rfl rfl rfl (fun hg => have hg' := BP.t hg; OK1.call (ref21_Is hp0 hSLp (by omega) hfS (by rw [show k = xs.length by omega]; exact hsS)) (.cons (Has.g rfl hg) (.cons (Has.g rfl hg) (.cons (Has.g rfl hg) .nil))))) ?_
        refine DrG.st (i := 20) [178, 187] rfl rfl rfl (by kernel_rfl) (OKG.F rfl rfl rfl (fun hg => have hg' := BP.t hg; OK1.not (Has.g rfl hg))) ?_
        refine DrG.st (i := 21) [178, 188] rfl rfl rfl (by kernel_rfl) (OKG.o rfl (OK1.pickOr (Has.t rfl) (fun h => Has.g rfl (ng h)))) ?_
        refine DrG.st (i := 22) [189] rfl rfl rfl (by kernel_rfl) (OKG.o rfl (OK1.mv (Has.t rfl))) ?_
        refine DrG.st (i := 23) [190] rfl rfl rfl (by kernel_rfl) (OKG.F rfl rfl rfl (fun hg => have hg' := BP.t hg; OK1.load (Has.t rfl) (i := 1) rfl ty24 rfl (Ss' := [_, _, _]) rfl)) ?_
        refine DrG.st (i := 24) [190] rfl rfl rfl (by kernel_rfl) (OKG.F rfl rfl rfl (fun hg => have hg' := BP.t hg; OK1.load (Has.t rfl) (i := 7) rfl ty24 rfl (Ss' := [_, _, _]) rfl)) ?_
        refine DrG.st (i := 25) [190, 192] rfl rfl rfl (by kernel_rfl) (OKG.F rfl rfl rfl (fun hg => have hg' := BP.t hg; OK1.call (ref21_Turned hR hC hl) (.cons (Has.g rfl hg) .nil))) ?_
        refine DrG.st (i := 26) [190] rfl rfl rfl (by kernel_rfl) (OKG.F rfl rfl rfl (fun hg => have hg' := BP.t hg; OK1.mv (Has.t rfl))) ?_
        refine DrG.st (i := 27) [190, 191, 193, 194] rfl rfl rfl (by kernel_rfl) (OKG.F rfl rfl rfl (fun hg => have hg' := BP.t hg; OK1.call (ref21_Is hp0 hTLp (by omega) hfT hsT) (.cons (Has.g rfl hg) (.cons (Has.g rfl hg) (.cons (Has.g rfl hg) .nil))))) ?_
        refine DrG.st (i := 28) [190, 195] rfl rfl rfl (by kernel_rfl) (OKG.F rfl rfl rfl (fun hg => have hg' := BP.t hg; OK1.not (Has.g rfl hg))) ?_
        refine DrG.st (i := 29) [190, 196] rfl rfl rfl (by kernel_rfl) (OKG.o rfl (OK1.pickOr (Has.t rfl) (fun h => Has.g rfl (ng h)))) ?_
        refine DrG.st (i := 30) [197] rfl rfl rfl (by kernel_rfl) (OKG.o rfl (OK1.mv (Has.t rfl))) ?_
        refine DrG.st (i := 31) [198] rfl rfl rfl (by kernel_rfl) (OKG.F rfl rfl rfl (fun hg => have hg' := BP.t hg; OK1.load (Has.t rfl) (i := 0) rfl ty24 rfl (Ss' := [_, _, _]) rfl)) ?_
        refine DrG.st (i := 32) [198] rfl rfl rfl (by kernel_rfl) (OKG.F rfl rfl rfl (fun hg => have hg' := BP.t hg; OK1.load (Has.t rfl) (i := 7) rfl ty24 rfl (Ss' := [_, _, _]) rfl)) ?_
        refine DrG.st (i := 33) [198] rfl rfl rfl (by kernel_rfl) (OKG.F rfl rfl rfl (fun hg => have hg' := BP.t hg; OK1.mv (Has.t rfl))) ?_
        refine DrG.st (i := 34) [198, 199, 200, 201] rfl rfl rfl (by kernel_rfl) (OKG.F rfl rfl rfl (fun hg => have hg' := BP.t hg; OK1.call (ref21_Is hp0 hXLp (by omega) hfX hsX) (.cons (Has.g rfl hg) (.cons (Has.g rfl hg) (.cons (Has.g rfl hg) .nil))))) ?_
        refine DrG.st (i := 35) [198, 202] rfl rfl rfl (by kernel_rfl) (OKG.F rfl rfl rfl (fun hg => have hg' := BP.t hg; OK1.not (Has.g rfl hg))) ?_
        refine DrG.st (i := 36) [198, 203] rfl rfl rfl (by kernel_rfl) (OKG.o rfl (OK1.pickOr (Has.t rfl) (fun h => Has.g rfl (ng h)))) ?_
        refine DrG.st (i := 37) [204] rfl rfl rfl (by kernel_rfl) (OKG.o rfl (OK1.mv (Has.t rfl))) ?_
        refine DrG.st (i := 38) [205] rfl rfl rfl (by kernel_rfl) (OKG.F rfl rfl rfl (fun hg => have hg' := BP.t hg; OK1.load (Has.t rfl) (i := 5) rfl ty29 rfl (Ss' := [_]) rfl)) ?_
        refine DrG.st (i := 39) [205] rfl rfl rfl (by kernel_rfl) (OKG.F rfl rfl rfl (fun hg => have hg' := BP.t hg; OK1.load (Has.t rfl) (i := 7) rfl ty24 rfl (Ss' := [_, _, _]) rfl)) ?_
        refine DrG.st (i := 40) [205] rfl rfl rfl (by kernel_rfl) (OKG.F rfl rfl rfl (fun hg => have hg' := BP.t hg; OK1.load (Has.t rfl) (i := 6) rfl ty24 rfl (Ss' := [_, _, _]) rfl)) ?_
        refine DrG.st (i := 41) [205, 206, 207, 208] rfl rfl rfl (by kernel_rfl) (OKG.F rfl rfl rfl (fun hg => have hg' := BP.t hg; OK1.eq (OK1.call (fmat_Same (q := p)) (.cons (Has.g rfl hg) (.cons (Has.g rfl hg) (.cons (Has.g rfl hg) .nil)))) ((show isB _ = isB sb from isB_eq (by rw [hfp, ← hsb]))))) ?_
        refine DrG.st (i := 42) [205] rfl rfl rfl (by kernel_rfl) (OKG.F rfl rfl rfl (fun hg => have hg' := BP.t hg; OK1.load (Has.t rfl) (i := 6) rfl ty24 rfl (Ss' := [_, _, _]) rfl)) ?_
        refine DrG.st (i := 43) [205, 210] rfl rfl rfl (by kernel_rfl) (OKG.F rfl rfl rfl (fun hg => have hg' := BP.t hg; OK1.call (ref21_Formed) (.cons (Has.g rfl hg) .nil))) ?_
        refine DrG.st (i := 44) [205, 211] rfl rfl rfl (by kernel_rfl) (OKG.F rfl rfl rfl (fun hg => have hg' := BP.t hg; OK1.mv (Has.g rfl hg))) ?_
        refine DrG.st (i := 45) [212] rfl rfl rfl (by kernel_rfl) (OKG.GT rfl rfl rfl (fun hg => have hg' := BP.t hg; OK1.load (Has.t rfl) (i := 7) rfl ty24 rfl (Ss' := [_, _, _]) rfl)) ?_
        refine DrG.st (i := 46) [212] rfl rfl rfl (by kernel_rfl) (OKG.GT rfl rfl rfl (fun hg => have hg' := BP.t hg; OK1.load (Has.t rfl) (i := 6) rfl ty24 rfl (Ss' := [_, _, _]) rfl)) ?_
        refine DrG.st (i := 47) [212] rfl rfl rfl (by kernel_rfl) (OKG.GT rfl rfl rfl (fun hg => have hg' := BP.t hg; OK1.mv (Has.t rfl))) ?_
        refine DrG.fin (n := 48) mixed (by kernel_rfl) (by kernel_rfl) (by kernel_rfl) ?_
        refine Ops.cv (Cv.wk (.cons (t := 4) (Has.t rfl) (.cons (t := 5) (Has.t rfl) (.cons (t := 6) (Has.t rfl) (.cons (t := 8) (Has.t rfl) (.cons (t := 9) (Has.t rfl) (.cons (t := 10) (Has.t rfl) (.cons (t := 13) (Has.t rfl) (.cons (t := 14) (Has.t rfl) (.cons (t := 21) (Has.t rfl) (.cons (t := 19) (Has.t rfl) (.cons (t := 205) (Has.t rfl) (.cons (t := 209) (Has.t rfl) (.cons (t := 212) (Has.t rfl) (.cons (t := 213) (Has.t rfl) (.cons (t := 214) (Has.t rfl) (.cons (t := 215) (Has.t rfl) .nil))))))))))))))))) ?_
        refine stGT rfl rfl (fun hg => have hg' := BP.t hg; OK1.call (ref21_Same hp0 (by omega)) (.cons (Has.g rfl hg) (.cons (Has.g rfl hg) (.cons (Has.g rfl hg) .nil)))) rfl ?_
        refine stF rfl rfl (fun hg => have hg' := BP.t hg; OK1.eq (OK1.pickAnd (Has.g rfl hg) (fun h => Has.g rfl (ga hg h))) ((show isB _ = isB sb from isB_eq hsb2))) rfl ?_
        refine stF rfl rfl (fun hg => have hg' := BP.t hg; OK1.neB (du := un4) rfl (Has.g rfl hg) (Has.g rfl hg)) rfl ?_
        refine st (OK1.pickOr (Has.t rfl) (fun h => Has.g rfl (ng h))) rfl ?_
        refine nl ?_
        refine At.thn (hK24 _ _ ?_); clear hK24
        refine Tri.cv (Cv.wk (.cons (t := 4) (Has.t rfl) (.cons (t := 5) (Has.t rfl) (.cons (t := 6) (Has.t rfl) (.cons (t := 8) (Has.t rfl) (.cons (t := 9) (Has.t rfl) (.cons (t := 10) (Has.t rfl) (.cons (t := 13) (Has.t rfl) (.cons (t := 14) (Has.t rfl) (.cons (t := 21) (Has.t rfl) (.cons (t := 19) (Has.t rfl) (.cons (t := 219) (Has.t rfl) .nil)))))))))))) ?_
        refine Tri.cond (Has.t rfl) (fun hc5 => ?_) (fun hc5 => ?_)
        · have hc5 := BP.t hc5
          exfalso; simp at hc5
        · have hc5 := BP.f hc5
          skip
          refine Tri.skip ?_
          refine At.thn (hK23 _ _ ?_); clear hK23
          refine Tri.seq fun K25 hK25 => ?_
          refine Tri.seq fun K26 hK26 => ?_
          refine Tri.region ?_
          refine st (OK1.mv (Has.t rfl)) rfl ?_
          refine st (OK1.eq (OK1.eqI (Has.t rfl) (Has.cI 0 rfl)) ((show isB _ = isB same from isB_eq (by cases same <;> rfl)))) rfl ?_
          refine st (OK1.mv (Has.t rfl)) rfl ?_
          refine st (OK1.neB (du := un4) rfl (Has.t rfl) (Has.t rfl)) rfl ?_
          refine st (OK1.mv (Has.t rfl)) rfl ?_
          refine stF rfl rfl (fun hg => have hg' := BP.t hg; OK1.mv (Has.t rfl)) rfl ?_
          refine stF rfl rfl (fun hg => have hg' := BP.t hg; OK1.mv (Has.g rfl hg)) rfl ?_
          refine stGT rfl rfl (fun hg => have hg' := BP.t hg; OK1.eq (OK1.load (Has.t rfl) (i := 4) rfl ty24 rfl (Ss' := [_, _, _]) rfl) ((show isMW _ _ _ = isMW R C AL from by rw [if_pos (by first | exact hg'.2 | exact hg' | exact hg'.2.2 | simpa using hg'), if_pos (by first | exact hg'.2 | exact hg' | exact hg'.2.2 | simpa using hg')]))) rfl ?_
          refine stGT rfl rfl (fun hg => have hg' := BP.t hg; OK1.fieldAddr (Has.t rfl) fld24_0 ty3) rfl ?_
          refine stGT rfl rfl (fun hg => have hg' := BP.t hg; OK1.load1 (Has.g rfl hg) (i := 7) rfl ty3 rfl) rfl ?_
          refine stGT rfl rfl (fun hg => have hg' := BP.t hg; OK1.fieldAddr (Has.t rfl) fld24_1 ty3) rfl ?_
          refine stGT rfl rfl (fun hg => have hg' := BP.t hg; OK1.load1 (Has.g rfl hg) (i := 7) rfl ty3 rfl) rfl ?_
          refine stGT rfl rfl (fun hg => have hg' := BP.t hg; OK1.mv (Has.t rfl)) rfl ?_
          refine stGT rfl rfl (fun hg => have hg' := BP.t hg; OK1.build [isI 0, isI 0, SlM isU []] pl24 zero24 (fun _ _ => ⟨⟨rfl, by decide, by decide⟩, ⟨rfl, by decide, by decide⟩, nilM _ _, trivial⟩) (.cons (Has.g rfl hg) rfl rfl rfl (.cons (Has.g rfl hg) rfl rfl rfl (.cons (Has.g rfl hg) rfl rfl rfl .nil))) (Z'' := [_, _, _]) rfl) rfl ?_
          refine stGT rfl rfl (fun hg => have hg' := BP.t hg; OK1.mv (Has.t rfl)) rfl ?_
          refine stGT rfl rfl (fun hg => have hg' := BP.t hg; OK1.call (ref21_Is hp0 (hAs (by first | exact hg'.2 | exact hg' | exact hg'.2.2 | simpa using hg')).2.1 (by have := (hAs (by first | exact hg'.2 | exact hg' | exact hg'.2.2 | simpa using hg')).1; omega) (formB_true hR hC (hAs (by first | exact hg'.2 | exact hg' | exact hg'.2.2 | simpa using hg')).1) (by rw [show k = xs.length by omega]; exact (hAs (by first | exact hg'.2 | exact hg' | exact hg'.2.2 | simpa using hg')).2.2)) (.cons (Has.g rfl hg) (.cons (Has.g rfl hg) (.cons (Has.g rfl hg) .nil)))) rfl ?_
          refine stGT rfl rfl (fun hg => have hg' := BP.t hg; OK1.not (Has.g rfl hg)) rfl ?_
          refine stF rfl rfl (fun hg => have hg' := BP.t hg; OK1.pickAnd (Has.g rfl hg) (fun h => Has.g rfl (ga hg h))) rfl ?_
          refine st (OK1.pickOr (Has.t rfl) (fun h => Has.g rfl (ng h))) rfl ?_
          refine nl ?_
          refine At.thn (hK26 _ _ ?_); clear hK26
          refine Tri.cv (Cv.wk (.cons (t := 4) (Has.t rfl) (.cons (t := 5) (Has.t rfl) (.cons (t := 6) (Has.t rfl) (.cons (t := 8) (Has.t rfl) (.cons (t := 13) (Has.t rfl) (.cons (t := 14) (Has.t rfl) (.cons (t := 238) (Has.t rfl) .nil)))))))) ?_
          refine Tri.cond (Has.t rfl) (fun hc6 => ?_) (fun hc6 => ?_)
          · have hc6 := BP.t hc6
            exfalso; simp at hc6
          · have hc6 := BP.f hc6
            skip
            refine Tri.skip ?_
            refine At.thn (hK25 _ _ ?_); clear hK25
            refine Tri.seq fun K27 hK27 => ?_
            refine Tri.region ?_
            refine st (OK1.load (Has.t rfl) (i := 6) rfl ty24 rfl (Ss' := [_, _, _]) rfl) rfl ?_
            refine st (OK1.call (ref21_Formed) (.cons (Has.t rfl) .nil)) rfl ?_
            refine st (OK1.mv (Has.t rfl)) rfl ?_
            refine stT rfl rfl (fun hg => have hg' := BP.t hg; OK1.fieldAddr (Has.t rfl) fld24_1 ty3) rfl ?_
            refine stT rfl rfl (fun hg => have hg' := BP.t hg; OK1.load1 (Has.g rfl hg) (i := 7) rfl ty3 rfl) rfl ?_
            refine stT rfl rfl (fun hg => have hg' := BP.t hg; OK1.fieldAddr (Has.t rfl) fld24_0 ty3) rfl ?_
            refine stT rfl rfl (fun hg => have hg' := BP.t hg; OK1.load1 (Has.g rfl hg) (i := 6) rfl ty3 rfl) rfl ?_
            refine stT rfl rfl (fun hg => have hg' := BP.t hg; OK1.eqI (Has.g rfl hg) (Has.g rfl hg)) rfl ?_
            refine st (OK1.eq (OK1.pickAnd (Has.t rfl) (fun h => Has.g rfl h)) ((show isB _ = isB may from isB_eq hmay.symm))) rfl ?_
            refine st (OK1.as (Has.t rfl)) rfl ?_
            refine nl ?_
            refine At.thn (hK27 _ _ ?_); clear hK27
            refine Tri.cv (Cv.wk (.cons (t := 4) (Has.t rfl) (.cons (t := 5) (Has.t rfl) (.cons (t := 6) (Has.t rfl) (.cons (t := 8) (Has.t rfl) (.cons (t := 13) (Has.t rfl) (.cons (t := 14) (Has.t rfl) (.cons (t := 23) (Has.t rfl) .nil)))))))) ?_
            refine Tri.seq fun K28 hK28 => ?_
            refine Tri.dr ?_
            refine DrG.st (i := 0) [] rfl rfl rfl (by kernel_rfl) (OKG.o rfl (OK1.mv (Has.t rfl))) ?_
            refine DrG.st (i := 1) [248] rfl rfl rfl (by kernel_rfl) (OKG.o rfl (OK1.eq (OK1.eqI (Has.t rfl) (Has.cI 0 rfl)) ((show isB _ = isB may from isB_eq (by cases may <;> rfl))))) ?_
            refine DrG.st (i := 2) [] rfl rfl rfl (by kernel_rfl) (OKG.o rfl (OK1.mv (Has.t rfl))) ?_
            refine DrG.st (i := 3) [249, 250] rfl rfl rfl (by kernel_rfl) (OKG.o rfl (OK1.eqB (du := un4) rfl (Has.t rfl) (Has.t rfl))) ?_
            refine DrG.st (i := 4) [251] rfl rfl rfl (by kernel_rfl) (OKG.o rfl (OK1.mv (Has.t rfl))) ?_
            refine DrG.st (i := 5) [252] rfl rfl rfl (by kernel_rfl) (OKG.T rfl rfl rfl (fun hg => have hg' := BP.t hg; OK1.mv (Has.t rfl))) ?_
            refine DrG.st (i := 6) [252, 253] rfl rfl rfl (by kernel_rfl) (OKG.T rfl rfl rfl (fun hg => have hg' := BP.t hg; OK1.not (Has.g rfl hg))) ?_
            refine DrG.st (i := 7) [252, 254] rfl rfl rfl (by kernel_rfl) (OKG.T rfl rfl rfl (fun hg => have hg' := BP.t hg; OK1.mv (Has.g rfl hg))) ?_
            refine DrG.st (i := 8) [255] rfl rfl rfl (by kernel_rfl) (OKG.GF rfl rfl rfl (fun hg => have hg' := BP.t hg; OK1.eq (OK1.load (Has.t rfl) (i := 2) rfl ty24 rfl (Ss' := [_, _, _]) rfl) ((show isMW _ _ _ = isMW R (c2.toNat : Int) QL from by rw [if_pos (by first | exact hg'.2 | exact hg' | exact hg'.2.2 | simpa using hg'), if_pos (by first | exact hg'.2 | exact hg' | exact hg'.2.2 | simpa using hg'), ← (hmy (by first | exact hg'.2 | exact hg' | exact hg'.2.2 | simpa using hg')).2.1])))) ?_
            refine DrG.st (i := 9) [255] rfl rfl rfl (by kernel_rfl) (OKG.GF rfl rfl rfl (fun hg => have hg' := BP.t hg; OK1.load (Has.t rfl) (i := 7) rfl ty24 rfl (Ss' := [_, _, _]) rfl)) ?_
            refine DrG.st (i := 10) [255] rfl rfl rfl (by kernel_rfl) (OKG.GF rfl rfl rfl (fun hg => have hg' := BP.t hg; OK1.eq (OK1.load (Has.t rfl) (i := 6) rfl ty24 rfl (Ss' := [_, _, _]) rfl) ((show isMW _ _ _ = isMW C (c2.toNat : Int) ys from by rw [← (hmy (by first | exact hg'.2 | exact hg' | exact hg'.2.2 | simpa using hg')).2.1, (hmy (by first | exact hg'.2 | exact hg' | exact hg'.2.2 | simpa using hg')).1])))) ?_
            refine DrG.st (i := 11) [255] rfl rfl rfl (by kernel_rfl) (OKG.GF rfl rfl rfl (fun hg => have hg' := BP.t hg; OK1.mv (Has.t rfl))) ?_
            refine DrG.st (i := 12) [255, 257, 258, 259] rfl rfl rfl (by kernel_rfl) (OKG.GF rfl rfl rfl (fun hg => have hg' := BP.t hg; OK1.call (ref21_Mul hp0 hpq hR hC (hmy (by first | exact hg'.2 | exact hg' | exact hg'.2.2 | simpa using hg')).2.2.1 hl (hmy (by first | exact hg'.2 | exact hg' | exact hg'.2.2 | simpa using hg')).2.2.2) (.cons (Has.g rfl hg) (.cons (Has.g rfl hg) (.cons (Has.g rfl hg) .nil))))) ?_
            refine DrG.st (i := 13) [255] rfl rfl rfl (by kernel_rfl) (OKG.GF rfl rfl rfl (fun hg => have hg' := BP.t hg; OK1.mv (Has.t rfl))) ?_
            refine DrG.fin (n := 14) mixed (by kernel_rfl) (by kernel_rfl) (by kernel_rfl) ?_
            refine Ops.cv (Cv.wk (.cons (t := 6) (Has.t rfl) (.cons (t := 252) (Has.t rfl) (.cons (t := 255) (Has.t rfl) (.cons (t := 256) (Has.t rfl) (.cons (t := 260) (Has.t rfl) (.cons (t := 261) (Has.t rfl) .nil))))))) ?_
            refine stGF rfl rfl (fun hg => have hg' := BP.t hg; OK1.call (ref21_Is hp0 (hQs (by first | exact hg'.2 | exact hg' | exact hg'.2.2 | simpa using hg')).2.1 (by have h1 := (hQs (by first | exact hg'.2 | exact hg' | exact hg'.2.2 | simpa using hg')).1; have h2 := side_le hR (hmy (by first | exact hg'.2 | exact hg' | exact hg'.2.2 | simpa using hg')).2.2.1; omega) (formB_true hR (hmy (by first | exact hg'.2 | exact hg' | exact hg'.2.2 | simpa using hg')).2.2.1 (hQs (by first | exact hg'.2 | exact hg' | exact hg'.2.2 | simpa using hg')).1) (by rw [(hQs (by first | exact hg'.2 | exact hg' | exact hg'.2.2 | simpa using hg')).2.2]; exact sameW_refl _ _ _ _)) (.cons (Has.g rfl hg) (.cons (Has.g rfl hg) (.cons (Has.g rfl hg) .nil)))) rfl ?_
            refine stT rfl rfl (fun hg => have hg' := BP.t hg; OK1.pickOr (Has.g rfl hg) (fun h => Has.g rfl (gn hg h))) rfl ?_
            refine st (OK1.pickAnd (Has.t rfl) (fun h => Has.g rfl h)) rfl ?_
            refine st (OK1.as (Has.t rfl)) rfl ?_
            refine nl ?_
            refine At.thn (hK28 _ _ ?_); clear hK28
            refine Tri.cv (Cv.wk (.cons (t := 6) (Has.t rfl) .nil)) ?_
            refine Tri.ret ?_
            refine rt1 (.inl rfl) Try.results7 rfl (.tmp (Has.t' rfl ?_) .nil)
            all_goals (exact isB_eq (by cases may <;> rfl))
set_option maxHeartbeats 4000000 in
theorem c_FmatReckons_bad (n : Nat) (r c : Int) (xs : List Nat) (r2 c2 : Int) (ys : List Nat) (hf : formB r c xs.length = false) : Ctr Try.prog 7 [isK .u8 (n : Int), isMW r c xs, isMW r2 c2 ys] (isB true) := by
  refine Ctr.intro Try.func7 rfl (by kernel_rfl) Try.ntmps7 rfl fun w0 F0 => ?_
  refine Tri.cv (Cv.wk (.cons (t := 0) (Has.t rfl) (.cons (t := 1) (Has.t rfl) (.cons (t := 2) (Has.t rfl) .nil)))) ?_
  obtain ⟨p, hp⟩ : ∃ p, p = ptab (n % 12) := ⟨_, rfl⟩
  have hpp : Prime p := by rw [hp]; exact ptab_prime
  have hfp : fp p = p := by rw [hp]; exact ptab_fp _
  have hpl : p < 2147483648 := by rw [hp]; exact ptab_le
  have hp2 : 2 ≤ p := hpp.1
  have hp0 : 0 < p := (by omega)
  have hpq : p < 4294967296 := (by omega)
  have hfp2 : 2 ≤ fp p := by rw [hfp]; exact hp2
  have hna : alikeB r c xs.length r2 c2 ys.length = false := by unfold alikeB; rw [hf]; rfl
  refine Tri.seq fun K1 hK1 => ?_
  refine Tri.region ?_
  refine Ops.box (Has.t rfl) rfl fun b1 => ?_
  refine Ops.box (Has.t rfl) rfl fun b2 => ?_
  refine st (OK1.as (Has.cB false)) rfl ?_
  refine nl ?_
  refine At.thn (hK1 _ _ ?_); clear hK1
  refine Tri.seq fun K2 hK2 => ?_
  refine Tri.seq fun K3 hK3 => ?_
  refine Tri.region ?_
  refine st (OK1.call (law21_awake) .nil) rfl ?_
  refine st (OK1.not (Has.t rfl)) rfl ?_
  refine st (OK1.mv (Has.t rfl)) rfl ?_
  refine stF rfl rfl (fun hg => have hg' := BP.t hg; OK1.load (Has.t rfl) (i := 1) rfl ty24 rfl (Ss' := [_, _, _]) rfl) rfl ?_
  refine stF rfl rfl (fun hg => have hg' := BP.t hg; OK1.call (ref21_Few) (.cons (Has.g rfl hg) (.cons (Has.cI 4 rfl) .nil))) rfl ?_
  refine stF rfl rfl (fun hg => have hg' := BP.t hg; OK1.not (Has.g rfl hg)) rfl ?_
  refine st (OK1.pickOr (Has.t rfl) (fun h => Has.g rfl (ng h))) rfl ?_
  refine st (OK1.mv (Has.t rfl)) rfl ?_
  refine stF rfl rfl (fun hg => have hg' := BP.t hg; OK1.load (Has.t rfl) (i := 0) rfl ty24 rfl (Ss' := [_, _, _]) rfl) rfl ?_
  refine stF rfl rfl (fun hg => have hg' := BP.t hg; OK1.call (ref21_Few) (.cons (Has.g rfl hg) (.cons (Has.cI 4 rfl) .nil))) rfl ?_
  refine stF rfl rfl (fun hg => have hg' := BP.t hg; OK1.not (Has.g rfl hg)) rfl ?_
  refine st (OK1.pickOr (Has.t rfl) (fun h => Has.g rfl (ng h))) rfl ?_
  refine nl ?_
  refine At.thn (hK3 _ _ ?_); clear hK3
  refine Tri.cv (Cv.wk (.cons (t := 0) (Has.t rfl) (.cons (t := 4) (Has.t rfl) (.cons (t := 5) (Has.t rfl) (.cons (t := 6) (Has.t rfl) (.cons (t := 35) (Has.t rfl) .nil)))))) ?_
  refine Tri.cond (Has.t rfl) (fun hc1 => ?_) (fun hc1 => ?_)
  · have hc1 := BP.t hc1
    refine Tri.seq fun K4 hK4 => ?_
    refine Tri.region ?_
    refine st (OK1.call (law21_awake) .nil) rfl ?_
    refine st (OK1.as (Has.t rfl)) rfl ?_
    refine nl ?_
    refine At.thn (hK4 _ _ ?_); clear hK4
    refine Tri.ret ?_
    refine At.thr ?_
    refine rt1 (.inl rfl) Try.results7 rfl (.tmp (Has.t' rfl ?_) .nil)
    all_goals (rfl)
  · have hc1 := BP.f hc1
    refine Tri.skip ?_
    refine At.thn (hK2 _ _ ?_); clear hK2
    refine Tri.seq fun K5 hK5 => ?_
    refine Tri.region ?_
    refine st (OK1.mv (Has.t rfl)) rfl ?_
    refine st (OK1.eq (OK1.call (law09_Of) (.cons (Has.t rfl) .nil)) ((show Flat [isU _] = Flat [isU p] from by rw [hp]))) rfl ?_
    refine st (OK1.mv (Has.t rfl)) rfl ?_
    refine st (OK1.eq (OK1.call (ref08_P) (.cons (Has.t rfl) .nil)) ((show isU _ = isU p from isU_eq hp.symm))) rfl ?_
    refine Ops.alloc [isU 0] zero29 (fun _ _ => ⟨⟨rfl, by decide⟩, trivial⟩) rfl fun b3 => ?_
    refine Ops.store (Has.t rfl) (Has.t rfl) (i := 0) rfl ty29 rfl rfl (Ss' := [_]) rfl (M' := [(some _, cellM [_]), _, _]) rfl ?_
    refine st (OK1.as (Has.t rfl)) rfl ?_
    refine nl ?_
    refine At.thn (hK5 _ _ ?_); clear hK5
    refine Tri.cv (Cv.wk (.cons (t := 4) (Has.t rfl) (.cons (t := 5) (Has.t rfl) (.cons (t := 6) (Has.t rfl) (.cons (t := 7) (Has.t rfl) (.cons (t := 8) (Has.t rfl) .nil)))))) ?_
    refine Tri.seq fun K6 hK6 => ?_
    refine Tri.region ?_
    refine st (OK1.load (Has.t rfl) (i := 0) rfl ty29 rfl (Ss' := [_]) rfl) rfl ?_
    refine st (OK1.load (Has.t rfl) (i := 2) rfl ty24 rfl (Ss' := [_, _, _]) rfl) rfl ?_
    refine st (OK1.load (Has.t rfl) (i := 1) rfl ty24 rfl (Ss' := [_, _, _]) rfl) rfl ?_
    refine st (OK1.call (fmat_Add_bad hna) (.cons (Has.t rfl) (.cons (Has.t rfl) (.cons (Has.t rfl) .nil)))) rfl ?_
    refine st (OK1.mv (Has.t rfl)) rfl ?_
    refine st (OK1.ext (Has.t rfl) rfl) rfl ?_
    refine st (OK1.ext (Has.t rfl) rfl) rfl ?_
    refine Ops.alloc [isI 0, isI 0, SlM isU []] zero24 (fun _ _ => ⟨⟨rfl, by decide, by decide⟩, ⟨rfl, by decide, by decide⟩, nilM _ _, trivial⟩) rfl fun b4 => ?_
    refine Ops.store (Has.t rfl) (Has.t rfl) (i := 0) rfl ty24 rfl rfl (Ss' := [_, _, _]) rfl (M' := [(some _, cellM [_, _, _]), _, _, _]) rfl ?_
    refine st (OK1.as (Has.t rfl)) rfl ?_
    refine nl ?_
    refine At.thn (hK6 _ _ ?_); clear hK6
    refine Tri.cv (Cv.wk (.cons (t := 4) (Has.t rfl) (.cons (t := 5) (Has.t rfl) (.cons (t := 6) (Has.t rfl) (.cons (t := 7) (Has.t rfl) (.cons (t := 8) (Has.t rfl) (.cons (t := 9) (Has.t rfl) (.cons (t := 10) (Has.t rfl) .nil)))))))) ?_
    refine Tri.seq fun K7 hK7 => ?_
    refine Tri.region ?_
    refine st (OK1.load (Has.t rfl) (i := 1) rfl ty29 rfl (Ss' := [_]) rfl) rfl ?_
    refine st (OK1.load (Has.t rfl) (i := 3) rfl ty24 rfl (Ss' := [_, _, _]) rfl) rfl ?_
    refine st (OK1.call (fmat_Scale_bad hf) (.cons (Has.t rfl) (.cons (Has.t rfl) (.cons (Has.cU 3 rfl) .nil)))) rfl ?_
    refine st (OK1.mv (Has.t rfl)) rfl ?_
    refine st (OK1.ext (Has.t rfl) rfl) rfl ?_
    refine st (OK1.ext (Has.t rfl) rfl) rfl ?_
    refine Ops.alloc [isI 0, isI 0, SlM isU []] zero24 (fun _ _ => ⟨⟨rfl, by decide, by decide⟩, ⟨rfl, by decide, by decide⟩, nilM _ _, trivial⟩) rfl fun b5 => ?_
    refine Ops.store (Has.t rfl) (Has.t rfl) (i := 0) rfl ty24 rfl rfl (Ss' := [_, _, _]) rfl (M' := [(some _, cellM [_, _, _]), _, _, _, _]) rfl ?_
    refine st (OK1.as (Has.t rfl)) rfl ?_
    refine nl ?_
    refine At.thn (hK7 _ _ ?_); clear hK7
    refine Tri.cv (Cv.wk (.cons (t := 4) (Has.t rfl) (.cons (t := 5) (Has.t rfl) (.cons (t := 6) (Has.t rfl) (.cons (t := 7) (Has.t rfl) (.cons (t := 8) (Has.t rfl) (.cons (t := 9) (Has.t rfl) (.cons (t := 10) (Has.t rfl) (.cons (t := 11) (Has.t rfl) (.cons (t := 12) (Has.t rfl) .nil)))))))))) ?_
    refine Tri.seq fun K8 hK8 => ?_
    refine Tri.region ?_
    refine st (OK1.load (Has.t rfl) (i := 2) rfl ty29 rfl (Ss' := [_]) rfl) rfl ?_
    refine st (OK1.load (Has.t rfl) (i := 4) rfl ty24 rfl (Ss' := [_, _, _]) rfl) rfl ?_
    refine st (OK1.load (Has.t rfl) (i := 3) rfl ty24 rfl (Ss' := [_, _, _]) rfl) rfl ?_
    refine st (OK1.call (fmat_Mul_bad fun h => by rw [hf] at h; cases h.1) (.cons (Has.t rfl) (.cons (Has.t rfl) (.cons (Has.t rfl) .nil)))) rfl ?_
    refine st (OK1.mv (Has.t rfl)) rfl ?_
    refine st (OK1.ext (Has.t rfl) rfl) rfl ?_
    refine st (OK1.ext (Has.t rfl) rfl) rfl ?_
    refine Ops.alloc [isI 0, isI 0, SlM isU []] zero24 (fun _ _ => ⟨⟨rfl, by decide, by decide⟩, ⟨rfl, by decide, by decide⟩, nilM _ _, trivial⟩) rfl fun b6 => ?_
    refine Ops.store (Has.t rfl) (Has.t rfl) (i := 0) rfl ty24 rfl rfl (Ss' := [_, _, _]) rfl (M' := [(some _, cellM [_, _, _]), _, _, _, _, _]) rfl ?_
    refine st (OK1.as (Has.t rfl)) rfl ?_
    refine nl ?_
    refine At.thn (hK8 _ _ ?_); clear hK8
    refine Tri.cv (Cv.wk (.cons (t := 4) (Has.t rfl) (.cons (t := 5) (Has.t rfl) (.cons (t := 6) (Has.t rfl) (.cons (t := 7) (Has.t rfl) (.cons (t := 8) (Has.t rfl) (.cons (t := 9) (Has.t rfl) (.cons (t := 10) (Has.t rfl) (.cons (t := 11) (Has.t rfl) (.cons (t := 12) (Has.t rfl) (.cons (t := 13) (Has.t rfl) (.cons (t := 14) (Has.t rfl) .nil)))))))))))) ?_
    refine Tri.seq fun K9 hK9 => ?_
    refine Tri.region ?_
    refine st (OK1.load (Has.t rfl) (i := 3) rfl ty29 rfl (Ss' := [_]) rfl) rfl ?_
    refine st (OK1.load (Has.t rfl) (i := 5) rfl ty24 rfl (Ss' := [_, _, _]) rfl) rfl ?_
    refine st (OK1.call (fmat_Transpose_bad hf) (.cons (Has.t rfl) (.cons (Has.t rfl) .nil))) rfl ?_
    refine st (OK1.mv (Has.t rfl)) rfl ?_
    refine st (OK1.ext (Has.t rfl) rfl) rfl ?_
    refine st (OK1.ext (Has.t rfl) rfl) rfl ?_
    refine Ops.alloc [isI 0, isI 0, SlM isU []] zero24 (fun _ _ => ⟨⟨rfl, by decide, by decide⟩, ⟨rfl, by decide, by decide⟩, nilM _ _, trivial⟩) rfl fun b7 => ?_
    refine Ops.store (Has.t rfl) (Has.t rfl) (i := 0) rfl ty24 rfl rfl (Ss' := [_, _, _]) rfl (M' := [(some _, cellM [_, _, _]), _, _, _, _, _, _]) rfl ?_
    refine st (OK1.as (Has.t rfl)) rfl ?_
    refine nl ?_
    refine At.thn (hK9 _ _ ?_); clear hK9
    refine Tri.cv (Cv.wk (.cons (t := 4) (Has.t rfl) (.cons (t := 5) (Has.t rfl) (.cons (t := 6) (Has.t rfl) (.cons (t := 7) (Has.t rfl) (.cons (t := 8) (Has.t rfl) (.cons (t := 9) (Has.t rfl) (.cons (t := 10) (Has.t rfl) (.cons (t := 11) (Has.t rfl) (.cons (t := 12) (Has.t rfl) (.cons (t := 13) (Has.t rfl) (.cons (t := 14) (Has.t rfl) (.cons (t := 15) (Has.t rfl) (.cons (t := 16) (Has.t rfl) .nil)))))))))))))) ?_
    refine Tri.seq fun K10 hK10 => ?_
    refine Tri.region ?_
    refine st (OK1.load (Has.t rfl) (i := 4) rfl ty29 rfl (Ss' := [_]) rfl) rfl ?_
    refine st (OK1.load (Has.t rfl) (i := 6) rfl ty24 rfl (Ss' := [_, _, _]) rfl) rfl ?_
    refine st (OK1.call (fmat_Norm_bad hf) (.cons (Has.t rfl) (.cons (Has.t rfl) .nil))) rfl ?_
    refine st (OK1.mv (Has.t rfl)) rfl ?_
    refine st (OK1.ext (Has.t rfl) rfl) rfl ?_
    refine st (OK1.ext (Has.t rfl) rfl) rfl ?_
    refine Ops.alloc [isI 0, isI 0, SlM isU []] zero24 (fun _ _ => ⟨⟨rfl, by decide, by decide⟩, ⟨rfl, by decide, by decide⟩, nilM _ _, trivial⟩) rfl fun b8 => ?_
    refine Ops.store (Has.t rfl) (Has.t rfl) (i := 0) rfl ty24 rfl rfl (Ss' := [_, _, _]) rfl (M' := [(some _, cellM [_, _, _]), _, _, _, _, _, _, _]) rfl ?_
    refine st (OK1.as (Has.t rfl)) rfl ?_
    refine nl ?_
    refine At.thn (hK10 _ _ ?_); clear hK10
    refine Tri.cv (Cv.wk (.cons (t := 4) (Has.t rfl) (.cons (t := 5) (Has.t rfl) (.cons (t := 6) (Has.t rfl) (.cons (t := 7) (Has.t rfl) (.cons (t := 8) (Has.t rfl) (.cons (t := 9) (Has.t rfl) (.cons (t := 10) (Has.t rfl) (.cons (t := 11) (Has.t rfl) (.cons (t := 12) (Has.t rfl) (.cons (t := 13) (Has.t rfl) (.cons (t := 14) (Has.t rfl) (.cons (t := 15) (Has.t rfl) (.cons (t := 16) (Has.t rfl) (.cons (t := 17) (Has.t rfl) (.cons (t := 18) (Has.t rfl) .nil)))))))))))))))) ?_
    refine Tri.seq fun K11 hK11 => ?_
    refine Tri.seq fun K12 hK12 => ?_
    refine Tri.region ?_
    refine st (OK1.load (Has.t rfl) (i := 7) rfl ty24 rfl (Ss' := [_, _, _]) rfl) rfl ?_
    refine st (OK1.eq (OK1.call (ref21_Formed) (.cons (Has.t rfl) .nil)) ((show isB _ = isB false from isB_eq hf))) rfl ?_
    refine st (OK1.not (Has.t rfl)) rfl ?_
    refine nl ?_
    refine At.thn (hK12 _ _ ?_); clear hK12
    refine Tri.cond (Has.t rfl) (fun hc2 => ?_) (fun hc2 => ?_)
    · have hc2 := BP.t hc2
      refine Tri.seq fun K13 hK13 => ?_
      refine Tri.region ?_
      refine st (OK1.mv (Has.t rfl)) rfl ?_
      refine st (OK1.eqI (Has.t rfl) (Has.cI 2 rfl)) rfl ?_
      refine st (OK1.mv (Has.t rfl)) rfl ?_
      refine stT rfl rfl (fun hg => have hg' := BP.t hg; OK1.mv (Has.t rfl)) rfl ?_
      refine stT rfl rfl (fun hg => have hg' := BP.t hg; OK1.eqI (Has.g rfl hg) (Has.cI 2 rfl)) rfl ?_
      refine st (OK1.pickAnd (Has.t rfl) (fun h => Has.g rfl h)) rfl ?_
      refine st (OK1.mv (Has.t rfl)) rfl ?_
      refine stT rfl rfl (fun hg => have hg' := BP.t hg; OK1.mv (Has.t rfl)) rfl ?_
      refine stT rfl rfl (fun hg => have hg' := BP.t hg; OK1.eqI (Has.g rfl hg) (Has.cI 2 rfl)) rfl ?_
      refine st (OK1.pickAnd (Has.t rfl) (fun h => Has.g rfl h)) rfl ?_
      refine st (OK1.mv (Has.t rfl)) rfl ?_
      refine stT rfl rfl (fun hg => have hg' := BP.t hg; OK1.mv (Has.t rfl)) rfl ?_
      refine stT rfl rfl (fun hg => have hg' := BP.t hg; OK1.eqI (Has.g rfl hg) (Has.cI 2 rfl)) rfl ?_
      refine st (OK1.pickAnd (Has.t rfl) (fun h => Has.g rfl h)) rfl ?_
      refine st (OK1.mv (Has.t rfl)) rfl ?_
      refine stT rfl rfl (fun hg => have hg' := BP.t hg; OK1.mv (Has.t rfl)) rfl ?_
      refine stT rfl rfl (fun hg => have hg' := BP.t hg; OK1.eqI (Has.g rfl hg) (Has.cI 2 rfl)) rfl ?_
      refine st (OK1.pickAnd (Has.t rfl) (fun h => Has.g rfl h)) rfl ?_
      refine st (OK1.mv (Has.t rfl)) rfl ?_
      refine stT rfl rfl (fun hg => have hg' := BP.t hg; OK1.load (Has.t rfl) (i := 4) rfl ty24 rfl (Ss' := [_, _, _]) rfl) rfl ?_
      refine stT rfl rfl (fun hg => have hg' := BP.t hg; OK1.call (ref21_None) (.cons (Has.g rfl hg) .nil)) rfl ?_
      refine st (OK1.pickAnd (Has.t rfl) (fun h => Has.g rfl h)) rfl ?_
      refine st (OK1.mv (Has.t rfl)) rfl ?_
      refine stT rfl rfl (fun hg => have hg' := BP.t hg; OK1.load (Has.t rfl) (i := 3) rfl ty24 rfl (Ss' := [_, _, _]) rfl) rfl ?_
      refine stT rfl rfl (fun hg => have hg' := BP.t hg; OK1.call (ref21_None) (.cons (Has.g rfl hg) .nil)) rfl ?_
      refine st (OK1.pickAnd (Has.t rfl) (fun h => Has.g rfl h)) rfl ?_
      refine st (OK1.mv (Has.t rfl)) rfl ?_
      refine stT rfl rfl (fun hg => have hg' := BP.t hg; OK1.load (Has.t rfl) (i := 2) rfl ty24 rfl (Ss' := [_, _, _]) rfl) rfl ?_
      refine stT rfl rfl (fun hg => have hg' := BP.t hg; OK1.call (ref21_None) (.cons (Has.g rfl hg) .nil)) rfl ?_
      refine st (OK1.pickAnd (Has.t rfl) (fun h => Has.g rfl h)) rfl ?_
      refine st (OK1.mv (Has.t rfl)) rfl ?_
      refine stT rfl rfl (fun hg => have hg' := BP.t hg; OK1.load (Has.t rfl) (i := 1) rfl ty24 rfl (Ss' := [_, _, _]) rfl) rfl ?_
      refine stT rfl rfl (fun hg => have hg' := BP.t hg; OK1.call (ref21_None) (.cons (Has.g rfl hg) .nil)) rfl ?_
      refine st (OK1.pickAnd (Has.t rfl) (fun h => Has.g rfl h)) rfl ?_
      refine st (OK1.mv (Has.t rfl)) rfl ?_
      refine stT rfl rfl (fun hg => have hg' := BP.t hg; OK1.load (Has.t rfl) (i := 0) rfl ty24 rfl (Ss' := [_, _, _]) rfl) rfl ?_
      refine stT rfl rfl (fun hg => have hg' := BP.t hg; OK1.call (ref21_None) (.cons (Has.g rfl hg) .nil)) rfl ?_
      refine st (OK1.pickAnd (Has.t rfl) (fun h => Has.g rfl h)) rfl ?_
      refine st (OK1.as (Has.t rfl)) rfl ?_
      refine nl ?_
      refine At.thn (hK13 _ _ ?_); clear hK13
      refine Tri.cv (Cv.wk (.cons (t := 4) (Has.t rfl) (.cons (t := 5) (Has.t rfl) (.cons (t := 6) (Has.t rfl) (.cons (t := 7) (Has.t rfl) (.cons (t := 8) (Has.t rfl) (.cons (t := 9) (Has.t rfl) (.cons (t := 10) (Has.t rfl) (.cons (t := 11) (Has.t rfl) (.cons (t := 12) (Has.t rfl) (.cons (t := 13) (Has.t rfl) (.cons (t := 14) (Has.t rfl) (.cons (t := 15) (Has.t rfl) (.cons (t := 16) (Has.t rfl) (.cons (t := 17) (Has.t rfl) (.cons (t := 18) (Has.t rfl) .nil)))))))))))))))) ?_
      refine Tri.ret ?_
      refine At.thr ?_
      refine rt1 (.inl rfl) Try.results7 rfl (.tmp (Has.t' rfl ?_) .nil)
      all_goals (rfl)
    · have hc2 := BP.f hc2
      exfalso; simp at hc2
theorem c_FmatReckons (n : Nat) (r c : Int) (xs : List Nat) (r2 c2 : Int) (ys : List Nat) : Ctr Try.prog 7 [isK .u8 (n : Int), isMW r c xs, isMW r2 c2 ys] (isB true) := by
  cases h : formB r c xs.length with
  | true =>
    obtain ⟨R, C, rfl, rfl, h1, h2, h3⟩ := formB_iff.1 h
    exact c_FmatReckons_ok n R C xs r2 c2 ys h1 h2 h3
  | false => exact c_FmatReckons_bad n r c xs r2 c2 ys h
end Go.Proofs.Ytfoclelageohiaa
/- Matrices of words that a law is handed. -/
namespace Go.En
open Go.RowKit Go.ChangeShapes Go.WideShapes Go.ChangeAt
set_option linter.unusedVariables false
section
variable {H : Type} {enc : TypeId × Value → H} {P : Program}
/-- two sides and words -/
theorem open_MW {W : World} {base : Nat} {T ti tm T' : TypeId} {v : Value} {d : DataW H} {ps : List MemPlace} (hfM : fsB P T = some [(ti, 0), (ti, 1), (tm, 2)]) (hui : P.underlying ti = some (.int .i64)) (hu : P.underlying tm = some (.slice T')) (hu' : P.underlying T' = some (.int .u64)) (hc : P.cellsOf T' = 1)
    (hci : P.cellsOf ti = 1) (hcm : P.cellsOf tm = 1) (hcT : P.cellsOf T = 3) (hv : Value.okWide P W .any base T v) (h : DataW.Trod enc P W 0 (fun _ => true) true T v d ps) (hps : ∀ x ∈ ps, x.block < W.heap.size) : ∃ x : Int × Int × List Nat, (isMW x.1 x.2.1 x.2.2).h W (fun b => b < W.heap.size) v := by
  obtain ⟨fs, huT, hsz, hget⟩ := fsB_spec hfM
  have hv' := hv
  simp only [Value.okWide, huT] at hv'
  obtain ⟨cs, rfl, _, _⟩ := hv'
  obtain ⟨fuel, hf⟩ := h
  obtain ⟨xs, m, _, hx, hl, hxl, hfe⟩ := DataW.trod_struct huT hf
  simp [Value.cells] at hl hx
  obtain ⟨f0, g0, rfl, e0⟩ := hget 0 ti 0 rfl
  obtain ⟨f1, g1, k1, e1⟩ := hget 1 _ 1 rfl
  obtain ⟨f2, g2, rfl, e2⟩ := hget 2 tm 2 rfl
  have h0 := hfe 0 f0 g0
  have h1 := hfe 1 f1 g1
  have h2 := hfe 2 f2 g2
  rw [List.getElem?_eq_getElem (by rw [hxl, hsz]; simp)] at h0 h1 h2
  rw [e0, hci] at h0
  rw [e1, k1, hci] at h1
  rw [e2, hcm] at h2
  obtain ⟨r, hr, hr1, hr2⟩ := rd_I hui h0
  obtain ⟨c, hc1, hc2, hc3⟩ := rd_I hui h1
  obtain ⟨u, ws, hu1, hw⟩ := rd_row hu hu' hc word_of h2 (fun y hy => hps y (by
    rw [hx.2]
    exact List.mem_flatMap.2 ⟨_, List.getElem_mem _, hy⟩))
  refine ⟨(r, c, ws), cs.toList, by simp, ?_⟩
  have hcs2 : cs.toList = [.int .i64 r, .int .i64 c, u] := by
    have hlen : cs.toList.length = 3 := by rw [← hcT]; simpa using hl
    match hq : cs.toList, hlen with
    | [p, q, t], _ =>
      have a1 : [p] = [Value.int .i64 r] := by have := hr; simpa [Value.cells, hq] using this
      have a2 : [q] = [Value.int .i64 c] := by have := hc1; simpa [Value.cells, hq] using this
      have a3 : [t] = [u] := by have := hu1; simpa [Value.cells, hq] using this
      rw [List.cons.inj a1 |>.1, List.cons.inj a2 |>.1, List.cons.inj a3 |>.1]
  rw [hcs2]
  exact ⟨⟨rfl, hr1, hr2⟩, ⟨rfl, hc2, hc3⟩, hw, trivial⟩
end
end Go.En
/- A law of layer 21, as it is stated. -/
namespace Go.Proofs.Ytfoclelageohiaa
open Go.En Go.RowKit
set_option linter.unusedVariables false
set_option maxRecDepth 10000
open Go.ChangeShapes
open Go.WideShapes
open Go.ChangeAt
open Go.Gf
open Go.Mz
open Go.Mu
theorem opens_FmatReckons : Opens Try.prog Try.f7 7 := by
  intro H enc W base args ds ps hval hA hlt
  rw [Try.params7] at hA hval
  obtain ⟨v0, vs0, d0, ds0, p0, q0, hargs, rfl, rfl, h0, r0⟩ := trodAll_cons hA
  obtain ⟨v1, vs1, d1, ds1, p1, q1, rfl, rfl, rfl, h1, r1⟩ := trodAll_cons r0
  obtain ⟨v2, vs2, d2, ds2, p2, q2, rfl, rfl, rfl, h2, r2⟩ := trodAll_cons r1
  obtain ⟨rfl, rfl, rfl⟩ := trodAll_nil r2
  obtain rfl : args = #[v0, v1, v2] := by cases args; simp_all
  obtain ⟨x0, o0⟩ := open_N un5 rfl (hval 0 5 v0 rfl rfl) h0
  obtain ⟨x1, o1⟩ := open_MW fs24 un3 un22 un27 (by kernel_rfl) (by kernel_rfl) (by kernel_rfl) (by kernel_rfl) (hval 1 24 v1 rfl rfl) h1 (fun x hx => hlt x (by simp [hx]))
  obtain ⟨x2, o2⟩ := open_MW fs24 un3 un22 un27 (by kernel_rfl) (by kernel_rfl) (by kernel_rfl) (by kernel_rfl) (hval 2 24 v2 rfl rfl) h2 (fun x hx => hlt x (by simp [hx]))
  refine ⟨_, ?_, c_FmatReckons x0 x1.1 x1.2.1 x1.2.2 x2.1 x2.2.1 x2.2.2⟩
  exact ⟨o0 _, o1, o2, trivial⟩
theorem fmatReckons_said : Rows.FmatReckonsSaid :=
  OpenClaim.holds_of_wide 7 Try.f7 rfl rfl rfl rfl rfl rfl rfl ⟨rfl, rfl, rfl, rfl, rfl⟩ rfl rfl rfl rfl rfl (by kernel_rfl) Try.func7 (by kernel_rfl)
    (of_decide_eq_true (by kernel_rfl)) (by unfold Func.isWrapper; first | (rw [if_pos (by decide +kernel)]; kernel_rfl) | (rw [if_neg (by decide +kernel)]; exact ⟨rfl, rfl⟩))
    (fun os started H enc _ => lift_law (C := Try.checked) (s := Rows.fmatReckonsSpec) (by kernel_rfl) started (by kernel_rfl) Try.func7
      (ChangeSpec.witness6 (enc := enc) (C := Try.checked) false ⟨#[], #[.int .u8 0, .agg #[.int .i64 0, .int .i64 0, .slice none 0 0], .agg #[.int .i64 0, .int .i64 0, .slice none 0 0]], []⟩ 8 (by kernel_rfl) (by kernel_rfl) (by kernel_rfl) (by kernel_rfl))
      (by kernel_rfl) (by kernel_rfl) rfl rfl un4 (fun ds h => by match ds, h with | [d0, d1, d2], _ => rfl) opens_FmatReckons)
#print axioms fmatReckons_said
end Go.Proofs.Ytfoclelageohiaa
