/- The law ZcharFields, as it is stated, of the given program, for every input; no condition. -/
import Derived.Test.YtkgipdidomikbaaGreatQZcharFields5
import Derived.Deep.SlicePairs
import Derived.Test.YtkgipdidomikbaaGreatRows
/- Contracts: matrices of noughts and ones, sums. -/
namespace Go.Proofs.YtkgipdidomikbaaGreat
open Go.En Go.RowKit
set_option linter.unusedVariables false
set_option maxRecDepth 10000
open Go.Nt
open Go.Pz
open Go.Mz
open Go.Hn
open Go.Hp
open Go.Dt
open Go.Ch
set_option maxHeartbeats 4000000 in
theorem zmat_Identity_1 {i k : Nat} : Ctr Tryz.prog 65 [isI (i : Int), isI (k : Int)] (Flat (zc (nz (one i k)))) := by
  refine Ctr.intro Tryz.func65 rfl (by kernel_rfl) Tryz.ntmps65 rfl fun w0 F0 => ?_
  refine Tri.cv (Cv.wk (.cons (t := 0) (Has.t rfl) (.cons (t := 1) (Has.t rfl) .nil))) ?_
  refine Tri.fact (Has.rngI (Has.t (t := 0) rfl)) fun lt0 => ?_
  refine Tri.fact (Has.rngI (Has.t (t := 1) rfl)) fun lt1 => ?_
  refine Tri.seq fun K1 hK1 => ?_
  refine Tri.region ?_
  refine Ops.alloc [isB false, SlM isU []] zero61 (fun _ _ => ⟨rfl, nilM _ _, trivial⟩) rfl fun b1 => ?_
  refine nl ?_
  refine At.thn (hK1 _ _ ?_); clear hK1
  refine Tri.seq fun K2 hK2 => ?_
  refine Tri.seq fun K3 hK3 => ?_
  refine Tri.region ?_
  refine st (OK1.mv (Has.t rfl)) rfl ?_
  refine st (OK1.mv (Has.t rfl)) rfl ?_
  refine st (OK1.eqI (Has.t rfl) (Has.t rfl)) rfl ?_
  refine nl ?_
  refine At.thn (hK3 _ _ ?_); clear hK3
  refine Tri.cond (Has.t rfl) (fun hc1 => ?_) (fun hc1 => ?_)
  · have hc1 := BP.t hc1
    refine Tri.seq fun K4 hK4 => ?_
    refine Tri.region ?_
    refine st (OK1.call (zint_Of) (.cons (Has.cI 1 rfl) .nil)) rfl ?_
    refine Ops.store (Has.t rfl) (Has.t rfl) (i := 0) rfl ty61 rfl rfl (Ss' := [_, _]) rfl (M' := [(some _, cellM [_, _])]) rfl ?_
    refine nl ?_
    refine At.thn (hK4 _ _ ?_); clear hK4
    refine Tri.cv (Cv.wk (.cons (t := 4) (Has.t rfl) .nil)) ?_
    refine Tri.ret ?_
    refine At.thr ?_
    refine rt1 (.inl rfl) Tryz.results65 rfl (.cell rfl (i := 0) rfl ty61 rfl ?_ .nil)
    all_goals (exact isZ_eq (show (1 : Int) = one i k by unfold one; rw [if_pos (by omega)]))
  · have hc1 := BP.f hc1
    refine Tri.skip ?_
    refine At.thn (hK2 _ _ ?_); clear hK2
    refine Tri.cv (Cv.wk (.cons (t := 4) (Has.t rfl) .nil)) ?_
    refine Tri.seq fun K5 hK5 => ?_
    refine Tri.region ?_
    refine st (OK1.build [isB false, SlM isU []] pl61 zero61 (fun _ _ => ⟨rfl, nilM _ _, trivial⟩) .nil (Z'' := [_, _]) rfl) rfl ?_
    refine Ops.store (Has.t rfl) (Has.t rfl) (i := 0) rfl ty61 rfl rfl (Ss' := [_, _]) rfl (M' := [(some _, cellM [_, _])]) rfl ?_
    refine nl ?_
    refine At.thn (hK5 _ _ ?_); clear hK5
    refine Tri.ret ?_
    refine rt1 (.inl rfl) Tryz.results65 rfl (.cell rfl (i := 0) rfl ty61 rfl ?_ .nil)
    all_goals (exact isZ0.trans (isZ_eq (show (0 : Int) = one i k by unfold one; rw [if_neg (by omega)])))
set_option maxHeartbeats 4000000 in
theorem zmat_Identity {n : Nat} (hn : n ≤ 64) : Ctr Tryz.prog 39 [isI (n : Int)] (isTup [isMz n n (oneL n), isI 0]) := by
  refine Ctr.intro Tryz.func39 rfl (by kernel_rfl) Tryz.ntmps39 rfl fun w0 F0 => ?_
  refine Tri.cv (Cv.wk (.cons (t := 0) (Has.t rfl) .nil)) ?_
  refine Tri.fact (Has.rngI (Has.t (t := 0) rfl)) fun lt0 => ?_
  refine Tri.seq fun K1 hK1 => ?_
  refine Tri.region ?_
  refine Ops.alloc [isI 0, isI 0, nilS] zero24 (fun _ _ => ⟨⟨rfl, by decide, by decide⟩, ⟨rfl, by decide, by decide⟩, rfl, trivial⟩) rfl fun b1 => ?_
  refine st (OK1.as (Has.cI 0 rfl)) rfl ?_
  refine nl ?_
  refine At.thn (hK1 _ _ ?_); clear hK1
  refine Tri.seq fun K2 hK2 => ?_
  refine Tri.seq fun K3 hK3 => ?_
  refine Tri.region ?_
  refine st (OK1.mv (Has.t rfl)) rfl ?_
  refine st (OK1.eq (OK1.call (zmat_side) (.cons (Has.t rfl) .nil)) ((show isB _ = isB true from isB_eq (by simp; omega)))) rfl ?_
  refine st (OK1.not (Has.t rfl)) rfl ?_
  refine nl ?_
  refine At.thn (hK3 _ _ ?_); clear hK3
  refine Tri.cond (Has.t rfl) (fun hc1 => ?_) (fun hc1 => ?_)
  · have hc1 := BP.t hc1
    exfalso; simp at hc1
  · have hc1 := BP.f hc1
    refine Tri.skip ?_
    refine At.thn (hK2 _ _ ?_); clear hK2
    refine Tri.seq fun K4 hK4 => ?_
    refine Tri.region ?_
    refine st (OK1.mv (Has.t rfl)) rfl ?_
    refine st (OK1.mv (Has.t rfl)) rfl ?_
    refine st (OK1.call (zmat_made (f := fun i k => nz (one i k)) hn hn (fun i k _ _ => by rw [val_words]; exact Nat.le_trans (nw_01 i k) (by decide))) (.cons (Has.t rfl) (.cons (Has.t rfl) (.cons (Has.fn (fun p => zmat_Identity_1)) .nil)))) rfl ?_
    refine Ops.store (Has.t rfl) (Has.t rfl) (i := 0) rfl ty24 rfl rfl (Ss' := [_, _, _]) rfl (M' := [(some _, cellM [_, _, _])]) rfl ?_
    refine st (OK1.as (Has.cI 0 rfl)) rfl ?_
    refine nl ?_
    refine At.thn (hK4 _ _ ?_); clear hK4
    refine Tri.cv (Cv.wk (.cons (t := 2) (Has.t rfl) (.cons (t := 3) (Has.t rfl) .nil))) ?_
    refine Tri.ret ?_
    refine rtN (.inl rfl) Tryz.results39 rfl rfl (.cell rfl (i := 0) rfl ty24 rfl ?_ (.tmp (Has.t' rfl ?_) .nil))
    · exact isMz_eq (by rw [zvz one]; rfl)
    · rfl
set_option maxHeartbeats 4000000 in
theorem zmat_Add_1 {r0 r1 : Int} {C i k K : Nat} {xs ys : List (Bool × List Nat)} (hx : Bd (vals xs) K) (hy : Bd (vals ys) K) (hK : K ≤ 400000000) (hxm : xs.length ≤ 4096) (hp : i * C + k < xs.length) (hym : ys.length ≤ 4096) (hq : i * C + k < ys.length) : Ctr Tryz.prog 71 [isI (i : Int), isI (k : Int), ptM r0 (C : Int) xs, ptM r1 (C : Int) ys] (Flat (zc (nz (cf (vals xs) (i * C + k) + cf (vals ys) (i * C + k))))) := by
  refine Ctr.intro Tryz.func71 rfl (by kernel_rfl) Tryz.ntmps71 rfl fun w0 F0 => ?_
  refine Tri.cv (Cv.wk (.cons (t := 0) (Has.t rfl) (.cons (t := 1) (Has.t rfl) (.cons (t := 2) (Has.t rfl) (.cons (t := 3) (Has.t rfl) .nil))))) ?_
  refine Tri.fact (Has.rngI (Has.t (t := 0) rfl)) fun lt0 => ?_
  refine Tri.fact (Has.rngI (Has.t (t := 1) rfl)) fun lt1 => ?_
  have hxr := hx.raw (i * C + k)
  have hyr := hy.raw (i * C + k)
  refine Tri.seq fun K1 hK1 => ?_
  refine Tri.region ?_
  refine Ops.alloc [isB false, SlM isU []] zero61 (fun _ _ => ⟨rfl, nilM _ _, trivial⟩) rfl fun b1 => ?_
  refine nl ?_
  refine At.thn (hK1 _ _ ?_); clear hK1
  refine Tri.seq fun K2 hK2 => ?_
  refine Tri.dr ?_
  refine DrG.st (i := 0) [] rfl rfl rfl (by kernel_rfl) (OKG.o rfl (OK1.loadP (Has.t rfl) ty24 rfl (Ss' := [_, _, _]) rfl)) ?_
  refine DrG.st (i := 1) [] rfl rfl rfl (by kernel_rfl) (OKG.o rfl (OK1.mv (Has.t rfl))) ?_
  refine DrG.st (i := 2) [] rfl rfl rfl (by kernel_rfl) (OKG.o rfl (OK1.mv (Has.t rfl))) ?_
  refine DrG.st (i := 3) [7, 8, 9] rfl rfl rfl (by kernel_rfl) (OKG.o rfl (OK1.call (by first | exact zmat_get (i := i) (k := k) hxm hp | exact zmat_get (i := i) (k := k) hym hq) (.cons (Has.t rfl) (.cons (Has.t rfl) (.cons (Has.t rfl) .nil))))) ?_
  refine DrG.st (i := 4) [] rfl rfl rfl (by kernel_rfl) (OKG.o rfl (OK1.loadP (Has.t rfl) ty24 rfl (Ss' := [_, _, _]) rfl)) ?_
  refine DrG.st (i := 5) [] rfl rfl rfl (by kernel_rfl) (OKG.o rfl (OK1.mv (Has.t rfl))) ?_
  refine DrG.st (i := 6) [] rfl rfl rfl (by kernel_rfl) (OKG.o rfl (OK1.mv (Has.t rfl))) ?_
  refine DrG.fin (n := 7) mixed (by kernel_rfl) (by kernel_rfl) (by kernel_rfl) ?_
  refine Ops.cv (Cv.wk (.cons (t := 6) (Has.t rfl) (.cons (t := 10) (Has.t rfl) (.cons (t := 11) (Has.t rfl) (.cons (t := 12) (Has.t rfl) (.cons (t := 13) (Has.t rfl) .nil)))))) ?_
  refine st (OK1.call (by first | exact zmat_get (i := i) (k := k) hxm hp | exact zmat_get (i := i) (k := k) hym hq) (.cons (Has.t rfl) (.cons (Has.t rfl) (.cons (Has.t rfl) .nil)))) rfl ?_
  refine st (OK1.call (zint_Add (by omega) (by omega)) (.cons (Has.t rfl) (.cons (Has.t rfl) .nil))) rfl ?_
  refine Ops.store (Has.t rfl) (Has.t rfl) (i := 0) rfl ty61 rfl rfl (Ss' := [_, _]) rfl (M' := [(some _, cellM [_, _])]) rfl ?_
  refine nl ?_
  refine At.thn (hK2 _ _ ?_); clear hK2
  refine Tri.cv (Cv.wk (.cons (t := 6) (Has.t rfl) .nil)) ?_
  refine Tri.ret ?_
  refine rt1 (.inl rfl) Tryz.results71 rfl (.cell rfl (i := 0) rfl ty61 rfl ?_ .nil)
  all_goals (exact isZ_eq (by rw [cf_vals, cf_vals]))
set_option maxHeartbeats 4000000 in
theorem zmat_Add {n K : Nat} {xs ys : List (Bool × List Nat)} (hx : Bd (vals xs) K) (hy : Bd (vals ys) K) (hK : K ≤ 400000000) (hn : n ≤ 64) (hl : xs.length = n * n) (hyl : ys.length = n * n) : Ctr Tryz.prog 44 [isM (n : Int) (n : Int) xs, isM (n : Int) (n : Int) ys] (isTup [isMz n n (sumL n (vals xs) (vals ys)), isI 0]) := by
  refine Ctr.intro Tryz.func44 rfl (by kernel_rfl) Tryz.ntmps44 rfl fun w0 F0 => ?_
  refine Tri.cv (Cv.wk (.cons (t := 0) (Has.t rfl) (.cons (t := 1) (Has.t rfl) .nil))) ?_
  have hRC := side_le hn hn
  have hfa := formB_true hn hn hl
  have hfb := formB_true hn hn hyl
  refine Tri.seq fun K1 hK1 => ?_
  refine Tri.region ?_
  refine Ops.box (Has.t rfl) rfl fun b1 => ?_
  refine Ops.box (Has.t rfl) rfl fun b2 => ?_
  refine Ops.alloc [isI 0, isI 0, nilS] zero24 (fun _ _ => ⟨⟨rfl, by decide, by decide⟩, ⟨rfl, by decide, by decide⟩, rfl, trivial⟩) rfl fun b3 => ?_
  refine st (OK1.as (Has.cI 0 rfl)) rfl ?_
  refine nl ?_
  refine At.thn (hK1 _ _ ?_); clear hK1
  refine Tri.seq fun K2 hK2 => ?_
  refine Tri.seq fun K3 hK3 => ?_
  refine Tri.region ?_
  refine st (OK1.load (Has.t rfl) (i := 2) rfl ty24 rfl (Ss' := [_, _, _]) rfl) rfl ?_
  refine st (OK1.load (Has.t rfl) (i := 1) rfl ty24 rfl (Ss' := [_, _, _]) rfl) rfl ?_
  refine st (OK1.eq (OK1.call (zmat_alike) (.cons (Has.t rfl) (.cons (Has.t rfl) .nil))) ((show isB _ = isB true from isB_eq (by rw [hfa, hfb]; simp)))) rfl ?_
  refine st (OK1.not (Has.t rfl)) rfl ?_
  refine nl ?_
  refine At.thn (hK3 _ _ ?_); clear hK3
  refine Tri.cv (Cv.wk (.cons (t := 2) (Has.t rfl) (.cons (t := 3) (Has.t rfl) (.cons (t := 4) (Has.t rfl) (.cons (t := 5) (Has.t rfl) (.cons (t := 9) (Has.t rfl) .nil)))))) ?_
  refine Tri.cond (Has.t rfl) (fun hc1 => ?_) (fun hc1 => ?_)
  · have hc1 := BP.t hc1
    exfalso; simp at hc1
  · have hc1 := BP.f hc1
    refine Tri.skip ?_
    refine At.thn (hK2 _ _ ?_); clear hK2
    refine Tri.seq fun K4 hK4 => ?_
    refine Tri.region ?_
    refine st (OK1.fieldAddr (Has.t rfl) fld24_0 ty3) rfl ?_
    refine st (OK1.load1 (Has.t rfl) (i := 2) rfl ty3 rfl) rfl ?_
    refine st (OK1.fieldAddr (Has.t rfl) fld24_1 ty3) rfl ?_
    refine st (OK1.load1 (Has.t rfl) (i := 2) rfl ty3 rfl) rfl ?_
    refine Ops.cv (Cv.freezeBox (t := 2) (i := 2) rfl rfl rfl) ?_
    refine Ops.memEq (M' := [_, _]) rfl ?_
    refine Ops.cv (Cv.wk (.cons (t := 2) (Has.t rfl) (.cons (t := 3) (Has.t rfl) (.cons (t := 4) (Has.t rfl) (.cons (t := 5) (Has.t rfl) (.cons (t := 9) (Has.t rfl) (.cons (t := 12) (Has.t rfl) (.cons (t := 14) (Has.t rfl) .nil)))))))) ?_
    refine Ops.cv (Cv.freezeBox (t := 3) (i := 1) rfl rfl rfl) ?_
    refine Ops.memEq (M' := [_]) rfl ?_
    refine Ops.cv (Cv.wk (.cons (t := 2) (Has.t rfl) (.cons (t := 3) (Has.t rfl) (.cons (t := 4) (Has.t rfl) (.cons (t := 5) (Has.t rfl) (.cons (t := 9) (Has.t rfl) (.cons (t := 12) (Has.t rfl) (.cons (t := 14) (Has.t rfl) .nil)))))))) ?_
    refine st (OK1.makeFn (ι := PI n n) (As := fun p => [isI (p.1.1 : Int), isI (p.1.2 : Int)]) (R := fun p => Flat (zc (nz (cf (vals xs) (p.1.1 * n + p.1.2) + cf (vals ys) (p.1.1 * n + p.1.2))))) (fun p => zmat_Add_1 hx hy hK (by omega) (by have := place_lt p.2.1 p.2.2; omega) (by omega) (by have := place_lt p.2.1 p.2.2; omega)) .nil (.cons (Has.t rfl) (.cons (Has.t rfl) .nil))) rfl ?_
    refine st (OK1.call (zmat_made (f := fun i k => nz (cf (vals xs) (i * n + k) + cf (vals ys) (i * n + k))) hn hn (fun i k _ _ => by rw [val_words]; have h1 := nz_add (cf (vals xs) (i * n + k)) (cf (vals ys) (i * n + k)); have h2 := hx (i * n + k); have h3 := hy (i * n + k); omega)) (.cons (Has.t rfl) (.cons (Has.t rfl) (.cons (Has.t rfl) .nil)))) rfl ?_
    refine Ops.store (Has.t rfl) (Has.t rfl) (i := 0) rfl ty24 rfl rfl (Ss' := [_, _, _]) rfl (M' := [(some _, cellM [_, _, _])]) rfl ?_
    refine st (OK1.as (Has.cI 0 rfl)) rfl ?_
    refine nl ?_
    refine At.thn (hK4 _ _ ?_); clear hK4
    refine Tri.cv (Cv.wk (.cons (t := 4) (Has.t rfl) (.cons (t := 5) (Has.t rfl) .nil))) ?_
    refine Tri.ret ?_
    refine rtN (.inl rfl) Tryz.results44 rfl rfl (.cell rfl (i := 0) rfl ty24 rfl ?_ (.tmp (Has.t' rfl ?_) .nil))
    · exact isMz_eq (by rw [zvz fun i k => cf (vals xs) (i * n + k) + cf (vals ys) (i * n + k)]; rfl)
    · rfl
theorem zM_nil {b : Nat} {x : Int} {M : Mem} (h : x = 0) : ((some b, cellM [isB false, SlM isU []]) :: M : Mem) = zM b x :: M := by
  subst h
  show _ = (some b, cellM [isB (decide ((0 : Int) < 0)), SlM isU (words (0 : Int).natAbs)]) :: M
  rw [Int.natAbs_zero, words_zero]; rfl
set_option maxHeartbeats 4000000 in
theorem zchar_square {r c : Int} {xs : List (Bool × List Nat)} : Ctr Tryz.prog 20 [isM r c xs] (isB (formB r c xs.length && decide (r = c))) := by
  refine Ctr.intro Tryz.func20 rfl (by kernel_rfl) Tryz.ntmps20 rfl fun w0 F0 => ?_
  refine Tri.cv (Cv.wk (.cons (t := 0) (Has.t rfl) .nil)) ?_
  refine Tri.seq fun K1 hK1 => ?_
  refine Tri.region ?_
  refine Ops.box (Has.t rfl) rfl fun b1 => ?_
  refine st (OK1.as (Has.cB false)) rfl ?_
  refine nl ?_
  refine At.thn (hK1 _ _ ?_); clear hK1
  refine Tri.seq fun K2 hK2 => ?_
  refine Tri.region ?_
  refine st (OK1.load (Has.t rfl) (i := 0) rfl ty24 rfl (Ss' := [_, _, _]) rfl) rfl ?_
  refine st (OK1.call (zmat_Formed) (.cons (Has.t rfl) .nil)) rfl ?_
  refine st (OK1.mv (Has.t rfl)) rfl ?_
  refine stT rfl rfl (fun hg => have hg' := BP.t hg; OK1.fieldAddr (Has.t rfl) fld24_0 ty3) rfl ?_
  refine stT rfl rfl (fun hg => have hg' := BP.t hg; OK1.load1 (Has.g rfl hg) (i := 0) rfl ty3 rfl) rfl ?_
  refine stT rfl rfl (fun hg => have hg' := BP.t hg; OK1.fieldAddr (Has.t rfl) fld24_1 ty3) rfl ?_
  refine stT rfl rfl (fun hg => have hg' := BP.t hg; OK1.load1 (Has.g rfl hg) (i := 0) rfl ty3 rfl) rfl ?_
  refine stT rfl rfl (fun hg => have hg' := BP.t hg; OK1.eqI (Has.g rfl hg) (Has.g rfl hg)) rfl ?_
  refine st (OK1.pickAnd (Has.t rfl) (fun h => Has.g rfl h)) rfl ?_
  refine st (OK1.as (Has.t rfl)) rfl ?_
  refine nl ?_
  refine At.thn (hK2 _ _ ?_); clear hK2
  refine Tri.cv (Cv.wk (.cons (t := 2) (Has.t rfl) .nil)) ?_
  refine Tri.ret ?_
  refine rt1 (.inl rfl) Tryz.results20 rfl (.tmp (Has.t' rfl ?_) .nil)
  all_goals (rfl)
set_option maxHeartbeats 4000000 in
theorem zchar_must {r c e : Int} {xs : List (Bool × List Nat)} : Ctr Tryz.prog 38 [isM r c xs, isI e] (isM r c xs) := by
  refine Ctr.intro Tryz.func38 rfl (by kernel_rfl) Tryz.ntmps38 rfl fun w0 F0 => ?_
  refine Tri.cv (Cv.wk (.cons (t := 0) (Has.t rfl) (.cons (t := 1) (Has.t rfl) .nil))) ?_
  refine Tri.fact (Has.rngI (Has.t (t := 1) rfl)) fun lt1 => ?_
  refine Tri.seq fun K1 hK1 => ?_
  refine Tri.region ?_
  refine Ops.box (Has.t rfl) rfl fun b1 => ?_
  refine Ops.alloc [isI 0, isI 0, nilS] zero24 (fun _ _ => ⟨⟨rfl, by decide, by decide⟩, ⟨rfl, by decide, by decide⟩, rfl, trivial⟩) rfl fun b2 => ?_
  refine nl ?_
  refine At.thn (hK1 _ _ ?_); clear hK1
  refine Tri.seq fun K2 hK2 => ?_
  refine Tri.region ?_
  refine st (OK1.load (Has.t rfl) (i := 1) rfl ty24 rfl (Ss' := [_, _, _]) rfl) rfl ?_
  refine Ops.store (Has.t rfl) (Has.t rfl) (i := 0) rfl ty24 rfl rfl (Ss' := [_, _, _]) rfl (M' := [(some _, cellM [_, _, _]), _]) rfl ?_
  refine nl ?_
  refine At.thn (hK2 _ _ ?_); clear hK2
  refine Tri.ret ?_
  refine rt1 (.inl rfl) Tryz.results38 rfl (.cell rfl (i := 0) rfl ty24 rfl ?_ .nil)
  all_goals (rfl)
set_option maxHeartbeats 4000000 in
theorem zchar_trace {n K : Nat} {xs : List (Bool × List Nat)} (hx : Bd (vals xs) K) (hK : K ≤ 400000000) (hn : n ≤ 64) (hl : xs.length = n * n) : Ctr Tryz.prog 43 [isM (n : Int) (n : Int) xs] (isZ (trcL n (vals xs) n)) := by
  refine Ctr.intro Tryz.func43 rfl (by kernel_rfl) Tryz.ntmps43 rfl fun w0 F0 => ?_
  refine Tri.cv (Cv.wk (.cons (t := 0) (Has.t rfl) .nil)) ?_
  have hRC := side_le hn hn
  have htn : ∀ k, (List.length (words (trcL n (vals xs) k).natAbs)) ≤ K + k := fun k => sm_nw (fun i => hx _) k
  refine Tri.seq fun K1 hK1 => ?_
  refine Tri.region ?_
  refine Ops.box (Has.t rfl) rfl fun b1 => ?_
  refine Ops.alloc [isB false, SlM isU []] zero61 (fun _ _ => ⟨rfl, nilM _ _, trivial⟩) rfl fun b2 => ?_
  refine nl ?_
  refine At.thn (hK1 _ _ ?_); clear hK1
  refine Tri.seq fun K2 hK2 => ?_
  refine Tri.region ?_
  refine Ops.alloc [isB false, SlM isU []] zero61 (fun _ _ => ⟨rfl, nilM _ _, trivial⟩) rfl fun b3 => ?_
  refine nl ?_
  refine At.thn (hK2 _ _ ?_); clear hK2
  refine Tri.seq fun K3 hK3 => ?_
  refine Tri.seq fun K4 hK4 => ?_
  refine Tri.region ?_
  refine st (OK1.fieldAddr (Has.t rfl) fld24_0 ty3) rfl ?_
  refine st (OK1.load1 (Has.t rfl) (i := 2) rfl ty3 rfl) rfl ?_
  refine st (OK1.mv (Has.cI 0 rfl)) rfl ?_
  refine nl ?_
  refine At.thn (hK4 _ _ ?_); clear hK4
  refine Tri.block ?_
  refine Tri.loopF [1, 2, 3, 6] (fun (z : { k : Nat // k ≤ n }) => match z with | ⟨k, hk⟩ => [(7, isI (k : Int))]) (fun M => fun (z : { k : Nat // k ≤ n }) => match z with | ⟨k, hk⟩ => [zM b3 (trcL n (vals xs) k), (some b2, cellM [isB false, SlM isU []]), (some b1, cellM [isI (n : Int), isI (n : Int), SlK 2 zc xs])]) (fun (z : { k : Nat // k ≤ n }) => match z with | ⟨k, hk⟩ => n - k) (⟨0, Nat.zero_le _⟩) (Cv.mem (.cons (t := 7) (Has.t' rfl ?_) (.cons (t := 1) (Has.t rfl) (.cons (t := 2) (Has.t rfl) (.cons (t := 3) (Has.t rfl) (.cons (t := 6) (Has.t rfl) .nil))))) ?_) ?_
  · rfl
  · exact zM_nil rfl
  rintro ⟨k, hk⟩ K5 hK5
  refine Tri.cv (Cv.wk (.cons (t := 7) (Has.t rfl) (.cons (t := 1) (Has.t rfl) (.cons (t := 2) (Has.t rfl) (.cons (t := 3) (Has.t rfl) (.cons (t := 6) (Has.t rfl) .nil)))))) ?_
  refine Tri.memEq (M' := [zM b3 (trcL n (vals xs) k), (some b2, cellM [isB false, SlM isU []]), (some b1, cellM [isI (n : Int), isI (n : Int), SlK 2 zc xs])]) rfl ?_
  have htk := htn k
  refine Tri.seq fun K6 hK6 => ?_
  refine Tri.region ?_
  refine st (OK1.ltI (Has.t rfl) (Has.t rfl)) rfl ?_
  refine nl ?_
  refine At.thn (hK6 _ _ ?_); clear hK6
  refine Tri.seq fun K7 hK7 => ?_
  refine Tri.cond (Has.t rfl) (fun hc1 => ?_) (fun hc1 => ?_)
  · have hc1 := BP.t hc1
    have hpl := place_lt (show k < n by omega) (show k < n by omega)
    have hxk := hx (k * n + k)
    refine Tri.skip ?_
    refine At.thn (hK7 _ _ ?_); clear hK7
    refine Tri.seq fun K8 hK8 => ?_
    refine Tri.block ?_
    refine Tri.seq fun K9 hK9 => ?_
    refine Tri.region ?_
    refine st (OK1.mv (Has.t rfl)) rfl ?_
    refine st (OK1.as (Has.t rfl)) rfl ?_
    refine nl ?_
    refine At.thn (hK9 _ _ ?_); clear hK9
    refine Tri.dr ?_
    refine DrG.st (i := 0) [] rfl rfl rfl (by kernel_rfl) (OKG.o rfl (OK1.load (Has.t rfl) (i := 0) rfl ty61 rfl (Ss' := [_, _]) rfl)) ?_
    refine DrG.st (i := 1) [] rfl rfl rfl (by kernel_rfl) (OKG.o rfl (OK1.load (Has.t rfl) (i := 2) rfl ty24 rfl (Ss' := [_, _, _]) rfl)) ?_
    refine DrG.st (i := 2) [] rfl rfl rfl (by kernel_rfl) (OKG.o rfl (OK1.mv (Has.t rfl))) ?_
    refine DrG.st (i := 3) [] rfl rfl rfl (by kernel_rfl) (OKG.o rfl (OK1.mv (Has.t rfl))) ?_
    refine DrG.st (i := 4) [11, 12, 13] rfl rfl rfl (by kernel_rfl) (OKG.o rfl (OK1.call (zmat_At (i := k) (k := k) hx (by omega) hn hn hl (by omega) (by omega)) (.cons (Has.t rfl) (.cons (Has.t rfl) (.cons (Has.t rfl) .nil))))) ?_
    refine DrG.fin (n := 5) mixed (by kernel_rfl) (by kernel_rfl) (by kernel_rfl) ?_
    refine Ops.cv (Cv.wk (.cons (t := 1) (Has.t rfl) (.cons (t := 2) (Has.t rfl) (.cons (t := 3) (Has.t rfl) (.cons (t := 6) (Has.t rfl) (.cons (t := 7) (Has.t rfl) (.cons (t := 8) (Has.t rfl) (.cons (t := 9) (Has.t rfl) (.cons (t := 4) (Has.t rfl) (.cons (t := 10) (Has.t rfl) (.cons (t := 11) (Has.t rfl) (.cons (t := 12) (Has.t rfl) (.cons (t := 13) (Has.t rfl) (.cons (t := 14) (Has.t rfl) .nil)))))))))))))) ?_
    refine st (OK1.eq (OK1.call (zint_Add (by rw [val_words]; omega) (by rw [val_words]; omega)) (.cons (Has.t rfl) (.cons (Has.t rfl) .nil))) ((show isZ _ = isZ (trcL n (vals xs) (k + 1)) from isZ_eq (by simp only [zv_nf, zv_nz]; rfl)))) rfl ?_
    refine Ops.store (Has.t rfl) (Has.t rfl) (i := 0) rfl ty61 rfl rfl (Ss' := [_, _]) rfl (M' := [(some _, cellM [_, _]), _, _]) rfl ?_
    refine nl ?_
    refine At.bln ?_
    refine At.thn (hK8 _ _ ?_); clear hK8
    refine Tri.region ?_
    refine st (OK1.addI (Has.t rfl) (Has.cI 1 rfl) (by first | omega | assumption) (by first | omega | assumption)) rfl ?_
    refine st (OK1.mv (Has.t rfl)) rfl ?_
    refine nl ?_
    refine At.thn ?_
    refine hK5 (⟨k + 1, by omega⟩) _ _ ?_ (Cv.mem (.cons (t := 7) (Has.t' rfl ?_) (.cons (t := 1) (Has.t rfl) (.cons (t := 2) (Has.t rfl) (.cons (t := 3) (Has.t rfl) (.cons (t := 6) (Has.t rfl) .nil))))) ?_)
    · show n - (k + 1) < n - k; omega
    · exact isI_eq (by omega)
    · rfl
  · have hc1 := BP.f hc1
    skip
    refine Tri.exit ?_
    refine At.the ?_
    refine At.the ?_
    refine At.blh ?_
    refine At.thn (hK3 _ _ ?_); clear hK3
    refine Tri.seq fun K10 hK10 => ?_
    refine Tri.region ?_
    refine st (OK1.load (Has.t rfl) (i := 0) rfl ty61 rfl (Ss' := [_, _]) rfl) rfl ?_
    refine Ops.store (Has.t rfl) (Has.t rfl) (i := 1) rfl ty61 rfl rfl (Ss' := [_, _]) rfl (M' := [_, (some _, cellM [_, _]), _]) rfl ?_
    refine nl ?_
    refine At.thn (hK10 _ _ ?_); clear hK10
    refine Tri.cv (Cv.wk (.cons (t := 2) (Has.t rfl) .nil)) ?_
    refine Tri.ret ?_
    refine rt1 (.inl rfl) Tryz.results43 rfl (.cell rfl (i := 1) rfl ty61 rfl ?_ .nil)
    all_goals (rw [show k = n by omega])
end Go.Proofs.YtkgipdidomikbaaGreat
/- Contracts: the greatest common divisor with what makes it; rests, inverses. -/
namespace Go.Proofs.YtkgipdidomikbaaGreat
open Go.En Go.RowKit
set_option linter.unusedVariables false
set_option maxRecDepth 10000
open Go.Nt
set_option maxHeartbeats 4000000 in
theorem modn_Mod {m n : Bool} {xs ys : List Nat} (hx : (List.length (words (val xs))) < 4294700000) (hy : (List.length (words (val ys))) < 4294700000) : Ctr Tryz.prog 47 [Flat [isB m, isWords xs], Flat [isB n, isWords ys]] (isTup [isZ (if 0 < zv n ys then zv m xs % zv n ys else 0), isB (decide (0 < zv n ys))]) := by
  refine Ctr.intro Tryz.func47 rfl (by kernel_rfl) Tryz.ntmps47 rfl fun w0 F0 => ?_
  refine Tri.cv (Cv.wk (.cons (t := 0) (Has.t rfl) (.cons (t := 1) (Has.t rfl) .nil))) ?_
  refine Tri.fact (Has.okZ (Has.t (t := 0) rfl)) fun okz0 => ?_
  refine Tri.fact (Has.okZ (Has.t (t := 1) rfl)) fun okz1 => ?_
  refine Tri.seq fun K1 hK1 => ?_
  refine Tri.region ?_
  refine Ops.box (Has.t rfl) rfl fun b1 => ?_
  refine Ops.box (Has.t rfl) rfl fun b2 => ?_
  refine Ops.alloc [isB false, SlM isU []] zero61 (fun _ _ => ⟨rfl, nilM _ _, trivial⟩) rfl fun b3 => ?_
  refine st (OK1.as (Has.cB false)) rfl ?_
  refine nl ?_
  refine At.thn (hK1 _ _ ?_); clear hK1
  refine Tri.seq fun K2 hK2 => ?_
  refine Tri.seq fun K3 hK3 => ?_
  refine Tri.region ?_
  refine st (OK1.load (Has.t rfl) (i := 1) rfl ty61 rfl (Ss' := [_, _]) rfl) rfl ?_
  refine st (OK1.call (zint_Sign (by omega)) (.cons (Has.t rfl) .nil)) rfl ?_
  refine st (OK1.leI (Has.t rfl) (Has.cI 0 rfl)) rfl ?_
  refine nl ?_
  refine At.thn (hK3 _ _ ?_); clear hK3
  refine Tri.cond (Has.t rfl) (fun hc1 => ?_) (fun hc1 => ?_)
  · have hc1 := BP.t hc1
    have hN : ¬ 0 < zv n ys := fun e => by have := (sgn_pos _).2 e; omega
    refine Tri.seq fun K4 hK4 => ?_
    refine Tri.region ?_
    refine st (OK1.eq (OK1.build [isB false, SlM isU []] pl61 zero61 (fun _ _ => ⟨rfl, nilM _ _, trivial⟩) .nil (Z'' := [_, _]) rfl) (isZ0)) rfl ?_
    refine Ops.store (Has.t rfl) (Has.t rfl) (i := 0) rfl ty61 rfl rfl (Ss' := [_, _]) rfl (M' := [(some _, cellM [_, _]), _, _]) rfl ?_
    refine st (OK1.as (Has.cB false)) rfl ?_
    refine nl ?_
    refine At.thn (hK4 _ _ ?_); clear hK4
    refine Tri.cv (Cv.wk (.cons (t := 2) (Has.t rfl) (.cons (t := 3) (Has.t rfl) (.cons (t := 4) (Has.t rfl) (.cons (t := 5) (Has.t rfl) .nil))))) ?_
    refine Tri.ret ?_
    refine At.thr ?_
    refine rtN (.inl rfl) Tryz.results47 rfl rfl (.cell rfl (i := 0) rfl ty61 rfl ?_ (.tmp (Has.t' rfl ?_) .nil))
    · exact isZ_eq (if_neg hN).symm
    · exact isB_eq (decide_eq_false hN).symm
  · have hc1 := BP.f hc1
    have hP : 0 < zv n ys := (sgn_pos _).1 (by omega)
    refine Tri.skip ?_
    refine At.thn (hK2 _ _ ?_); clear hK2
    refine Tri.cv (Cv.wk (.cons (t := 2) (Has.t rfl) (.cons (t := 3) (Has.t rfl) (.cons (t := 4) (Has.t rfl) (.cons (t := 5) (Has.t rfl) .nil))))) ?_
    refine Tri.seq fun K5 hK5 => ?_
    refine Tri.region ?_
    refine st (OK1.load (Has.t rfl) (i := 2) rfl ty61 rfl (Ss' := [_, _]) rfl) rfl ?_
    refine st (OK1.load (Has.t rfl) (i := 1) rfl ty61 rfl (Ss' := [_, _]) rfl) rfl ?_
    refine st (OK1.call (zint_Euclid (by with_reducible assumption) (by with_reducible assumption)) (.cons (Has.t rfl) (.cons (Has.t rfl) .nil))) rfl ?_
    refine st (OK1.mv (Has.t rfl)) rfl ?_
    refine st (OK1.ext (Has.t rfl) rfl) rfl ?_
    refine st (OK1.ext (Has.t rfl) rfl) rfl ?_
    refine st (OK1.ext (Has.t rfl) rfl) rfl ?_
    refine Ops.alloc [isB false, SlM isU []] zero61 (fun _ _ => ⟨rfl, nilM _ _, trivial⟩) rfl fun b4 => ?_
    refine Ops.alloc [isB false, SlM isU []] zero61 (fun _ _ => ⟨rfl, nilM _ _, trivial⟩) rfl fun b5 => ?_
    refine Ops.store (Has.t rfl) (Has.t rfl) (i := 1) rfl ty61 rfl rfl (Ss' := [_, _]) rfl (M' := [_, (some _, cellM [_, _]), _, _, _]) rfl ?_
    refine Ops.store (Has.t rfl) (Has.t rfl) (i := 0) rfl ty61 rfl rfl (Ss' := [_, _]) rfl (M' := [(some _, cellM [_, _]), _, _, _, _]) rfl ?_
    refine st (OK1.as (Has.t rfl)) rfl ?_
    refine nl ?_
    refine At.thn (hK5 _ _ ?_); clear hK5
    refine Tri.cv (Cv.wk (.cons (t := 4) (Has.t rfl) (.cons (t := 5) (Has.t rfl) (.cons (t := 7) (Has.t rfl) (.cons (t := 8) (Has.t rfl) .nil))))) ?_
    refine Tri.seq fun K6 hK6 => ?_
    refine Tri.region ?_
    refine st (OK1.load (Has.t rfl) (i := 0) rfl ty61 rfl (Ss' := [_, _]) rfl) rfl ?_
    refine st (OK1.mv (Has.t rfl)) rfl ?_
    refine Ops.store (Has.t rfl) (Has.t rfl) (i := 2) rfl ty61 rfl rfl (Ss' := [_, _]) rfl (M' := [_, _, (some _, cellM [_, _]), _, _]) rfl ?_
    refine st (OK1.as (Has.t rfl)) rfl ?_
    refine nl ?_
    refine At.thn (hK6 _ _ ?_); clear hK6
    refine Tri.ret ?_
    refine rtN (.inl rfl) Tryz.results47 rfl rfl (.cell rfl (i := 2) rfl ty61 rfl ?_ (.tmp (Has.t' rfl ?_) .nil))
    · exact isZ_eq (by rw [if_neg (by omega), if_pos hP])
    · exact isB_eq (decide_eq_decide.2 ⟨fun _ => hP, fun _ => by omega⟩)
end Go.Proofs.YtkgipdidomikbaaGreat
/- Contracts: what becomes noughts. -/
namespace Go.Proofs.YtkgipdidomikbaaGreat
open Go.En Go.RowKit
set_option linter.unusedVariables false
set_option maxRecDepth 10000
open Go.Nt
open Go.Pz
open Go.Mz
open Go.Hn
open Go.Hp
open Go.Dt
set_option maxHeartbeats 4000000 in
theorem zmat_Scale_1 {C i k K : Nat} {r0 : Int} {xs : List (Bool × List Nat)} {m : Bool} {ws : List Nat} (hx : Bd (vals xs) K) (hK : K ≤ 400000000) (hw : (List.length (words (val ws))) ≤ 1000) (hxm : xs.length ≤ 4096) (hp : i * C + k < xs.length) : Ctr Tryz.prog 72 [isI (i : Int), isI (k : Int), ptM r0 (C : Int) xs, PtrL [isB m, isWords ws]] (Flat (zc (nz (cf (vals xs) (i * C + k) * zv m ws)))) := by
  refine Ctr.intro Tryz.func72 rfl (by kernel_rfl) Tryz.ntmps72 rfl fun w0 F0 => ?_
  refine Tri.cv (Cv.wk (.cons (t := 0) (Has.t rfl) (.cons (t := 1) (Has.t rfl) (.cons (t := 2) (Has.t rfl) (.cons (t := 3) (Has.t rfl) .nil))))) ?_
  refine Tri.fact (Has.rngI (Has.t (t := 0) rfl)) fun lt0 => ?_
  refine Tri.fact (Has.rngI (Has.t (t := 1) rfl)) fun lt1 => ?_
  have hxr := hx.raw (i * C + k)
  refine Tri.seq fun K1 hK1 => ?_
  refine Tri.region ?_
  refine Ops.alloc [isB false, SlM isU []] zero61 (fun _ _ => ⟨rfl, nilM _ _, trivial⟩) rfl fun b1 => ?_
  refine nl ?_
  refine At.thn (hK1 _ _ ?_); clear hK1
  refine Tri.seq fun K2 hK2 => ?_
  refine Tri.dr ?_
  refine DrG.st (i := 0) [] rfl rfl rfl (by kernel_rfl) (OKG.o rfl (OK1.loadP (Has.t rfl) ty24 rfl (Ss' := [_, _, _]) rfl)) ?_
  refine DrG.st (i := 1) [] rfl rfl rfl (by kernel_rfl) (OKG.o rfl (OK1.mv (Has.t rfl))) ?_
  refine DrG.st (i := 2) [] rfl rfl rfl (by kernel_rfl) (OKG.o rfl (OK1.mv (Has.t rfl))) ?_
  refine DrG.st (i := 3) [7, 8, 9] rfl rfl rfl (by kernel_rfl) (OKG.o rfl (OK1.call (zmat_get (i := i) (k := k) hxm hp) (.cons (Has.t rfl) (.cons (Has.t rfl) (.cons (Has.t rfl) .nil))))) ?_
  refine DrG.st (i := 4) [] rfl rfl rfl (by kernel_rfl) (OKG.o rfl (OK1.loadP (Has.t rfl) ty61 rfl (Ss' := [_, _]) rfl)) ?_
  refine DrG.fin (n := 5) mixed (by kernel_rfl) (by kernel_rfl) (by kernel_rfl) ?_
  refine Ops.cv (Cv.wk (.cons (t := 6) (Has.t rfl) (.cons (t := 10) (Has.t rfl) (.cons (t := 11) (Has.t rfl) .nil)))) ?_
  refine st (OK1.call (zint_Mul (by omega) (by omega)) (.cons (Has.t rfl) (.cons (Has.t rfl) .nil))) rfl ?_
  refine Ops.store (Has.t rfl) (Has.t rfl) (i := 0) rfl ty61 rfl rfl (Ss' := [_, _]) rfl (M' := [(some _, cellM [_, _])]) rfl ?_
  refine nl ?_
  refine At.thn (hK2 _ _ ?_); clear hK2
  refine Tri.ret ?_
  refine rt1 (.inl rfl) Tryz.results72 rfl (.cell rfl (i := 0) rfl ty61 rfl ?_ .nil)
  all_goals (exact isZ_eq (by rw [cf_vals]))
set_option maxHeartbeats 4000000 in
theorem zmat_Scale {R C K : Nat} {xs : List (Bool × List Nat)} {m : Bool} {ws : List Nat} (hx : Bd (vals xs) K) (hK : K ≤ 400000000) (hw : (List.length (words (val ws))) ≤ 1000) (hR : R ≤ 64) (hC : C ≤ 64) (hl : xs.length = R * C) : Ctr Tryz.prog 45 [isM (R : Int) (C : Int) xs, Flat [isB m, isWords ws]] (isTup [isMz R C (sclL R C (zv m ws) (vals xs)), isI 0]) := by
  refine Ctr.intro Tryz.func45 rfl (by kernel_rfl) Tryz.ntmps45 rfl fun w0 F0 => ?_
  refine Tri.cv (Cv.wk (.cons (t := 0) (Has.t rfl) (.cons (t := 1) (Has.t rfl) .nil))) ?_
  refine Tri.fact (Has.okZ (Has.t (t := 1) rfl)) fun okz1 => ?_
  have hRC := side_le hR hC
  have hfo := formB_true hR hC hl
  refine Tri.seq fun K1 hK1 => ?_
  refine Tri.region ?_
  refine Ops.box (Has.t rfl) rfl fun b1 => ?_
  refine Ops.box (Has.t rfl) rfl fun b2 => ?_
  refine Ops.alloc [isI 0, isI 0, nilS] zero24 (fun _ _ => ⟨⟨rfl, by decide, by decide⟩, ⟨rfl, by decide, by decide⟩, rfl, trivial⟩) rfl fun b3 => ?_
  refine st (OK1.as (Has.cI 0 rfl)) rfl ?_
  refine nl ?_
  refine At.thn (hK1 _ _ ?_); clear hK1
  refine Tri.seq fun K2 hK2 => ?_
  refine Tri.seq fun K3 hK3 => ?_
  refine Tri.region ?_
  refine st (OK1.load (Has.t rfl) (i := 2) rfl ty24 rfl (Ss' := [_, _, _]) rfl) rfl ?_
  refine st (OK1.eq (OK1.call (zmat_Formed) (.cons (Has.t rfl) .nil)) ((show isB _ = isB true from isB_eq (hfo)))) rfl ?_
  refine st (OK1.not (Has.t rfl)) rfl ?_
  refine nl ?_
  refine At.thn (hK3 _ _ ?_); clear hK3
  refine Tri.cond (Has.t rfl) (fun hc1 => ?_) (fun hc1 => ?_)
  · have hc1 := BP.t hc1
    exfalso; simp at hc1
  · have hc1 := BP.f hc1
    refine Tri.skip ?_
    refine At.thn (hK2 _ _ ?_); clear hK2
    refine Tri.cv (Cv.wk (.cons (t := 2) (Has.t rfl) (.cons (t := 3) (Has.t rfl) (.cons (t := 4) (Has.t rfl) (.cons (t := 5) (Has.t rfl) .nil))))) ?_
    refine Tri.seq fun K4 hK4 => ?_
    refine Tri.region ?_
    refine st (OK1.fieldAddr (Has.t rfl) fld24_0 ty3) rfl ?_
    refine st (OK1.load1 (Has.t rfl) (i := 2) rfl ty3 rfl) rfl ?_
    refine st (OK1.fieldAddr (Has.t rfl) fld24_1 ty3) rfl ?_
    refine st (OK1.load1 (Has.t rfl) (i := 2) rfl ty3 rfl) rfl ?_
    refine Ops.cv (Cv.freezeBox (t := 2) (i := 2) rfl rfl rfl) ?_
    refine Ops.memEq (M' := [_, _]) rfl ?_
    refine Ops.cv (Cv.wk (.cons (t := 2) (Has.t rfl) (.cons (t := 3) (Has.t rfl) (.cons (t := 4) (Has.t rfl) (.cons (t := 5) (Has.t rfl) (.cons (t := 11) (Has.t rfl) (.cons (t := 13) (Has.t rfl) .nil))))))) ?_
    refine Ops.cv (Cv.freezeBox (t := 3) (i := 1) rfl rfl rfl) ?_
    refine Ops.memEq (M' := [_]) rfl ?_
    refine Ops.cv (Cv.wk (.cons (t := 2) (Has.t rfl) (.cons (t := 3) (Has.t rfl) (.cons (t := 4) (Has.t rfl) (.cons (t := 5) (Has.t rfl) (.cons (t := 11) (Has.t rfl) (.cons (t := 13) (Has.t rfl) .nil))))))) ?_
    refine st (OK1.makeFn (ι := PI R C) (As := fun p => [isI (p.1.1 : Int), isI (p.1.2 : Int)]) (R := fun p => Flat (zc (nz (cf (vals xs) (p.1.1 * C + p.1.2) * zv m ws)))) (fun p => zmat_Scale_1 hx hK hw (by omega) (by have := place_lt p.2.1 p.2.2; omega)) .nil (.cons (Has.t rfl) (.cons (Has.t rfl) .nil))) rfl ?_
    refine st (OK1.call (zmat_made (f := fun i k => nz (cf (vals xs) (i * C + k) * zv m ws)) hR hC (fun i k _ _ => by rw [val_words]; have h1 := nz_mul (cf (vals xs) (i * C + k)) (zv m ws); have h2 := hx (i * C + k); have h3 := zv_nw m ws; omega)) (.cons (Has.t rfl) (.cons (Has.t rfl) (.cons (Has.t rfl) .nil)))) rfl ?_
    refine Ops.store (Has.t rfl) (Has.t rfl) (i := 0) rfl ty24 rfl rfl (Ss' := [_, _, _]) rfl (M' := [(some _, cellM [_, _, _])]) rfl ?_
    refine st (OK1.as (Has.cI 0 rfl)) rfl ?_
    refine nl ?_
    refine At.thn (hK4 _ _ ?_); clear hK4
    refine Tri.cv (Cv.wk (.cons (t := 4) (Has.t rfl) (.cons (t := 5) (Has.t rfl) .nil))) ?_
    refine Tri.ret ?_
    refine rtN (.inl rfl) Tryz.results45 rfl rfl (.cell rfl (i := 0) rfl ty24 rfl ?_ (.tmp (Has.t' rfl ?_) .nil))
    · exact isMz_eq (by rw [zvz fun i k => cf (vals xs) (i * C + k) * zv m ws]; rfl)
    · rfl
end Go.Proofs.YtkgipdidomikbaaGreat
/- Contracts: the characteristic polynomial. -/
namespace Go.Proofs.YtkgipdidomikbaaGreat
open Go.En Go.RowKit
set_option linter.unusedVariables false
set_option maxRecDepth 10000
open Go.Nt
open Go.Pz
open Go.Mz
open Go.Hn
open Go.Hp
open Go.Dt
open Go.Ch
theorem exact_mul {k : Nat} (h : 1 ≤ k) (c : Int) : (if (k : Int) ≠ 0 ∧ ((k : Int) * c).tmod (k : Int) = 0 then ((k : Int) * c).tdiv (k : Int) else 0) = c := by
  rw [if_pos ⟨by omega, Int.mul_tmod_right _ _⟩]
  exact Int.mul_tdiv_cancel_left _ (by omega)
theorem qF_fz {n k : Nat} {L : List Int} (h : k = n + 1) : (qF n L k).take (n + 1) = (chL n L).map nz := by
  subst h
  rw [List.take_of_length_le (by rw [qF_len]; exact Nat.le_refl _), qF_done]
theorem memQ_eq {b : Nat} {x : Option Nat × MP} {a c : List (Bool × List Nat)} {r : Mem} (h : a = c) : (x :: (some b, cellM (a.flatMap zc)) :: r : Mem) = x :: (some b, cellM (c.flatMap zc)) :: r := by subst h; rfl
theorem fl_first (n : Nat) (L : List Int) : oneL n = flM n L (min 1 n) := by
  rcases Nat.eq_zero_or_pos n with h | h
  · subst h; rfl
  · rw [Nat.min_eq_left h, fl_one h]
set_option maxHeartbeats 4000000 in
theorem zchar_steps {n K : Nat} {xs : List (Bool × List Nat)} (hx : Bd (vals xs) K) (hB : K + flB n K n + 2 * n ≤ 900) (hn : n ≤ 64) (hl : xs.length = n * n) : Ctr Tryz.prog 21 [isM (n : Int) (n : Int) xs] (isTup [isP (chL n (vals xs)), isMz n n (flM n (vals xs) n)]) := by
  refine Ctr.intro Tryz.func21 rfl (by kernel_rfl) Tryz.ntmps21 rfl fun w0 F0 => ?_
  refine Tri.cv (Cv.wk (.cons (t := 0) (Has.t rfl) .nil)) ?_
  have hRC := side_le hn hn
  have hOb : Bd (vals ((oneL n).map nz)) 1 := by rw [vals_nz]; exact oneL_bd n
  have hOl : ((oneL n).map nz).length = n * n := by rw [List.length_map, oneL_len]
  have hcb := chL_bd (n := n) hx
  refine Tri.seq fun K1 hK1 => ?_
  refine Tri.region ?_
  refine Ops.box (Has.t rfl) rfl fun b1 => ?_
  refine st (OK1.as (Has.cWK (k := 2) (fk := zc))) rfl ?_
  refine Ops.alloc [isI 0, isI 0, nilS] zero24 (fun _ _ => ⟨⟨rfl, by decide, by decide⟩, ⟨rfl, by decide, by decide⟩, rfl, trivial⟩) rfl fun b2 => ?_
  refine nl ?_
  refine At.thn (hK1 _ _ ?_); clear hK1
  refine Tri.seq fun K2 hK2 => ?_
  refine Tri.region ?_
  refine st (OK1.fieldAddr (Has.t rfl) fld24_0 ty3) rfl ?_
  refine st (OK1.load1 (Has.t rfl) (i := 1) rfl ty3 rfl) rfl ?_
  refine st (OK1.as (Has.t rfl)) rfl ?_
  refine nl ?_
  refine At.thn (hK2 _ _ ?_); clear hK2
  refine Tri.seq fun K3 hK3 => ?_
  refine Tri.region ?_
  refine st (OK1.mv (Has.t rfl)) rfl ?_
  refine st (OK1.call (zmat_Identity hn) (.cons (Has.t rfl) .nil)) rfl ?_
  refine st (OK1.ext (Has.t rfl) rfl) rfl ?_
  refine st (OK1.ext (Has.t rfl) rfl) rfl ?_
  refine st (OK1.call (zchar_must) (.cons (Has.t rfl) (.cons (Has.t rfl) .nil))) rfl ?_
  refine Ops.alloc [isI 0, isI 0, nilS] zero24 (fun _ _ => ⟨⟨rfl, by decide, by decide⟩, ⟨rfl, by decide, by decide⟩, rfl, trivial⟩) rfl fun b3 => ?_
  refine Ops.store (Has.t rfl) (Has.t rfl) (i := 0) rfl ty24 rfl rfl (Ss' := [_, _, _]) rfl (M' := [(some _, cellM [_, _, _]), _, _]) rfl ?_
  refine nl ?_
  refine At.thn (hK3 _ _ ?_); clear hK3
  refine Tri.cv (Cv.wk (.cons (t := 1) (Has.t rfl) (.cons (t := 2) (Has.t rfl) (.cons (t := 3) (Has.t rfl) (.cons (t := 4) (Has.t rfl) (.cons (t := 5) (Has.t rfl) .nil)))))) ?_
  refine Tri.seq fun K4 hK4 => ?_
  refine Tri.region ?_
  refine st (OK1.mv (Has.t rfl)) rfl ?_
  refine st (OK1.eq (OK1.addI (Has.t rfl) (Has.cI 1 rfl) (by first | omega | assumption) (by first | omega | assumption)) ((show isI _ = isI ((n + 1 : Nat) : Int) from isI_eq (by omega)))) rfl ?_
  refine Ops.makeK (fk := zc) (u := (false, [])) (n := (n + 1)) (c := (n + 1)) sl32 ty61 zero61 (fun _ _ => ⟨rfl, nilM _ _, trivial⟩) zc_len by61 (Has.t' rfl rfl) (Has.t' rfl rfl) ⟨by omega, by omega⟩ rfl fun b4 => ?_
  refine st (OK1.as (Has.t rfl)) rfl ?_
  refine nl ?_
  refine At.thn (hK4 _ _ ?_); clear hK4
  refine Tri.seq fun K5 hK5 => ?_
  refine Tri.region ?_
  refine st (OK1.mv (Has.t rfl)) rfl ?_
  refine st (OK1.mv (Has.t rfl)) rfl ?_
  refine st (OK1.eq (OK1.call (zint_Of) (.cons (Has.cI 1 rfl) .nil)) ((show isZ 1 = Flat (zc (nz 1)) from rfl))) rfl ?_
  refine st (OK1.eq (OK1.ixWin sl32 ty61 (Has.t rfl) (Has.t rfl) ⟨by omega, by omega⟩) (isPtr_eq (by first | exact ixo0 | exact ixo2 | exact ixo1))) rfl ?_
  refine Ops.storeK (z := nz 1) zc_len (Has.t rfl) (Has.t rfl) (i := 0) rfl ty61 (by simp only [Int.toNat_natCast, List.length_replicate]; omega) (M' := [(_, _), _, _, _]) rfl ?_
  refine nl ?_
  refine At.thn (hK5 _ _ ?_); clear hK5
  refine Tri.cv (Cv.wk (.cons (t := 1) (Has.t rfl) (.cons (t := 2) (Has.t rfl) (.cons (t := 3) (Has.t rfl) (.cons (t := 4) (Has.t rfl) (.cons (t := 5) (Has.t rfl) (.cons (t := 6) (Has.t rfl) .nil))))))) ?_
  refine Tri.seq fun K6 hK6 => ?_
  refine Tri.region ?_
  refine st (OK1.load (Has.t rfl) (i := 1) rfl ty24 rfl (Ss' := [_, _, _]) rfl) rfl ?_
  refine Ops.alloc [isI 0, isI 0, nilS] zero24 (fun _ _ => ⟨⟨rfl, by decide, by decide⟩, ⟨rfl, by decide, by decide⟩, rfl, trivial⟩) rfl fun b5 => ?_
  refine Ops.store (Has.t rfl) (Has.t rfl) (i := 0) rfl ty24 rfl rfl (Ss' := [_, _, _]) rfl (M' := [(some _, cellM [_, _, _]), _, _, _, _]) rfl ?_
  refine nl ?_
  refine At.thn (hK6 _ _ ?_); clear hK6
  refine Tri.seq fun K7 hK7 => ?_
  refine Tri.seq fun K8 hK8 => ?_
  refine Tri.region ?_
  refine st (OK1.as (Has.cI 1 rfl)) rfl ?_
  refine nl ?_
  refine At.thn (hK8 _ _ ?_); clear hK8
  refine Tri.block ?_
  refine Tri.loopF [1, 2, 3, 4, 5, 6, 7] (fun (z : { z : Nat × List Int // 1 ≤ z.1 ∧ z.1 ≤ n + 1 ∧ z.2 = flM n (vals xs) (min z.1 n) }) => match z with | ⟨(k, Mk), hI⟩ => [(8, isI (k : Int))]) (fun M => fun (z : { z : Nat × List Int // 1 ≤ z.1 ∧ z.1 ≤ n + 1 ∧ z.2 = flM n (vals xs) (min z.1 n) }) => match z with | ⟨(k, Mk), hI⟩ => [(some b5, cellM [isI (n : Int), isI (n : Int), SlK 2 zc (Mk.map nz)]), (some b4, cellM ((qF n (vals xs) k).flatMap zc)), (some b3, cellM [isI (n : Int), isI (n : Int), SlK 2 zc ((oneL n).map nz)]), (some b2, cellM [isI 0, isI 0, nilS]), (some b1, cellM [isI (n : Int), isI (n : Int), SlK 2 zc xs])]) (fun (z : { z : Nat × List Int // 1 ≤ z.1 ∧ z.1 ≤ n + 1 ∧ z.2 = flM n (vals xs) (min z.1 n) }) => match z with | ⟨(k, Mk), hI⟩ => n + 1 - k) (⟨(1, oneL n), Nat.le_refl _, by show 1 ≤ n + 1; omega, fl_first n _⟩) (Cv.mem (.cons (t := 8) (Has.t' rfl ?_) (.cons (t := 1) (Has.t rfl) (.cons (t := 2) (Has.t rfl) (.cons (t := 3) (Has.t rfl) (.cons (t := 4) (Has.t rfl) (.cons (t := 5) (Has.t rfl) (.cons (t := 6) (Has.t rfl) (.cons (t := 7) (Has.t rfl) .nil)))))))) ?_) ?_
  · exact isI_eq (by omega)
  · exact memQ_eq (qF_one n _)
  rintro ⟨⟨k, Mk⟩, hI⟩ K9 hK9
  refine Tri.cv (Cv.wk (.cons (t := 8) (Has.t rfl) (.cons (t := 1) (Has.t rfl) (.cons (t := 2) (Has.t rfl) (.cons (t := 3) (Has.t rfl) (.cons (t := 4) (Has.t rfl) (.cons (t := 5) (Has.t rfl) (.cons (t := 6) (Has.t rfl) (.cons (t := 7) (Has.t rfl) .nil))))))))) ?_
  refine Tri.memEq (M' := [(some b5, cellM [isI (n : Int), isI (n : Int), SlK 2 zc (Mk.map nz)]), (some b4, cellM ((qF n (vals xs) k).flatMap zc)), (some b3, cellM [isI (n : Int), isI (n : Int), SlK 2 zc ((oneL n).map nz)]), (some b2, cellM [isI 0, isI 0, nilS]), (some b1, cellM [isI (n : Int), isI (n : Int), SlK 2 zc xs])]) rfl ?_
  simp only [] at hI
  obtain ⟨hk1, hk2, hMk⟩ := hI
  obtain ⟨cK, hcK⟩ : ∃ c, c = flC n (vals xs) k := ⟨_, rfl⟩
  have hMl : Mk.length = n * n := by rw [hMk]; exact flM_len _ _ _
  refine Tri.seq fun K10 hK10 => ?_
  refine Tri.seq fun K11 hK11 => ?_
  refine Tri.region ?_
  refine st (OK1.mv (Has.t rfl)) rfl ?_
  refine st (OK1.mv (Has.t rfl)) rfl ?_
  refine st (OK1.leI (Has.t rfl) (Has.t rfl)) rfl ?_
  refine nl ?_
  refine At.thn (hK11 _ _ ?_); clear hK11
  refine Tri.cond (Has.t rfl) (fun hc1 => ?_) (fun hc1 => ?_)
  · have hc1 := BP.t hc1
    have hkn : k ≤ n := (by omega)
    have hMk2 : Mk = flM n (vals xs) k := by rw [hMk, Nat.min_eq_left hkn]
    have hMb : Bd Mk (flB n K n) := by rw [hMk2]; exact (fl_bd hx k hk1 hkn).mono (by unfold flB; exact Nat.add_le_add_left (Nat.mul_le_mul_right _ (by omega)) _)
    obtain ⟨Am, hAm⟩ : ∃ X, X = prdL n (vals xs) Mk := ⟨_, rfl⟩
    have hAb : Bd Am (K + flB n K n + n) := by rw [hAm]; exact prdL_bd hx hMb
    have hAl : Am.length = n * n := by rw [hAm]; exact prdL_len _ _ _
    have htr : trcL n Am n = -((k : Int) * cK) := by rw [hAm, hMk2, hcK]; exact fl_tr hk1 hkn
    have hcb2 : (List.length (words cK.natAbs)) ≤ K + flB n K n + 2 * n := by rw [hcK]; exact fl_cbd hx (by rw [← hMk2]; exact hMb) hk1 hkn
    have hts : (List.length (words (trcL n Am n).natAbs)) ≤ K + flB n K n + n + n := sm_nw (fun i => hAb _) n
    rw [htr, Int.natAbs_neg] at hts
    have hkw : (List.length (words ((k : Int)).natAbs)) ≤ 1 := nw_small' (by omega)
    refine Tri.skip ?_
    refine At.thn (hK10 _ _ ?_); clear hK10
    refine Tri.seq fun K12 hK12 => ?_
    refine Tri.block ?_
    refine Tri.seq fun K13 hK13 => ?_
    refine Tri.region ?_
    refine st (OK1.load (Has.t rfl) (i := 4) rfl ty24 rfl (Ss' := [_, _, _]) rfl) rfl ?_
    refine st (OK1.load (Has.t rfl) (i := 0) rfl ty24 rfl (Ss' := [_, _, _]) rfl) rfl ?_
    refine st (OK1.eq (OK1.call (zmat_Mul (R := n) (C := n) (D := n) (K := K) (L := flB n K n) (ys := Mk.map nz) hx (by rw [vals_nz]; exact hMb) (by omega) hn hn hn hl (by rw [List.length_map]; exact hMl)) (.cons (Has.t rfl) (.cons (Has.t rfl) .nil))) ((show _ = isTup [isMz n n Am, isI 0] from by rw [vals_nz, hAm]; rfl))) rfl ?_
    refine st (OK1.ext (Has.t rfl) rfl) rfl ?_
    refine st (OK1.ext (Has.t rfl) rfl) rfl ?_
    refine st (OK1.call (zchar_must) (.cons (Has.t rfl) (.cons (Has.t rfl) .nil))) rfl ?_
    refine Ops.alloc [isI 0, isI 0, nilS] zero24 (fun _ _ => ⟨⟨rfl, by decide, by decide⟩, ⟨rfl, by decide, by decide⟩, rfl, trivial⟩) rfl fun b6 => ?_
    refine Ops.store (Has.t rfl) (Has.t rfl) (i := 0) rfl ty24 rfl rfl (Ss' := [_, _, _]) rfl (M' := [(some _, cellM [_, _, _]), _, _, _, _, _]) rfl ?_
    refine nl ?_
    refine At.thn (hK13 _ _ ?_); clear hK13
    refine Tri.seq fun K14 hK14 => ?_
    refine Tri.region ?_
    refine st (OK1.load (Has.t rfl) (i := 0) rfl ty24 rfl (Ss' := [_, _, _]) rfl) rfl ?_
    refine st (OK1.eq (OK1.call (zchar_trace (K := K + flB n K n + n) (xs := Am.map nz) (by rw [vals_nz]; exact hAb) (by omega) hn (by rw [List.length_map]; exact hAl)) (.cons (Has.t rfl) .nil)) ((show _ = isZ (-((k : Int) * cK)) from isZ_eq (by rw [vals_nz, htr])))) rfl ?_
    refine st (OK1.eq (OK1.call (zint_Neg (by rw [val_words, Int.natAbs_neg]; omega)) (.cons (Has.t rfl) .nil)) ((show _ = isZ ((k : Int) * cK) from isZ_eq (by simp only [zv_nf, zv_nz]; omega)))) rfl ?_
    refine st (OK1.mv (Has.t rfl)) rfl ?_
    refine st (OK1.call (zint_Of) (.cons (Has.t rfl) .nil)) rfl ?_
    refine st (OK1.call (zint_Exact (by rw [val_words]; omega) (by rw [val_words]; omega)) (.cons (Has.t rfl) (.cons (Has.t rfl) .nil))) rfl ?_
    refine st (OK1.mv (Has.t rfl)) rfl ?_
    refine st (OK1.eq (OK1.ext (Has.t rfl) rfl) ((show _ = isZ cK from isZ_eq (by simp only [zv_nf, zv_nz]; exact exact_mul hk1 cK)))) rfl ?_
    refine st (OK1.ext (Has.t rfl) rfl) rfl ?_
    refine Ops.alloc [isB false, SlM isU []] zero61 (fun _ _ => ⟨rfl, nilM _ _, trivial⟩) rfl fun b7 => ?_
    refine Ops.store (Has.t rfl) (Has.t rfl) (i := 0) rfl ty61 rfl rfl (Ss' := [_, _]) rfl (M' := [(some _, cellM [_, _]), _, _, _, _, _, _]) rfl ?_
    refine st (OK1.as (Has.t rfl)) rfl ?_
    refine nl ?_
    refine At.thn (hK14 _ _ ?_); clear hK14
    refine Tri.seq fun K15 hK15 => ?_
    refine Tri.region ?_
    refine st (OK1.mv (Has.t rfl)) rfl ?_
    refine st (OK1.mv (Has.t rfl)) rfl ?_
    refine st (OK1.mv (Has.t rfl)) rfl ?_
    refine st (OK1.eq (OK1.subI (Has.t rfl) (Has.t rfl) (by first | omega | assumption) (by first | omega | assumption)) ((show isI _ = isI ((n - k : Nat) : Int) from isI_eq (by omega)))) rfl ?_
    refine st (OK1.load (Has.t rfl) (i := 0) rfl ty61 rfl (Ss' := [_, _]) rfl) rfl ?_
    refine st (OK1.eq (OK1.ixWin sl32 ty61 (Has.t rfl) (Has.t rfl) ⟨by omega, by omega⟩) (isPtr_eq (by first | exact ixo0 | exact ixo2 | exact ixo1))) rfl ?_
    refine Ops.storeK (z := nz cK) zc_len (Has.t rfl) (Has.t rfl) (i := 3) rfl ty61 (by rw [qF_len]; simp only [Int.toNat_natCast]; omega) (M' := [_, _, _, (_, _), _, _, _]) rfl ?_
    refine nl ?_
    refine At.thn (hK15 _ _ ?_); clear hK15
    refine Tri.seq fun K16 hK16 => ?_
    refine Tri.region ?_
    refine st (OK1.mv (Has.t rfl)) rfl ?_
    refine st (OK1.mv (Has.t rfl)) rfl ?_
    refine st (OK1.ltI (Has.t rfl) (Has.t rfl)) rfl ?_
    refine nl ?_
    refine At.thn (hK16 _ _ ?_); clear hK16
    refine Tri.cond (Has.t rfl) (fun hc2 => ?_) (fun hc2 => ?_)
    · have hc2 := BP.t hc2
      refine Tri.dr ?_
      refine DrG.st (i := 0) [] rfl rfl rfl (by kernel_rfl) (OKG.o rfl (OK1.load (Has.t rfl) (i := 1) rfl ty24 rfl (Ss' := [_, _, _]) rfl)) ?_
      refine DrG.st (i := 1) [] rfl rfl rfl (by kernel_rfl) (OKG.o rfl (OK1.load (Has.t rfl) (i := 4) rfl ty24 rfl (Ss' := [_, _, _]) rfl)) ?_
      refine DrG.st (i := 2) [] rfl rfl rfl (by kernel_rfl) (OKG.o rfl (OK1.load (Has.t rfl) (i := 0) rfl ty61 rfl (Ss' := [_, _]) rfl)) ?_
      refine DrG.st (i := 3) [57, 58] rfl rfl rfl (by kernel_rfl) (OKG.o rfl (OK1.eq (OK1.call (zmat_Scale (R := n) (C := n) (K := 1) hOb (by decide) (by rw [val_words]; omega) hn hn hOl) (.cons (Has.t rfl) (.cons (Has.t rfl) .nil))) ((show _ = isTup [isMz n n (sclL n n cK (oneL n)), isI 0] from by rw [vals_nz]; first | rw [zv_nf] | rw [zv_nz])))) ?_
      refine DrG.st (i := 4) [59] rfl rfl rfl (by kernel_rfl) (OKG.o rfl (OK1.ext (Has.t rfl) rfl)) ?_
      refine DrG.st (i := 5) [59] rfl rfl rfl (by kernel_rfl) (OKG.o rfl (OK1.ext (Has.t rfl) rfl)) ?_
      refine DrG.st (i := 6) [60, 61] rfl rfl rfl (by kernel_rfl) (OKG.o rfl (OK1.call (zchar_must) (.cons (Has.t rfl) (.cons (Has.t rfl) .nil)))) ?_
      refine DrG.st (i := 7) [56, 62] rfl rfl rfl (by kernel_rfl) (OKG.o rfl (OK1.eq (OK1.call (zmat_Add (K := 1000) (xs := Am.map nz) (ys := (sclL n n cK (oneL n)).map nz) (by rw [vals_nz]; exact hAb.mono (by omega)) (by rw [vals_nz]; exact (scl_one_bd hcb2).mono (by omega)) (by decide) hn (by rw [List.length_map]; exact hAl) (by rw [List.length_map, sclL_len])) (.cons (Has.t rfl) (.cons (Has.t rfl) .nil))) ((show _ = isTup [isMz n n (sumL n Am (sclL n n cK (oneL n))), isI 0] from by rw [vals_nz, vals_nz])))) ?_
      refine DrG.st (i := 8) [63] rfl rfl rfl (by kernel_rfl) (OKG.o rfl (OK1.ext (Has.t rfl) rfl)) ?_
      refine DrG.st (i := 9) [63] rfl rfl rfl (by kernel_rfl) (OKG.o rfl (OK1.ext (Has.t rfl) rfl)) ?_
      refine DrG.fin (n := 10) mixed (by kernel_rfl) (by kernel_rfl) (by kernel_rfl) ?_
      refine Ops.cv (Cv.wk (.cons (t := 1) (Has.t rfl) (.cons (t := 2) (Has.t rfl) (.cons (t := 3) (Has.t rfl) (.cons (t := 4) (Has.t rfl) (.cons (t := 5) (Has.t rfl) (.cons (t := 6) (Has.t rfl) (.cons (t := 7) (Has.t rfl) (.cons (t := 8) (Has.t rfl) (.cons (t := 27) (Has.t rfl) (.cons (t := 28) (Has.t rfl) (.cons (t := 29) (Has.t rfl) (.cons (t := 32) (Has.t rfl) (.cons (t := 33) (Has.t rfl) (.cons (t := 34) (Has.t rfl) (.cons (t := 35) (Has.t rfl) (.cons (t := 36) (Has.t rfl) (.cons (t := 37) (Has.t rfl) (.cons (t := 9) (Has.t rfl) (.cons (t := 39) (Has.t rfl) (.cons (t := 40) (Has.t rfl) (.cons (t := 41) (Has.t rfl) (.cons (t := 42) (Has.t rfl) (.cons (t := 43) (Has.t rfl) (.cons (t := 44) (Has.t rfl) (.cons (t := 38) (Has.t rfl) (.cons (t := 45) (Has.t rfl) (.cons (t := 46) (Has.t rfl) (.cons (t := 10) (Has.t rfl) (.cons (t := 47) (Has.t rfl) (.cons (t := 48) (Has.t rfl) (.cons (t := 49) (Has.t rfl) (.cons (t := 50) (Has.t rfl) (.cons (t := 51) (Has.t rfl) (.cons (t := 52) (Has.t rfl) (.cons (t := 53) (Has.t rfl) (.cons (t := 54) (Has.t rfl) (.cons (t := 55) (Has.t rfl) (.cons (t := 56) (Has.t rfl) (.cons (t := 57) (Has.t rfl) (.cons (t := 58) (Has.t rfl) (.cons (t := 59) (Has.t rfl) (.cons (t := 60) (Has.t rfl) (.cons (t := 61) (Has.t rfl) (.cons (t := 62) (Has.t rfl) (.cons (t := 63) (Has.t rfl) (.cons (t := 64) (Has.t rfl) (.cons (t := 65) (Has.t rfl) .nil)))))))))))))))))))))))))))))))))))))))))))))))) ?_
      refine st (OK1.call (zchar_must) (.cons (Has.t rfl) (.cons (Has.t rfl) .nil))) rfl ?_
      refine Ops.store (Has.t rfl) (Has.t rfl) (i := 2) rfl ty24 rfl rfl (Ss' := [_, _, _]) rfl (M' := [_, _, (some _, cellM [_, _, _]), _, _, _, _]) rfl ?_
      refine nl ?_
      refine At.bln ?_
      refine At.thn (hK12 _ _ ?_); clear hK12
      refine Tri.region ?_
      refine st (OK1.mv (Has.t rfl)) rfl ?_
      refine st (OK1.addI (Has.t rfl) (Has.cI 1 rfl) (by first | omega | assumption) (by first | omega | assumption)) rfl ?_
      refine st (OK1.as (Has.t rfl)) rfl ?_
      refine nl ?_
      refine At.thn ?_
      refine hK9 (⟨(k + 1, sumL n Am (sclL n n cK (oneL n))), by show 1 ≤ k + 1; omega, by show k + 1 ≤ n + 1; omega, by show _ = flM n (vals xs) (min (k + 1) n); rw [hAm, hMk2, hcK, Nat.min_eq_left (by omega)]; exact fl_next hk1 (by omega)⟩) _ _ ?_ (Cv.trans (Cv.drop ((.cons _ (.cons _ (.cons_cons _ (.cons_cons _ (.cons_cons _ (.cons_cons _ (.cons_cons _ .slnil))))))))) (Cv.mem (.cons (t := 8) (Has.t' rfl ?_) (.cons (t := 1) (Has.t rfl) (.cons (t := 2) (Has.t rfl) (.cons (t := 3) (Has.t rfl) (.cons (t := 4) (Has.t rfl) (.cons (t := 5) (Has.t rfl) (.cons (t := 6) (Has.t rfl) (.cons (t := 7) (Has.t rfl) .nil)))))))) ?_))
      · show n + 1 - (k + 1) < n + 1 - k; omega
      · exact isI_eq (by omega)
      · exact memQ_eq (by rw [Int.toNat_natCast, hcK]; exact qF_set hkn)
    · have hc2 := BP.f hc2
      refine Tri.skip ?_
      refine At.bln ?_
      refine At.thn (hK12 _ _ ?_); clear hK12
      refine Tri.region ?_
      refine st (OK1.mv (Has.t rfl)) rfl ?_
      refine st (OK1.addI (Has.t rfl) (Has.cI 1 rfl) (by first | omega | assumption) (by first | omega | assumption)) rfl ?_
      refine st (OK1.as (Has.t rfl)) rfl ?_
      refine nl ?_
      refine At.thn ?_
      refine hK9 (⟨(k + 1, Mk), by show 1 ≤ k + 1; omega, by show k + 1 ≤ n + 1; omega, by show _ = flM n (vals xs) (min (k + 1) n); rw [hMk, Nat.min_eq_right (by omega), Nat.min_eq_right (by omega)]⟩) _ _ ?_ (Cv.trans (Cv.drop ((.cons _ (.cons _ (.cons_cons _ (.cons_cons _ (.cons_cons _ (.cons_cons _ (.cons_cons _ .slnil))))))))) (Cv.mem (.cons (t := 8) (Has.t' rfl ?_) (.cons (t := 1) (Has.t rfl) (.cons (t := 2) (Has.t rfl) (.cons (t := 3) (Has.t rfl) (.cons (t := 4) (Has.t rfl) (.cons (t := 5) (Has.t rfl) (.cons (t := 6) (Has.t rfl) (.cons (t := 7) (Has.t rfl) .nil)))))))) ?_))
      · show n + 1 - (k + 1) < n + 1 - k; omega
      · exact isI_eq (by omega)
      · exact memQ_eq (by rw [Int.toNat_natCast, hcK]; exact qF_set hkn)
  · have hc1 := BP.f hc1
    have hkn : k = n + 1 := (by omega)
    refine Tri.exit ?_
    refine At.the ?_
    refine At.the ?_
    refine At.blh ?_
    refine At.thn (hK7 _ _ ?_); clear hK7
    refine Tri.cv (Cv.wk (.cons (t := 2) (Has.t rfl) (.cons (t := 3) (Has.t rfl) (.cons (t := 6) (Has.t rfl) (.cons (t := 7) (Has.t rfl) .nil))))) ?_
    refine Tri.seq fun K17 hK17 => ?_
    refine Tri.cv (Cv.freezeK (t := 6) (i := 1) (ys := (chL n (vals xs)).map nz) zc_len rfl rfl rfl (by rw [qF_len]; omega) (qF_fz hkn)) ?_
    refine Tri.memEq (M' := [_, _, _, _]) rfl ?_
    refine Tri.cv (Cv.wk (.cons (t := 2) (Has.t rfl) (.cons (t := 3) (Has.t rfl) (.cons (t := 6) (Has.t rfl) (.cons (t := 7) (Has.t rfl) .nil))))) ?_
    refine Tri.cv (Cv.wk (.cons (t := 3) (Has.t rfl) (.cons (t := 6) (Has.t rfl) (.cons (t := 7) (Has.t rfl) .nil)))) ?_
    refine Tri.dr ?_
    refine DrG.st (i := 0) [] rfl rfl rfl (by kernel_rfl) (OKG.o rfl (OK1.mv (Has.t rfl))) ?_
    refine DrG.st (i := 1) [67] rfl rfl rfl (by kernel_rfl) (OKG.o rfl (OK1.eq (OK1.call (zpoly_Norm (K := 1000) (by rw [vals_nz]; exact hcb.mono (by omega)) (by decide) (by rw [List.length_map, chL_len]; omega)) (.cons (Has.t rfl) .nil)) ((show _ = isP (chL n (vals xs)) from isPl_eq (by rw [vals_nz, chL_norm]))))) ?_
    refine DrG.st (i := 2) [] rfl rfl rfl (by kernel_rfl) (OKG.o rfl (OK1.load (Has.t rfl) (i := 0) rfl ty24 rfl (Ss' := [_, _, _]) rfl)) ?_
    refine DrG.st (i := 3) [68] rfl rfl rfl (by kernel_rfl) (OKG.o rfl (OK1.as (Has.t rfl))) ?_
    refine DrG.fin (n := 4) mixed (by kernel_rfl) (by kernel_rfl) (by kernel_rfl) ?_
    refine Ops.cv (Cv.wk (.cons (t := 3) (Has.t rfl) (.cons (t := 69) (Has.t rfl) (.cons (t := 2) (Has.t rfl) .nil)))) ?_
    refine Ops.store (Has.t rfl) (Has.t rfl) (i := 2) rfl ty24 rfl rfl (Ss' := [_, _, _]) rfl (M' := [_, _, (some _, cellM [_, _, _]), _]) rfl ?_
    refine nl ?_
    refine At.thn (hK17 _ _ ?_); clear hK17
    refine Tri.ret ?_
    refine rtN (.inl rfl) Tryz.results21 rfl rfl (.tmp (Has.t' rfl ?_) (.cell rfl (i := 2) rfl ty24 rfl ?_ .nil))
    · rfl
    · exact isMz_eq (by rw [hMk, hkn, Nat.min_eq_right (by omega)])
set_option maxHeartbeats 4000000 in
theorem zchar_Char {n K : Nat} {xs : List (Bool × List Nat)} (hx : Bd (vals xs) K) (hB : K + flB n K n + 2 * n ≤ 900) (hn : n ≤ 64) (hl : xs.length = n * n) : Ctr Tryz.prog 8 [isM (n : Int) (n : Int) xs] (isTup [isP (chL n (vals xs)), isI 0]) := by
  refine Ctr.intro Tryz.func8 rfl (by kernel_rfl) Tryz.ntmps8 rfl fun w0 F0 => ?_
  refine Tri.cv (Cv.wk (.cons (t := 0) (Has.t rfl) .nil)) ?_
  have hfo := formB_true hn hn hl
  have hfs : (formB (n : Int) (n : Int) xs.length && decide ((n : Int) = (n : Int))) = true := by rw [hfo]; simp
  refine Tri.seq fun K1 hK1 => ?_
  refine Tri.region ?_
  refine Ops.box (Has.t rfl) rfl fun b1 => ?_
  refine st (OK1.as (Has.cWK (k := 2) (fk := zc))) rfl ?_
  refine st (OK1.as (Has.cI 0 rfl)) rfl ?_
  refine nl ?_
  refine At.thn (hK1 _ _ ?_); clear hK1
  refine Tri.seq fun K2 hK2 => ?_
  refine Tri.seq fun K3 hK3 => ?_
  refine Tri.region ?_
  refine st (OK1.load (Has.t rfl) (i := 0) rfl ty24 rfl (Ss' := [_, _, _]) rfl) rfl ?_
  refine st (OK1.eq (OK1.call (zchar_square) (.cons (Has.t rfl) .nil)) ((show isB _ = isB true from isB_eq (hfs)))) rfl ?_
  refine st (OK1.not (Has.t rfl)) rfl ?_
  refine nl ?_
  refine At.thn (hK3 _ _ ?_); clear hK3
  refine Tri.cond (Has.t rfl) (fun hc1 => ?_) (fun hc1 => ?_)
  · have hc1 := BP.t hc1
    exfalso; simp at hc1
  · have hc1 := BP.f hc1
    refine Tri.skip ?_
    refine At.thn (hK2 _ _ ?_); clear hK2
    refine Tri.seq fun K4 hK4 => ?_
    refine Tri.region ?_
    refine st (OK1.load (Has.t rfl) (i := 0) rfl ty24 rfl (Ss' := [_, _, _]) rfl) rfl ?_
    refine st (OK1.call (zchar_steps hx hB hn hl) (.cons (Has.t rfl) .nil)) rfl ?_
    refine st (OK1.mv (Has.t rfl)) rfl ?_
    refine st (OK1.ext (Has.t rfl) rfl) rfl ?_
    refine st (OK1.ext (Has.t rfl) rfl) rfl ?_
    refine Ops.alloc [isI 0, isI 0, nilS] zero24 (fun _ _ => ⟨⟨rfl, by decide, by decide⟩, ⟨rfl, by decide, by decide⟩, rfl, trivial⟩) rfl fun b2 => ?_
    refine st (OK1.as (Has.t rfl)) rfl ?_
    refine Ops.store (Has.t rfl) (Has.t rfl) (i := 0) rfl ty24 rfl rfl (Ss' := [_, _, _]) rfl (M' := [(some _, cellM [_, _, _]), _]) rfl ?_
    refine nl ?_
    refine At.thn (hK4 _ _ ?_); clear hK4
    refine Tri.cv (Cv.wk (.cons (t := 2) (Has.t rfl) (.cons (t := 3) (Has.t rfl) (.cons (t := 4) (Has.t rfl) .nil)))) ?_
    refine Tri.seq fun K5 hK5 => ?_
    refine Tri.region ?_
    refine st (OK1.mv (Has.t rfl)) rfl ?_
    refine st (OK1.as (Has.t rfl)) rfl ?_
    refine st (OK1.as (Has.cI 0 rfl)) rfl ?_
    refine nl ?_
    refine At.thn (hK5 _ _ ?_); clear hK5
    refine Tri.ret ?_
    refine rtN (.inl rfl) Tryz.results8 rfl rfl (.tmp (Has.t' rfl ?_) (.tmp (Has.t' rfl ?_) .nil))
    · rfl
    · rfl
end Go.Proofs.YtkgipdidomikbaaGreat
/- Contracts: contents, values. -/
namespace Go.Proofs.YtkgipdidomikbaaGreat
open Go.En Go.RowKit
set_option linter.unusedVariables false
set_option maxRecDepth 10000
open Go.Nt
open Go.Pz
set_option maxHeartbeats 4000000 in
theorem zpoly_Of {xs : List Int} (hn : xs.length ≤ 400000) : Ctr Tryz.prog 15 [SlM isI xs] (isP (pnorm xs)) := by
  refine Ctr.intro Tryz.func15 rfl (by kernel_rfl) Tryz.ntmps15 rfl fun w0 F0 => ?_
  refine Tri.cv (Cv.wk (.cons (t := 0) (Has.t rfl) .nil)) ?_
  refine Tri.fact (Has.lenLt (Has.t (t := 0) rfl)) fun lt0 => ?_
  refine Tri.fact (Has.okI (Has.t (t := 0) rfl)) fun hr => ?_
  refine Tri.seq fun K1 hK1 => ?_
  refine Tri.region ?_
  refine st (OK1.as (Has.cWK (k := 2) (fk := zc))) rfl ?_
  refine nl ?_
  refine At.thn (hK1 _ _ ?_); clear hK1
  refine Tri.seq fun K2 hK2 => ?_
  refine Tri.region ?_
  refine Ops.cv (Cv.grow0K (α := Bool × List Nat) zc) ?_
  refine st (OK1.as (Has.cGr (α := Bool × List Nat))) rfl ?_
  refine nl ?_
  refine At.thn (hK2 _ _ ?_); clear hK2
  refine Tri.seq fun K3 hK3 => ?_
  refine Tri.seq fun K4 hK4 => ?_
  refine Tri.region ?_
  refine st (OK1.mv (Has.t rfl)) rfl ?_
  refine st (OK1.len sl70 (Has.t rfl)) rfl ?_
  refine st (OK1.mv (Has.cI 0 rfl)) rfl ?_
  refine nl ?_
  refine At.thn (hK4 _ _ ?_); clear hK4
  refine Tri.block ?_
  refine Tri.loopF [2, 6, 7] (fun (z : { z : Nat × Gr (Bool × List Nat) // z.1 ≤ xs.length }) => match z with | ⟨(i, g), hI⟩ => [(8, isI (i : Int)), (3, isGr g ((xs.take i).map nz).length)]) (fun M => fun (z : { z : Nat × Gr (Bool × List Nat) // z.1 ≤ xs.length }) => match z with | ⟨(i, g), hI⟩ => [grMK zc g ((xs.take i).map nz)]) (fun (z : { z : Nat × Gr (Bool × List Nat) // z.1 ≤ xs.length }) => match z with | ⟨(i, g), hI⟩ => xs.length - i) (⟨(0, Gr.nil), Nat.zero_le _⟩) (Cv.mem (.cons (t := 8) (Has.t' rfl ?_) (.cons (t := 3) (Has.t' rfl ?_) (.cons (t := 2) (Has.t rfl) (.cons (t := 6) (Has.t rfl) (.cons (t := 7) (Has.t rfl) .nil))))) ?_) ?_
  · rfl
  · rfl
  · rfl
  rintro ⟨⟨i, g⟩, hI⟩ K5 hK5
  refine Tri.cv (Cv.wk (.cons (t := 8) (Has.t rfl) (.cons (t := 3) (Has.t rfl) (.cons (t := 2) (Has.t rfl) (.cons (t := 6) (Has.t rfl) (.cons (t := 7) (Has.t rfl) .nil)))))) ?_
  refine Tri.memEq (M' := [grMK zc g ((xs.take i).map nz)]) rfl ?_
  simp only [] at hI
  have hyl : ((xs.take i).map nz).length = i := by rw [List.length_map, List.length_take]; omega
  refine Tri.seq fun K6 hK6 => ?_
  refine Tri.region ?_
  refine st (OK1.ltI (Has.t rfl) (Has.t rfl)) rfl ?_
  refine nl ?_
  refine At.thn (hK6 _ _ ?_); clear hK6
  refine Tri.seq fun K7 hK7 => ?_
  refine Tri.cond (Has.t rfl) (fun hc1 => ?_) (fun hc1 => ?_)
  · have hc1 := BP.t hc1
    refine Tri.skip ?_
    refine At.thn (hK7 _ _ ?_); clear hK7
    refine Tri.seq fun K8 hK8 => ?_
    refine Tri.block ?_
    refine Tri.seq fun K9 hK9 => ?_
    refine Tri.region ?_
    refine st (OK1.ixP sl70 ty2 (Has.t rfl) (Has.t rfl) ⟨by omega, by omega⟩ (getD_some (d := 0) (by omega))) rfl ?_
    refine st (OK1.loadP1 (Has.t rfl) ty2) rfl ?_
    refine st (OK1.as (Has.t rfl)) rfl ?_
    refine nl ?_
    refine At.thn (hK9 _ _ ?_); clear hK9
    refine Tri.region ?_
    refine st (OK1.mv (Has.t rfl)) rfl ?_
    refine st (OK1.mv (Has.t rfl)) rfl ?_
    refine st (OK1.eq (OK1.call (zint_Of) (.cons (Has.t rfl) .nil)) ((show isZ _ = Flat (zc (nz (cf xs i))) from rfl))) rfl ?_
    refine st (OK1.buildS [isB false, SlM isU []] sl32 ty61 zero61 (fun _ _ => ⟨rfl, nilM _ _, trivial⟩) rfl rfl (.cons (Has.t rfl) rfl rfl rfl .nil) rfl (S := SlK 2 zc [nz (cf xs i)]) rfl) rfl ?_
    refine Ops.appendGK (fk := zc) (u := (false, [])) zc_len (by decide) (fun _ => inferInstance) sl32 ty61 zero61 (fun _ _ => ⟨rfl, nilM _ _, trivial⟩) by61 (Has.t rfl) (i := 0) rfl (Has.t rfl) (by rw [hyl]; show i + 1 ≤ _; omega) (by simp) rfl fun gr1 => ?_
    refine Ops.memEq (M' := [grMK _ _ _]) rfl ?_
    refine st (OK1.as (Has.t rfl)) rfl ?_
    refine nl ?_
    refine At.bln ?_
    refine At.thn (hK8 _ _ ?_); clear hK8
    refine Tri.region ?_
    refine st (OK1.addI (Has.t rfl) (Has.cI 1 rfl) (by omega) (by omega)) rfl ?_
    refine st (OK1.mv (Has.t rfl)) rfl ?_
    refine nl ?_
    refine At.thn ?_
    refine hK5 (⟨(i + 1, gr1), by show i + 1 ≤ _; omega⟩) _ _ ?_ (Cv.mem (.cons (t := 8) (Has.t' rfl ?_) (.cons (t := 3) (Has.t' rfl ?_) (.cons (t := 2) (Has.t rfl) (.cons (t := 6) (Has.t rfl) (.cons (t := 7) (Has.t rfl) .nil))))) ?_)
    · show xs.length - (i + 1) < xs.length - i; omega
    · exact isI_eq (by omega)
    · exact isGr_eq (by rw [← take_map_succ _ _ (by omega), List.length_append])
    · exact grMK_eq (take_map_succ _ _ (by omega))
  · have hc1 := BP.f hc1
    refine Tri.exit ?_
    refine At.the ?_
    refine At.the ?_
    refine At.blh ?_
    refine At.thn (hK3 _ _ ?_); clear hK3
    refine Tri.seq fun K10 hK10 => ?_
    refine Tri.cv (Cv.freezeGK (t := 3) (i := 0) (ys := (xs.take i).map nz) zc_len rfl rfl rfl) ?_
    refine Tri.memEq (M' := []) rfl ?_
    refine Tri.cv (Cv.wk (.cons (t := 2) (Has.t rfl) (.cons (t := 6) (Has.t rfl) (.cons (t := 7) (Has.t rfl) (.cons (t := 8) (Has.t rfl) (.cons (t := 3) (Has.t rfl) (.cons (t := 9) (Has.t rfl) .nil))))))) ?_
    refine Tri.region ?_
    refine st (OK1.mv (Has.t rfl)) rfl ?_
    refine st (OK1.call (zpoly_Norm (K := 1) (by rw [vals_nz, show xs.take i = xs from List.take_of_length_le (by omega)]; exact bd64 hr) (by omega) (by rw [List.length_map, List.length_take]; omega)) (.cons (Has.t rfl) .nil)) rfl ?_
    refine st (OK1.as (Has.t rfl)) rfl ?_
    refine nl ?_
    refine At.thn (hK10 _ _ ?_); clear hK10
    refine Tri.cv (Cv.wk (.cons (t := 2) (Has.t rfl) .nil)) ?_
    refine Tri.ret ?_
    refine rt1 (.inl rfl) Tryz.results15 rfl (.tmp (Has.t' rfl ?_) .nil)
    all_goals (exact isP_eq (by rw [vals_nz, show xs.take i = xs from List.take_of_length_le (by omega)]))
end Go.Proofs.YtkgipdidomikbaaGreat
/- Contracts: the document's answers on polynomials. -/
namespace Go.Proofs.YtkgipdidomikbaaGreat
open Go.En Go.RowKit
set_option linter.unusedVariables false
set_option maxRecDepth 10000
open Go.Nt
open Go.Pz
set_option maxHeartbeats 4000000 in
theorem ref10_Few {xs : List (Bool × List Nat)} {n w : Int} : Ctr Tryz.prog 16 [SlK 2 zc xs, isI n, isI w] (isB (fewB xs n w)) := by
  refine Ctr.intro Tryz.func16 rfl (by kernel_rfl) Tryz.ntmps16 rfl fun w0 F0 => ?_
  refine Tri.cv (Cv.wk (.cons (t := 0) (Has.t rfl) (.cons (t := 1) (Has.t rfl) (.cons (t := 2) (Has.t rfl) .nil)))) ?_
  refine Tri.fact (Has.lenLt (Has.t (t := 0) rfl)) fun lt0 => ?_
  refine Tri.fact (Has.rngI (Has.t (t := 1) rfl)) fun lt1 => ?_
  refine Tri.fact (Has.rngI (Has.t (t := 2) rfl)) fun lt2 => ?_
  refine Tri.seq fun K1 hK1 => ?_
  refine Tri.region ?_
  refine st (OK1.as (Has.cB false)) rfl ?_
  refine nl ?_
  refine At.thn (hK1 _ _ ?_); clear hK1
  refine Tri.seq fun K2 hK2 => ?_
  refine Tri.seq fun K3 hK3 => ?_
  refine Tri.region ?_
  refine st (OK1.as (Has.cI 0 rfl)) rfl ?_
  refine nl ?_
  refine At.thn (hK3 _ _ ?_); clear hK3
  refine Tri.block ?_
  refine Tri.loopF [0, 1, 2] (fun (z : { i : Nat // i ≤ xs.length ∧ i ≤ 100 ∧ ∀ j, j < i → ((xs.getD j (false, [])).2.length : Int) ≤ w }) => match z with | ⟨i, hi⟩ => [(7, isI (i : Int))]) (fun M => fun (z : { i : Nat // i ≤ xs.length ∧ i ≤ 100 ∧ ∀ j, j < i → ((xs.getD j (false, [])).2.length : Int) ≤ w }) => match z with | ⟨i, hi⟩ => []) (fun (z : { i : Nat // i ≤ xs.length ∧ i ≤ 100 ∧ ∀ j, j < i → ((xs.getD j (false, [])).2.length : Int) ≤ w }) => match z with | ⟨i, hi⟩ => xs.length - i) (⟨0, Nat.zero_le _, by omega, fun j h => absurd h (Nat.not_lt_zero _)⟩) (Cv.mem (.cons (t := 7) (Has.t' rfl ?_) (.cons (t := 0) (Has.t rfl) (.cons (t := 1) (Has.t rfl) (.cons (t := 2) (Has.t rfl) .nil)))) ?_) ?_
  · rfl
  · rfl
  rintro ⟨i, hi, h1, hj⟩ K4 hK4
  refine Tri.cv (Cv.wk (.cons (t := 7) (Has.t rfl) (.cons (t := 0) (Has.t rfl) (.cons (t := 1) (Has.t rfl) (.cons (t := 2) (Has.t rfl) .nil))))) ?_
  refine Tri.memEq (M' := []) rfl ?_
  refine Tri.seq fun K5 hK5 => ?_
  refine Tri.seq fun K6 hK6 => ?_
  refine Tri.region ?_
  refine st (OK1.mv (Has.t rfl)) rfl ?_
  refine st (OK1.mv (Has.t rfl)) rfl ?_
  refine st (OK1.len sl22 (Has.t rfl)) rfl ?_
  refine st (OK1.ltI (Has.t rfl) (Has.t rfl)) rfl ?_
  refine st (OK1.mv (Has.t rfl)) rfl ?_
  refine stT rfl rfl (fun hg => have hg' := BP.t hg; OK1.mv (Has.t rfl)) rfl ?_
  refine stT rfl rfl (fun hg => have hg' := BP.t hg; OK1.ltI (Has.g rfl hg) (Has.cI 100 rfl)) rfl ?_
  refine st (OK1.pickAnd (Has.t rfl) (fun h => Has.g rfl h)) rfl ?_
  refine nl ?_
  refine At.thn (hK6 _ _ ?_); clear hK6
  refine Tri.cond (Has.t rfl) (fun hc1 => ?_) (fun hc1 => ?_)
  · have hc1 := BP.t hc1
    refine Tri.skip ?_
    refine At.thn (hK5 _ _ ?_); clear hK5
    refine Tri.seq fun K7 hK7 => ?_
    refine Tri.block ?_
    refine Tri.seq fun K8 hK8 => ?_
    refine Tri.region ?_
    refine st (OK1.mv (Has.t rfl)) rfl ?_
    refine st (OK1.mv (Has.t rfl)) rfl ?_
    refine st (OK1.ixK sl22 ty61 (Has.t rfl) (Has.t rfl) zc_len ⟨by omega, by omega⟩ (getD_some (d := (false, [])) (by omega))) rfl ?_
    refine st (OK1.fieldAddrP (Has.t rfl) fld61_1 ty59 (Ss' := [_]) rfl) rfl ?_
    refine st (OK1.loadP1 (Has.t rfl) ty59) rfl ?_
    refine st (OK1.len sl59 (Has.t rfl)) rfl ?_
    refine st (OK1.mv (Has.t rfl)) rfl ?_
    refine st (OK1.gtI (Has.t rfl) (Has.t rfl)) rfl ?_
    refine nl ?_
    refine At.thn (hK8 _ _ ?_); clear hK8
    refine Tri.cond (Has.t rfl) (fun hc2 => ?_) (fun hc2 => ?_)
    · have hc2 := BP.t hc2
      have hNo : ¬ ((xs.getD i (false, [])).2.length : Int) ≤ w := (by simp only [Int.toNat_natCast] at hc2; omega)
      refine Tri.seq fun K9 hK9 => ?_
      refine Tri.region ?_
      refine st (OK1.as (Has.cB false)) rfl ?_
      refine nl ?_
      refine At.thn (hK9 _ _ ?_); clear hK9
      refine Tri.ret ?_
      refine At.blr ?_
      refine At.thr ?_
      refine At.thr ?_
      refine At.blr ?_
      refine At.thr ?_
      refine rt1 (.inl rfl) Tryz.results16 rfl (.tmp (Has.t' rfl ?_) .nil)
      all_goals (exact isB_eq (fewB_no (by omega) (by omega) hNo).symm)
    · have hc2 := BP.f hc2
      have hLe : ((xs.getD i (false, [])).2.length : Int) ≤ w := (by simp only [Int.toNat_natCast] at hc2; omega)
      refine Tri.skip ?_
      refine At.bln ?_
      refine At.thn (hK7 _ _ ?_); clear hK7
      refine Tri.region ?_
      refine st (OK1.mv (Has.t rfl)) rfl ?_
      refine st (OK1.addI (Has.t rfl) (Has.cI 1 rfl) (by omega) (by omega)) rfl ?_
      refine st (OK1.as (Has.t rfl)) rfl ?_
      refine nl ?_
      refine At.thn ?_
      refine hK4 (⟨i + 1, by omega, by omega, fun j h => by rcases Nat.lt_or_ge j i with h2 | h2; exact hj j h2; rw [show j = i by omega]; exact hLe⟩) _ _ ?_ (Cv.mem (.cons (t := 7) (Has.t' rfl ?_) (.cons (t := 0) (Has.t rfl) (.cons (t := 1) (Has.t rfl) (.cons (t := 2) (Has.t rfl) .nil)))) ?_)
      · show xs.length - (i + 1) < xs.length - i; omega
      · exact isI_eq (by omega)
      · rfl
  · have hc1 := BP.f hc1
    refine Tri.exit ?_
    refine At.the ?_
    refine At.the ?_
    refine At.blh ?_
    refine At.thn (hK2 _ _ ?_); clear hK2
    refine Tri.cv (Cv.wk (.cons (t := 0) (Has.t rfl) (.cons (t := 1) (Has.t rfl) .nil))) ?_
    refine Tri.seq fun K10 hK10 => ?_
    refine Tri.region ?_
    refine st (OK1.mv (Has.t rfl)) rfl ?_
    refine st (OK1.len sl22 (Has.t rfl)) rfl ?_
    refine st (OK1.mv (Has.t rfl)) rfl ?_
    refine st (OK1.leI (Has.t rfl) (Has.t rfl)) rfl ?_
    refine st (OK1.as (Has.t rfl)) rfl ?_
    refine nl ?_
    refine At.thn (hK10 _ _ ?_); clear hK10
    refine Tri.cv (Cv.wk (.cons (t := 6) (Has.t rfl) .nil)) ?_
    refine Tri.ret ?_
    refine rt1 (.inl rfl) Tryz.results16 rfl (.tmp (Has.t' rfl ?_) .nil)
    all_goals (exact isB_eq (fewB_yes (by omega) hj).symm)
end Go.Proofs.YtkgipdidomikbaaGreat
/- Contracts: the document's matrices. -/
namespace Go.Proofs.YtkgipdidomikbaaGreat
open Go.En Go.RowKit
set_option linter.unusedVariables false
set_option maxRecDepth 10000
open Go.Nt
open Go.Pz
open Go.Mz
open Go.Dt
set_option maxHeartbeats 4000000 in
theorem ref11_Formed {r c : Int} {xs : List (Bool × List Nat)} : Ctr Tryz.prog 17 [isM r c xs] (isB (formB r c xs.length)) := by
  refine Ctr.intro Tryz.func17 rfl (by kernel_rfl) Tryz.ntmps17 rfl fun w0 F0 => ?_
  refine Tri.cv (Cv.wk (.cons (t := 0) (Has.t rfl) .nil)) ?_
  refine Tri.seq fun K1 hK1 => ?_
  refine Tri.region ?_
  refine Ops.box (Has.t rfl) rfl fun b1 => ?_
  refine st (OK1.as (Has.cB false)) rfl ?_
  refine nl ?_
  refine At.thn (hK1 _ _ ?_); clear hK1
  refine Tri.seq fun K2 hK2 => ?_
  refine Tri.region ?_
  refine st (OK1.fieldAddr (Has.t rfl) fld24_0 ty3) rfl ?_
  refine st (OK1.load1 (Has.t rfl) (i := 0) rfl ty3 rfl) rfl ?_
  refine st (OK1.geI (Has.t rfl) (Has.cI 0 rfl)) rfl ?_
  refine st (OK1.mv (Has.t rfl)) rfl ?_
  refine stT rfl rfl (fun hg => have hg' := BP.t hg; OK1.fieldAddr (Has.t rfl) fld24_0 ty3) rfl ?_
  refine stT rfl rfl (fun hg => have hg' := BP.t hg; OK1.load1 (Has.g rfl hg) (i := 0) rfl ty3 rfl) rfl ?_
  refine stT rfl rfl (fun hg => have hg' := BP.t hg; OK1.leI (Has.g rfl hg) (Has.cI 64 rfl)) rfl ?_
  refine st (OK1.pickAnd (Has.t rfl) (fun h => Has.g rfl h)) rfl ?_
  refine st (OK1.mv (Has.t rfl)) rfl ?_
  refine stT rfl rfl (fun hg => have hg' := BP.t hg; OK1.fieldAddr (Has.t rfl) fld24_1 ty3) rfl ?_
  refine stT rfl rfl (fun hg => have hg' := BP.t hg; OK1.load1 (Has.g rfl hg) (i := 0) rfl ty3 rfl) rfl ?_
  refine stT rfl rfl (fun hg => have hg' := BP.t hg; OK1.geI (Has.g rfl hg) (Has.cI 0 rfl)) rfl ?_
  refine st (OK1.pickAnd (Has.t rfl) (fun h => Has.g rfl h)) rfl ?_
  refine st (OK1.mv (Has.t rfl)) rfl ?_
  refine stT rfl rfl (fun hg => have hg' := BP.t hg; OK1.fieldAddr (Has.t rfl) fld24_1 ty3) rfl ?_
  refine stT rfl rfl (fun hg => have hg' := BP.t hg; OK1.load1 (Has.g rfl hg) (i := 0) rfl ty3 rfl) rfl ?_
  refine stT rfl rfl (fun hg => have hg' := BP.t hg; OK1.leI (Has.g rfl hg) (Has.cI 64 rfl)) rfl ?_
  refine st (OK1.pickAnd (Has.t rfl) (fun h => Has.g rfl h)) rfl ?_
  refine st (OK1.mv (Has.t rfl)) rfl ?_
  refine stT rfl rfl (fun hg => have hg' := BP.t hg; OK1.fieldAddr (Has.t rfl) fld24_2 ty22) rfl ?_
  refine stT rfl rfl (fun hg => have hg' := BP.t hg; OK1.load1 (Has.g rfl hg) (i := 0) rfl ty22 rfl) rfl ?_
  refine stT rfl rfl (fun hg => have hg' := BP.t hg; OK1.len sl22 (Has.g rfl hg)) rfl ?_
  refine stT rfl rfl (fun hg => have hg' := BP.t hg; OK1.fieldAddr (Has.t rfl) fld24_0 ty3) rfl ?_
  refine stT rfl rfl (fun hg => have hg' := BP.t hg; OK1.load1 (Has.g rfl hg) (i := 0) rfl ty3 rfl) rfl ?_
  refine stT rfl rfl (fun hg => have hg' := BP.t hg; OK1.fieldAddr (Has.t rfl) fld24_1 ty3) rfl ?_
  refine stT rfl rfl (fun hg => have hg' := BP.t hg; OK1.load1 (Has.g rfl hg) (i := 0) rfl ty3 rfl) rfl ?_
  refine stT rfl rfl (fun hg => have hg' := BP.t hg; OK1.mulI (Has.g rfl hg) (Has.g rfl hg) (by have := mul_bnd ⟨⟨hg'.1.1.1, hg'.1.1.2⟩, hg'.1.2, hg'.2⟩; omega) (by have := mul_bnd ⟨⟨hg'.1.1.1, hg'.1.1.2⟩, hg'.1.2, hg'.2⟩; omega)) rfl ?_
  refine stT rfl rfl (fun hg => have hg' := BP.t hg; OK1.eqI (Has.g rfl hg) (Has.g rfl hg)) rfl ?_
  refine st (OK1.pickAnd (Has.t rfl) (fun h => Has.g rfl h)) rfl ?_
  refine st (OK1.as (Has.t rfl)) rfl ?_
  refine nl ?_
  refine At.thn (hK2 _ _ ?_); clear hK2
  refine Tri.cv (Cv.wk (.cons (t := 2) (Has.t rfl) .nil)) ?_
  refine Tri.ret ?_
  refine rt1 (.inl rfl) Tryz.results17 rfl (.tmp (Has.t' rfl ?_) .nil)
  all_goals (exact isB_eq (by unfold formB; simp only [Bool.and_assoc]))
set_option maxHeartbeats 4000000 in
theorem ref11_Few {r c n w : Int} {xs : List (Bool × List Nat)} : Ctr Tryz.prog 5 [isM r c xs, isI n, isI w] (isB (decide (r ≤ n) && decide (c ≤ n) && fewB xs 100 w)) := by
  refine Ctr.intro Tryz.func5 rfl (by kernel_rfl) Tryz.ntmps5 rfl fun w0 F0 => ?_
  refine Tri.cv (Cv.wk (.cons (t := 0) (Has.t rfl) (.cons (t := 1) (Has.t rfl) (.cons (t := 2) (Has.t rfl) .nil)))) ?_
  refine Tri.fact (Has.rngI (Has.t (t := 1) rfl)) fun lt1 => ?_
  refine Tri.fact (Has.rngI (Has.t (t := 2) rfl)) fun lt2 => ?_
  refine Tri.seq fun K1 hK1 => ?_
  refine Tri.region ?_
  refine Ops.box (Has.t rfl) rfl fun b1 => ?_
  refine st (OK1.as (Has.cB false)) rfl ?_
  refine nl ?_
  refine At.thn (hK1 _ _ ?_); clear hK1
  refine Tri.seq fun K2 hK2 => ?_
  refine Tri.region ?_
  refine st (OK1.fieldAddr (Has.t rfl) fld24_0 ty3) rfl ?_
  refine st (OK1.load1 (Has.t rfl) (i := 0) rfl ty3 rfl) rfl ?_
  refine st (OK1.mv (Has.t rfl)) rfl ?_
  refine st (OK1.leI (Has.t rfl) (Has.t rfl)) rfl ?_
  refine st (OK1.mv (Has.t rfl)) rfl ?_
  refine stT rfl rfl (fun hg => have hg' := BP.t hg; OK1.fieldAddr (Has.t rfl) fld24_1 ty3) rfl ?_
  refine stT rfl rfl (fun hg => have hg' := BP.t hg; OK1.load1 (Has.g rfl hg) (i := 0) rfl ty3 rfl) rfl ?_
  refine stT rfl rfl (fun hg => have hg' := BP.t hg; OK1.mv (Has.t rfl)) rfl ?_
  refine stT rfl rfl (fun hg => have hg' := BP.t hg; OK1.leI (Has.g rfl hg) (Has.g rfl hg)) rfl ?_
  refine st (OK1.pickAnd (Has.t rfl) (fun h => Has.g rfl h)) rfl ?_
  refine st (OK1.mv (Has.t rfl)) rfl ?_
  refine stT rfl rfl (fun hg => have hg' := BP.t hg; OK1.fieldAddr (Has.t rfl) fld24_2 ty22) rfl ?_
  refine stT rfl rfl (fun hg => have hg' := BP.t hg; OK1.load1 (Has.g rfl hg) (i := 0) rfl ty22 rfl) rfl ?_
  refine stT rfl rfl (fun hg => have hg' := BP.t hg; OK1.mv (Has.t rfl)) rfl ?_
  refine stT rfl rfl (fun hg => have hg' := BP.t hg; OK1.call (ref10_Few) (.cons (Has.g rfl hg) (.cons (Has.cI 100 rfl) (.cons (Has.g rfl hg) .nil)))) rfl ?_
  refine st (OK1.pickAnd (Has.t rfl) (fun h => Has.g rfl h)) rfl ?_
  refine st (OK1.as (Has.t rfl)) rfl ?_
  refine nl ?_
  refine At.thn (hK2 _ _ ?_); clear hK2
  refine Tri.cv (Cv.wk (.cons (t := 6) (Has.t rfl) .nil)) ?_
  refine Tri.ret ?_
  refine rt1 (.inl rfl) Tryz.results5 rfl (.tmp (Has.t' rfl ?_) .nil)
  all_goals (rfl)
end Go.Proofs.YtkgipdidomikbaaGreat
/- Contracts: layer 26's laws: what a program that does nothing does not answer. -/
namespace Go.Proofs.YtkgipdidomikbaaGreat
open Go.En Go.RowKit
set_option linter.unusedVariables false
set_option maxRecDepth 10000
open Go.Nt
open Go.Pz
open Go.Mz
open Go.Hn
open Go.Hp
open Go.Dt
open Go.Ch
theorem aw26_b : Bd [1, 2, 3, 4] 1 := bd64 (by decide)
theorem aw26_tab : tab (2 * 2) 2 (fun i k => cf [1, 2, 3, 4] (i * 2 + k)) = [1, 2, 3, 4] := by decide
theorem aw26_q : Bd [-2, -5, 1] 1 := bd64 (by decide)
theorem aw26_n : pnorm [-2, -5, 1] = [-2, -5, 1] := by decide
theorem aw26_s : psub [-2, -5, 1] [-2, -5, 1] = [] := by decide
theorem det_2 (A : MatF) : det 2 A = A 0 0 * A 1 1 - A 0 1 * A 1 0 := by
  show 0 + 1 * (A 0 0 * (0 + 1 * (A 1 1 * 1))) + (-1) * (A 0 1 * (0 + 1 * (A 1 0 * 1))) = _
  grind
theorem aw26 : chL 2 [1, 2, 3, 4] = [-2, -5, 1] := by
  have h : ∀ i, i < 3 → cp 2 (mf 2 [1, 2, 3, 4]) i = cf [-2, -5, 1] i := pe_inj fun x => by
    rw [← cp_ev, det_2]
    show (1 * x + -1) * (1 * x + -4) - (0 * x + -2) * (0 * x + -3) = 0 + -2 * x ^ 0 + -5 * x ^ 1 + 1 * x ^ 2
    grind
  unfold chL
  show [cp 2 (mf 2 [1, 2, 3, 4]) 0, cp 2 (mf 2 [1, 2, 3, 4]) 1, cp 2 (mf 2 [1, 2, 3, 4]) 2] = _
  rw [h 0 (by decide), h 1 (by decide), h 2 (by decide)]; rfl
set_option maxHeartbeats 4000000 in
theorem law26_square {r c : Int} {xs : List (Bool × List Nat)} : Ctr Tryz.prog 6 [isM r c xs] (isB (formB r c xs.length && decide (r = c))) := by
  refine Ctr.intro Tryz.func6 rfl (by kernel_rfl) Tryz.ntmps6 rfl fun w0 F0 => ?_
  refine Tri.cv (Cv.wk (.cons (t := 0) (Has.t rfl) .nil)) ?_
  refine Tri.seq fun K1 hK1 => ?_
  refine Tri.region ?_
  refine Ops.box (Has.t rfl) rfl fun b1 => ?_
  refine st (OK1.as (Has.cB false)) rfl ?_
  refine nl ?_
  refine At.thn (hK1 _ _ ?_); clear hK1
  refine Tri.seq fun K2 hK2 => ?_
  refine Tri.region ?_
  refine st (OK1.load (Has.t rfl) (i := 0) rfl ty24 rfl (Ss' := [_, _, _]) rfl) rfl ?_
  refine st (OK1.call (ref11_Formed) (.cons (Has.t rfl) .nil)) rfl ?_
  refine st (OK1.mv (Has.t rfl)) rfl ?_
  refine stT rfl rfl (fun hg => have hg' := BP.t hg; OK1.fieldAddr (Has.t rfl) fld24_0 ty3) rfl ?_
  refine stT rfl rfl (fun hg => have hg' := BP.t hg; OK1.load1 (Has.g rfl hg) (i := 0) rfl ty3 rfl) rfl ?_
  refine stT rfl rfl (fun hg => have hg' := BP.t hg; OK1.fieldAddr (Has.t rfl) fld24_1 ty3) rfl ?_
  refine stT rfl rfl (fun hg => have hg' := BP.t hg; OK1.load1 (Has.g rfl hg) (i := 0) rfl ty3 rfl) rfl ?_
  refine stT rfl rfl (fun hg => have hg' := BP.t hg; OK1.eqI (Has.g rfl hg) (Has.g rfl hg)) rfl ?_
  refine st (OK1.pickAnd (Has.t rfl) (fun h => Has.g rfl h)) rfl ?_
  refine st (OK1.as (Has.t rfl)) rfl ?_
  refine nl ?_
  refine At.thn (hK2 _ _ ?_); clear hK2
  refine Tri.cv (Cv.wk (.cons (t := 2) (Has.t rfl) .nil)) ?_
  refine Tri.ret ?_
  refine rt1 (.inl rfl) Tryz.results6 rfl (.tmp (Has.t' rfl ?_) .nil)
  all_goals (rfl)
set_option maxHeartbeats 4000000 in
theorem law26_awake  : Ctr Tryz.prog 4 [] (isB true) := by
  refine Ctr.intro Tryz.func4 rfl (by kernel_rfl) Tryz.ntmps4 rfl fun w0 F0 => ?_
  refine Tri.cv (Cv.wk .nil) ?_
  refine Tri.seq fun K1 hK1 => ?_
  refine Tri.region ?_
  refine st (OK1.as (Has.cB false)) rfl ?_
  refine nl ?_
  refine At.thn (hK1 _ _ ?_); clear hK1
  refine Tri.seq fun K2 hK2 => ?_
  refine Tri.region ?_
  refine st (OK1.buildS [isI 0, isI 0, isI 0, isI 0] sl70 ty2 zero2 (fun _ _ => ⟨⟨rfl, by decide, by decide⟩, ⟨rfl, by decide, by decide⟩, ⟨rfl, by decide, by decide⟩, ⟨rfl, by decide, by decide⟩, trivial⟩) rfl rfl (.cons (Has.cI 1 rfl) rfl rfl rfl (.cons (Has.cI 2 rfl) rfl rfl rfl (.cons (Has.cI 3 rfl) rfl rfl rfl (.cons (Has.cI 4 rfl) rfl rfl rfl .nil)))) rfl (S := SlM isI [_, _, _, _]) rfl) rfl ?_
  refine st (OK1.eq (OK1.call (zmat_Of (R := 2) (C := 2) (l := [1, 2, 3, 4]) (by decide) (by decide) rfl (by decide)) (.cons (Has.cI 2 rfl) (.cons (Has.cI 2 rfl) (.cons (Has.t rfl) .nil)))) ((show isTup [isMz 2 2 _, isI 0] = isTup [isMz 2 2 [1, 2, 3, 4], isI 0] from by rw [aw26_tab]))) rfl ?_
  refine st (OK1.mv (Has.t rfl)) rfl ?_
  refine st (OK1.ext (Has.t rfl) rfl) rfl ?_
  refine st (OK1.ext (Has.t rfl) rfl) rfl ?_
  refine Ops.alloc [isI 0, isI 0, nilS] zero24 (fun _ _ => ⟨⟨rfl, by decide, by decide⟩, ⟨rfl, by decide, by decide⟩, rfl, trivial⟩) rfl fun b1 => ?_
  refine Ops.store (Has.t rfl) (Has.t rfl) (i := 0) rfl ty24 rfl rfl (Ss' := [_, _, _]) rfl (M' := [(some _, cellM [_, _, _])]) rfl ?_
  refine st (OK1.as (Has.t rfl)) rfl ?_
  refine nl ?_
  refine At.thn (hK2 _ _ ?_); clear hK2
  refine Tri.cv (Cv.wk (.cons (t := 0) (Has.t rfl) (.cons (t := 1) (Has.t rfl) .nil))) ?_
  refine Tri.seq fun K3 hK3 => ?_
  refine Tri.region ?_
  refine st (OK1.load (Has.t rfl) (i := 0) rfl ty24 rfl (Ss' := [_, _, _]) rfl) rfl ?_
  refine st (OK1.eq (OK1.call (zchar_Char (n := 2) (K := 1) (xs := [1, 2, 3, 4].map nz) (by rw [vals_nz]; exact aw26_b) (by decide) (by decide) rfl) (.cons (Has.t rfl) .nil)) ((show _ = isTup [isP [-2, -5, 1], isI 0] from by rw [vals_nz, aw26]))) rfl ?_
  refine st (OK1.mv (Has.t rfl)) rfl ?_
  refine st (OK1.ext (Has.t rfl) rfl) rfl ?_
  refine st (OK1.ext (Has.t rfl) rfl) rfl ?_
  refine st (OK1.as (Has.t rfl)) rfl ?_
  refine st (OK1.as (Has.t rfl)) rfl ?_
  refine nl ?_
  refine At.thn (hK3 _ _ ?_); clear hK3
  refine Tri.cv (Cv.wk (.cons (t := 0) (Has.t rfl) (.cons (t := 3) (Has.t rfl) (.cons (t := 4) (Has.t rfl) .nil)))) ?_
  refine Tri.seq fun K4 hK4 => ?_
  refine Tri.region ?_
  refine st (OK1.mv (Has.t rfl)) rfl ?_
  refine st (OK1.eqI (Has.t rfl) (Has.cI 0 rfl)) rfl ?_
  refine st (OK1.mv (Has.t rfl)) rfl ?_
  refine stT rfl rfl (fun hg => have hg' := BP.t hg; OK1.mv (Has.t rfl)) rfl ?_
  refine stT rfl rfl (fun hg => have hg' := BP.t hg; OK1.buildS [isI 0, isI 0, isI 0] sl70 ty2 zero2 (fun _ _ => ⟨⟨rfl, by decide, by decide⟩, ⟨rfl, by decide, by decide⟩, ⟨rfl, by decide, by decide⟩, trivial⟩) rfl rfl (.cons (Has.cI (-2) rfl) rfl rfl rfl (.cons (Has.cI (-5) rfl) rfl rfl rfl (.cons (Has.cI 1 rfl) rfl rfl rfl .nil))) rfl (S := SlM isI [_, _, _]) rfl) rfl ?_
  refine stT rfl rfl (fun hg => have hg' := BP.t hg; OK1.eq (OK1.call (zpoly_Of (by decide)) (.cons (Has.g rfl hg) .nil)) ((show _ = isP [-2, -5, 1] from isPl_eq aw26_n))) rfl ?_
  refine stT rfl rfl (fun hg => have hg' := BP.t hg; OK1.eq (OK1.call (zpoly_Same (K := 1) (by rw [vals_nz]; exact aw26_q) (by rw [vals_nz]; exact aw26_q) (by decide) (by decide) (by decide)) (.cons (Has.g rfl hg) (.cons (Has.g rfl hg) .nil))) ((show isB _ = isB true from isB_eq (decide_eq_true (by rw [vals_nz]; exact aw26_s))))) rfl ?_
  refine st (OK1.pickAnd (Has.t rfl) (fun h => Has.g rfl h)) rfl ?_
  refine st (OK1.mv (Has.t rfl)) rfl ?_
  refine stT rfl rfl (fun hg => have hg' := BP.t hg; OK1.mv (Has.t rfl)) rfl ?_
  refine stT rfl rfl (fun hg => have hg' := BP.t hg; OK1.len sl32 (Has.g rfl hg)) rfl ?_
  refine stT rfl rfl (fun hg => have hg' := BP.t hg; OK1.eqI (Has.g rfl hg) (Has.cI 3 rfl)) rfl ?_
  refine st (OK1.pickAnd (Has.t rfl) (fun h => Has.g rfl h)) rfl ?_
  refine st (OK1.as (Has.t rfl)) rfl ?_
  refine nl ?_
  refine At.thn (hK4 _ _ ?_); clear hK4
  refine Tri.cv (Cv.wk (.cons (t := 0) (Has.t rfl) .nil)) ?_
  refine Tri.ret ?_
  refine rt1 (.inl rfl) Tryz.results4 rfl (.tmp (Has.t' rfl ?_) .nil)
  all_goals (rfl)
end Go.Proofs.YtkgipdidomikbaaGreat
/- Contracts: whole numbers as elements of a field. -/
namespace Go.Proofs.YtkgipdidomikbaaGreat
open Go.En Go.RowKit
set_option linter.unusedVariables false
set_option maxRecDepth 10000
open Go.Nt
set_option maxHeartbeats 4000000 in
theorem gfp_Of {q : Nat} {m : Bool} {xs : List Nat} (hq : q < 4294967296) (hx : (List.length (words (val xs))) < 4294700000) : Ctr Tryz.prog 25 [Flat [isU q], Flat [isB m, isWords xs]] (isU ((zv m xs % ((Gf.fp q : Nat) : Int)).toNat)) := by
  refine Ctr.intro Tryz.func25 rfl (by kernel_rfl) Tryz.ntmps25 rfl fun w0 F0 => ?_
  refine Tri.cv (Cv.wk (.cons (t := 0) (Has.t rfl) (.cons (t := 1) (Has.t rfl) .nil))) ?_
  refine Tri.fact (Has.okZ (Has.t (t := 1) rfl)) fun okz1 => ?_
  have hp := Gf.fp_pos q
  have hl := Gf.fp_lt hq
  have hw := nw_small' (n := Gf.fp q) (by omega)
  have hfw : zv false (words (Gf.fp q)) = ((Gf.fp q : Nat) : Int) := by rw [from_word, if_neg (by decide)]
  refine Tri.seq fun K1 hK1 => ?_
  refine Tri.region ?_
  refine Ops.box (Has.t rfl) rfl fun b1 => ?_
  refine Ops.box (Has.t rfl) rfl fun b2 => ?_
  refine st (OK1.as (Has.cU 0 rfl)) rfl ?_
  refine nl ?_
  refine At.thn (hK1 _ _ ?_); clear hK1
  refine Tri.seq fun K2 hK2 => ?_
  refine Tri.drh [true, true] (Ms := [_, _]) rfl ?_
  refine DrH.st (i := 0) [] rfl rfl rfl (by kernel_rfl) (OKG.o rfl (OK1.load (Has.t rfl) (i := 0) rfl ty61 rfl (Ss' := [_, _]) rfl)) ?_
  refine DrH.st (i := 1) [] rfl rfl rfl (by kernel_rfl) (OKG.o rfl (OK1.load (Has.t rfl) (i := 1) rfl ty30 rfl (Ss' := [_]) rfl)) ?_
  refine DrH.st (i := 2) [11] rfl rfl rfl (by kernel_rfl) (OKG.o rfl (OK1.call (gfp_P) (.cons (Has.t rfl) .nil))) ?_
  refine DrH.st (i := 3) [12] rfl rfl rfl (by kernel_rfl) (OKG.o rfl (OK1.call (nat_Of) (.cons (Has.t rfl) .nil))) ?_
  refine DrH.st (i := 4) [13] rfl rfl rfl (by kernel_rfl) (OKG.o rfl (OK1.eq (OK1.call (zint_From (by first | with_reducible assumption | omega | (simp only [val_words, zv_nf]; omega) | (simp only [val_words, zv_nf, Int.natAbs_natCast]; omega))) (.cons (Has.t rfl) (.cons (Has.cB false) .nil))) ((show isZ _ = isZ ((Gf.fp q : Nat) : Int) from isZ_eq hfw)))) ?_
  refine DrH.st (i := 5) [10, 14] rfl rfl rfl (by kernel_rfl) (OKG.o rfl (OK1.eq (OK1.call (modn_Mod (by first | with_reducible assumption | omega | (simp only [val_words, zv_nf]; omega) | (simp only [val_words, zv_nf, Int.natAbs_natCast]; omega)) (by first | with_reducible assumption | omega | (simp only [val_words, zv_nf]; omega) | (simp only [val_words, zv_nf, Int.natAbs_natCast]; omega))) (.cons (Has.t rfl) (.cons (Has.t rfl) .nil))) ((by simp only [zv_nf]; rw [if_pos (show 0 < ((Gf.fp q : Nat) : Int) by omega)])))) ?_
  refine DrH.st (i := 6) [15] rfl rfl rfl (by kernel_rfl) (OKG.o rfl (OK1.mv (Has.t rfl))) ?_
  refine DrH.st (i := 7) [9] rfl rfl rfl (by kernel_rfl) (OKG.o rfl (OK1.ext (Has.t rfl) rfl)) ?_
  refine DrH.st (i := 8) [9] rfl rfl rfl (by kernel_rfl) (OKG.o rfl (OK1.ext (Has.t rfl) rfl)) ?_
  refine DrH.als2 (n1 := 10) (ds := [5]) (zs := [[isB false, SlM isU []]]) rfl (.cons rfl rfl zero61 (fun _ _ => ⟨rfl, nilM _ _, trivial⟩) .nil) (.cons_cons _ (.cons_cons _ .slnil)) (Cs := [_]) rfl ?_
  refine DrN2.new [16] 0 (Ss' := [_, _]) (Cs' := [cellM [_, _]]) rfl (by kernel_rfl) (by kernel_rfl) rfl rfl rfl (by kernel_rfl) rfl (Has.t rfl) ty61 rfl rfl rfl rfl ?_
  refine DrN2.fin (n := 11) mixed rfl (by kernel_rfl) (by kernel_rfl) (by kernel_rfl) (fun bs hbs => ?_)
  obtain ⟨b3, rfl⟩ := len1 hbs
  refine Ops.memEq (M' := [_, _, _]) rfl ?_
  refine Ops.cv (Cv.wk (.cons (t := 4) (Has.t rfl) (.cons (t := 17) (Has.t rfl) (.cons (t := 5) (Has.op rfl) .nil)))) ?_
  refine st (OK1.as (Has.t rfl)) rfl ?_
  refine nl ?_
  refine At.thn (hK2 _ _ ?_); clear hK2
  refine Tri.seq fun K3 hK3 => ?_
  refine Tri.region ?_
  refine st (OK1.fieldAddr (Has.t rfl) fld61_1 ty59) rfl ?_
  refine st (OK1.load1 (Has.t rfl) (i := 0) rfl ty59 rfl) rfl ?_
  refine st (OK1.eq (OK1.call (nat_Word) (.cons (Has.t rfl) .nil)) ((by simp only [val_words]; rw [of_word hp (by omega)]))) rfl ?_
  refine st (OK1.mv (Has.t rfl)) rfl ?_
  refine st (OK1.ext (Has.t rfl) rfl) rfl ?_
  refine st (OK1.ext (Has.t rfl) rfl) rfl ?_
  refine st (OK1.as (Has.t rfl)) rfl ?_
  refine st (OK1.as (Has.t rfl)) rfl ?_
  refine nl ?_
  refine At.thn (hK3 _ _ ?_); clear hK3
  refine Tri.cv (Cv.wk (.cons (t := 4) (Has.t rfl) (.cons (t := 7) (Has.t rfl) .nil))) ?_
  refine Tri.seq fun K4 hK4 => ?_
  refine Tri.region ?_
  refine st (OK1.mv (Has.t rfl)) rfl ?_
  refine st (OK1.as (Has.t rfl)) rfl ?_
  refine nl ?_
  refine At.thn (hK4 _ _ ?_); clear hK4
  refine Tri.ret ?_
  refine rt1 (.inl rfl) Tryz.results25 rfl (.tmp (Has.t' rfl ?_) .nil)
  all_goals (rfl)
end Go.Proofs.YtkgipdidomikbaaGreat
/- Contracts: polynomials' elements. -/
namespace Go.Proofs.YtkgipdidomikbaaGreat
open Go.En Go.RowKit
set_option linter.unusedVariables false
set_option maxRecDepth 10000
open Go.Nt
open Go.Pz
open Go.Gf
open Go.Po
open Go.Mu
set_option maxHeartbeats 4000000 in
theorem zpoly_Reduce {q : Nat} {xs : List (Bool × List Nat)} {K : Nat} (hq : q < 4294967296) (hx : Bd (vals xs) K) (hK : K ≤ 4000000000) (hn : xs.length ≤ 400000) : Ctr Tryz.prog 12 [SlK 2 zc xs, Flat [isU q]] (isWords (nrm (fp q) (vals xs))) := by
  refine Ctr.intro Tryz.func12 rfl (by kernel_rfl) Tryz.ntmps12 rfl fun w0 F0 => ?_
  refine Tri.cv (Cv.wk (.cons (t := 0) (Has.t rfl) (.cons (t := 1) (Has.t rfl) .nil))) ?_
  refine Tri.fact (Has.lenLt (Has.t (t := 0) rfl)) fun lt0 => ?_
  have hvl := vals_len xs
  have hp := fp_pos q
  refine Tri.seq fun K1 hK1 => ?_
  refine Tri.region ?_
  refine Ops.box (Has.t rfl) rfl fun b1 => ?_
  refine st (OK1.as (Has.cW (f := isU))) rfl ?_
  refine nl ?_
  refine At.thn (hK1 _ _ ?_); clear hK1
  refine Tri.seq fun K2 hK2 => ?_
  refine Tri.region ?_
  refine Ops.cv (Cv.grow0 (α := Nat) isU) ?_
  refine st (OK1.as (Has.cGr (α := Nat))) rfl ?_
  refine nl ?_
  refine At.thn (hK2 _ _ ?_); clear hK2
  refine Tri.seq fun K3 hK3 => ?_
  refine Tri.seq fun K4 hK4 => ?_
  refine Tri.region ?_
  refine st (OK1.mv (Has.t rfl)) rfl ?_
  refine st (OK1.len sl32 (Has.t rfl)) rfl ?_
  refine st (OK1.mv (Has.cI 0 rfl)) rfl ?_
  refine nl ?_
  refine At.thn (hK4 _ _ ?_); clear hK4
  refine Tri.block ?_
  refine Tri.loopF [3, 4, 8, 9] (fun (z : { z : Nat × Gr Nat // z.1 ≤ xs.length }) => match z with | ⟨(i, g), hI⟩ => [(10, isI (i : Int)), (5, isGr g (redU (fp q) (vals xs) i).length)]) (fun M => fun (z : { z : Nat × Gr Nat // z.1 ≤ xs.length }) => match z with | ⟨(i, g), hI⟩ => [grM isU g (redU (fp q) (vals xs) i), (some b1, cellM [isU q])]) (fun (z : { z : Nat × Gr Nat // z.1 ≤ xs.length }) => match z with | ⟨(i, g), hI⟩ => xs.length - i) (⟨(0, Gr.nil), Nat.zero_le _⟩) (Cv.mem (.cons (t := 10) (Has.t' rfl ?_) (.cons (t := 5) (Has.t' rfl ?_) (.cons (t := 3) (Has.t rfl) (.cons (t := 4) (Has.t rfl) (.cons (t := 8) (Has.t rfl) (.cons (t := 9) (Has.t rfl) .nil)))))) ?_) ?_
  · rfl
  · rfl
  · rfl
  rintro ⟨⟨i, g⟩, hI⟩ K5 hK5
  refine Tri.cv (Cv.wk (.cons (t := 10) (Has.t rfl) (.cons (t := 5) (Has.t rfl) (.cons (t := 3) (Has.t rfl) (.cons (t := 4) (Has.t rfl) (.cons (t := 8) (Has.t rfl) (.cons (t := 9) (Has.t rfl) .nil))))))) ?_
  refine Tri.memEq (M' := [grM isU g (redU (fp q) (vals xs) i), (some b1, cellM [isU q])]) rfl ?_
  simp only [] at hI
  have hdl := redU_len (p := fp q) (l := vals xs) (k := i) (by omega)
  have hxr := hx.raw i
  refine Tri.seq fun K6 hK6 => ?_
  refine Tri.region ?_
  refine st (OK1.ltI (Has.t rfl) (Has.t rfl)) rfl ?_
  refine nl ?_
  refine At.thn (hK6 _ _ ?_); clear hK6
  refine Tri.seq fun K7 hK7 => ?_
  refine Tri.cond (Has.t rfl) (fun hc1 => ?_) (fun hc1 => ?_)
  · have hc1 := BP.t hc1
    refine Tri.skip ?_
    refine At.thn (hK7 _ _ ?_); clear hK7
    refine Tri.seq fun K8 hK8 => ?_
    refine Tri.block ?_
    refine Tri.seq fun K9 hK9 => ?_
    refine Tri.region ?_
    refine st (OK1.ixK sl32 ty61 (Has.t rfl) (Has.t rfl) zc_len ⟨by omega, by omega⟩ (getD_some (d := (false, [])) (by first | omega | (simp only [Int.toNat_natCast, List.length_set]; omega)))) rfl ?_
    refine st (OK1.loadP (Has.t rfl) ty61 rfl (Ss' := [_, _]) rfl) rfl ?_
    refine Ops.alloc [isB false, SlM isU []] zero61 (fun _ _ => ⟨rfl, nilM _ _, trivial⟩) rfl fun b2 => ?_
    refine Ops.store (Has.t rfl) (Has.t rfl) (i := 0) rfl ty61 rfl rfl (Ss' := [_, _]) rfl (M' := [(some _, cellM [_, _]), _, _]) rfl ?_
    refine nl ?_
    refine At.thn (hK9 _ _ ?_); clear hK9
    refine Tri.region ?_
    refine st (OK1.mv (Has.t rfl)) rfl ?_
    refine st (OK1.load (Has.t rfl) (i := 2) rfl ty30 rfl (Ss' := [_]) rfl) rfl ?_
    refine st (OK1.load (Has.t rfl) (i := 0) rfl ty61 rfl (Ss' := [_, _]) rfl) rfl ?_
    refine st (OK1.eq (OK1.call (gfp_Of hq (by simp only [Int.toNat_natCast]; omega)) (.cons (Has.t rfl) (.cons (Has.t rfl) .nil))) ((show isU _ = isU ((cf (vals xs) i % ((fp q : Nat) : Int)).toNat) from isU_eq (by rw [cf_vals]; rfl)))) rfl ?_
    refine st (OK1.buildS [isU 0] sl41 ty28 zero28 (fun _ _ => ⟨⟨rfl, by decide⟩, trivial⟩) rfl rfl (.cons (Has.t rfl) rfl rfl rfl .nil) rfl (S := SlM isU [(cf (vals xs) i % ((fp q : Nat) : Int)).toNat]) rfl) rfl ?_
    refine Ops.appendG (f := isU) (u := 0) sl41 ty28 zero28 (fun _ _ => ⟨⟨rfl, by decide⟩, trivial⟩) (fun _ => inferInstance) by28 (Has.t rfl) (i := 1) rfl (Has.t rfl) (by rw [redU_len (by omega)]; show i + 1 ≤ _; omega) (by simp) rfl fun gr1 => ?_
    refine Ops.memEq (M' := [_, grM _ _ _, _]) rfl ?_
    refine st (OK1.as (Has.t rfl)) rfl ?_
    refine nl ?_
    refine At.bln ?_
    refine At.thn (hK8 _ _ ?_); clear hK8
    refine Tri.region ?_
    refine st (OK1.addI (Has.t rfl) (Has.cI 1 rfl) (by first | omega | assumption) (by first | omega | assumption)) rfl ?_
    refine st (OK1.mv (Has.t rfl)) rfl ?_
    refine nl ?_
    refine At.thn ?_
    refine hK5 (⟨(i + 1, gr1), by show i + 1 ≤ _; omega⟩) _ _ ?_ (Cv.trans (Cv.drop ((.cons _ (.cons_cons _ (.cons_cons _ .slnil))))) (Cv.mem (.cons (t := 10) (Has.t' rfl ?_) (.cons (t := 5) (Has.t' rfl ?_) (.cons (t := 3) (Has.t rfl) (.cons (t := 4) (Has.t rfl) (.cons (t := 8) (Has.t rfl) (.cons (t := 9) (Has.t rfl) .nil)))))) ?_))
    · show xs.length - (i + 1) < xs.length - i; omega
    · exact isI_eq (by omega)
    · exact isGr_eq (by rw [← redU_succ _ (by omega), List.length_append])
    · exact grM_eq (redU_succ _ (by omega))
  · have hc1 := BP.f hc1
    refine Tri.exit ?_
    refine At.the ?_
    refine At.the ?_
    refine At.blh ?_
    refine At.thn (hK3 _ _ ?_); clear hK3
    refine Tri.seq fun K10 hK10 => ?_
    refine Tri.cv (Cv.freezeG (t := 5) (i := 0) (ys := redU (fp q) (vals xs) i) rfl rfl rfl) ?_
    refine Tri.memEq (M' := [_]) rfl ?_
    refine Tri.cv (Cv.wk (.cons (t := 3) (Has.t rfl) (.cons (t := 4) (Has.t rfl) (.cons (t := 8) (Has.t rfl) (.cons (t := 9) (Has.t rfl) (.cons (t := 10) (Has.t rfl) (.cons (t := 5) (Has.t rfl) (.cons (t := 11) (Has.t rfl) .nil)))))))) ?_
    refine Tri.region ?_
    refine st (OK1.load (Has.t rfl) (i := 0) rfl ty30 rfl (Ss' := [_]) rfl) rfl ?_
    refine st (OK1.mv (Has.t rfl)) rfl ?_
    refine st (OK1.call (fpoly_Norm (by rw [redU_len (by omega)]; omega)) (.cons (Has.t rfl) (.cons (Has.t rfl) .nil))) rfl ?_
    refine st (OK1.as (Has.t rfl)) rfl ?_
    refine nl ?_
    refine At.thn (hK10 _ _ ?_); clear hK10
    refine Tri.cv (Cv.wk (.cons (t := 4) (Has.t rfl) .nil)) ?_
    refine Tri.ret ?_
    refine rt1 (.inl rfl) Tryz.results12 rfl (.tmp (Has.t' rfl ?_) .nil)
    all_goals (exact SlM_eq (red_nrm hp (by omega)))
end Go.Proofs.YtkgipdidomikbaaGreat
/- A law of layer 26: the polynomial over a field, as a contract. -/
namespace Go.Proofs.YtkgipdidomikbaaGreat
open Go.En Go.RowKit
set_option linter.unusedVariables false
set_option maxRecDepth 10000
open Go.Nt
open Go.Pz
open Go.Mz
open Go.Gf
open Go.Mu
open Go.Hs
open Go.Po
open Go.Ch
set_option maxHeartbeats 4000000 in
theorem fmat_From_1 {q R C K i k : Nat} {xs : List (Bool × List Nat)} (hq : q < 4294967296) (hx : Bd (vals xs) K) (hK : K ≤ 4000000000) (hR : R ≤ 64) (hC : C ≤ 64) (hxl : xs.length = R * C) (hi : i < R) (hk : k < C) : Ctr Tryz.prog 24 [isI (i : Int), isI (k : Int), PtrL [isU q], ptM (R : Int) (C : Int) xs] (isU ((cf (vals xs) (i * C + k) % ((fp q : Nat) : Int)).toNat)) := by
  refine Ctr.intro Tryz.func24 rfl (by kernel_rfl) Tryz.ntmps24 rfl fun w0 F0 => ?_
  refine Tri.cv (Cv.wk (.cons (t := 0) (Has.t rfl) (.cons (t := 1) (Has.t rfl) (.cons (t := 2) (Has.t rfl) (.cons (t := 3) (Has.t rfl) .nil))))) ?_
  refine Tri.fact (Has.rngI (Has.t (t := 0) rfl)) fun lt0 => ?_
  refine Tri.fact (Has.rngI (Has.t (t := 1) rfl)) fun lt1 => ?_
  refine Tri.seq fun K1 hK1 => ?_
  refine Tri.region ?_
  refine st (OK1.as (Has.cU 0 rfl)) rfl ?_
  refine nl ?_
  refine At.thn (hK1 _ _ ?_); clear hK1
  refine Tri.seq fun K2 hK2 => ?_
  refine Tri.dr ?_
  refine DrG.st (i := 0) [] rfl rfl rfl (by kernel_rfl) (OKG.o rfl (OK1.loadP (Has.t rfl) ty30 rfl (Ss' := [_]) rfl)) ?_
  refine DrG.st (i := 1) [] rfl rfl rfl (by kernel_rfl) (OKG.o rfl (OK1.loadP (Has.t rfl) ty24 rfl (Ss' := [_, _, _]) rfl)) ?_
  refine DrG.st (i := 2) [] rfl rfl rfl (by kernel_rfl) (OKG.o rfl (OK1.mv (Has.t rfl))) ?_
  refine DrG.st (i := 3) [] rfl rfl rfl (by kernel_rfl) (OKG.o rfl (OK1.mv (Has.t rfl))) ?_
  refine DrG.st (i := 4) [8, 9, 10] rfl rfl rfl (by kernel_rfl) (OKG.o rfl (OK1.call (zmat_At (i := i) (k := k) hx hK hR hC hxl hi hk) (.cons (Has.t rfl) (.cons (Has.t rfl) (.cons (Has.t rfl) .nil))))) ?_
  refine DrG.fin (n := 5) mixed (by kernel_rfl) (by kernel_rfl) (by kernel_rfl) ?_
  refine Ops.cv (Cv.wk (.cons (t := 6) (Has.t rfl) (.cons (t := 7) (Has.t rfl) (.cons (t := 11) (Has.t rfl) .nil)))) ?_
  refine st (OK1.eq (OK1.call (gfp_Of hq (by rw [val_words]; have := hx (i * C + k); omega)) (.cons (Has.t rfl) (.cons (Has.t rfl) .nil))) ((show isU _ = isU ((cf (vals xs) (i * C + k) % ((fp q : Nat) : Int)).toNat) from isU_eq (by rw [zv_nf])))) rfl ?_
  refine st (OK1.as (Has.t rfl)) rfl ?_
  refine nl ?_
  refine At.thn (hK2 _ _ ?_); clear hK2
  refine Tri.ret ?_
  refine rt1 (.inl rfl) Tryz.results24 rfl (.tmp (Has.t' rfl ?_) .nil)
  all_goals (rfl)
set_option maxHeartbeats 4000000 in
theorem fmat_From {q R C K : Nat} {xs : List (Bool × List Nat)} (hq : q < 4294967296) (hx : Bd (vals xs) K) (hK : K ≤ 4000000000) (hR : R ≤ 64) (hC : C ≤ 64) (hxl : xs.length = R * C) : Ctr Tryz.prog 9 [Flat [isU q], isM (R : Int) (C : Int) xs] (isTup [isMW R C (tabU (R * C) C fun i k => (cf (vals xs) (i * C + k) % ((fp q : Nat) : Int)).toNat % fp q), isI 0]) := by
  refine Ctr.intro Tryz.func9 rfl (by kernel_rfl) Tryz.ntmps9 rfl fun w0 F0 => ?_
  refine Tri.cv (Cv.wk (.cons (t := 0) (Has.t rfl) (.cons (t := 1) (Has.t rfl) .nil))) ?_
  have hfo := formB_true hR hC hxl
  refine Tri.seq fun K1 hK1 => ?_
  refine Tri.region ?_
  refine Ops.box (Has.t rfl) rfl fun b1 => ?_
  refine Ops.box (Has.t rfl) rfl fun b2 => ?_
  refine Ops.alloc [isI 0, isI 0, SlM isU []] zero38 (fun _ _ => ⟨⟨rfl, by decide, by decide⟩, ⟨rfl, by decide, by decide⟩, nilM _ _, trivial⟩) rfl fun b3 => ?_
  refine st (OK1.as (Has.cI 0 rfl)) rfl ?_
  refine nl ?_
  refine At.thn (hK1 _ _ ?_); clear hK1
  refine Tri.seq fun K2 hK2 => ?_
  refine Tri.seq fun K3 hK3 => ?_
  refine Tri.region ?_
  refine st (OK1.load (Has.t rfl) (i := 1) rfl ty24 rfl (Ss' := [_, _, _]) rfl) rfl ?_
  refine st (OK1.eq (OK1.call (zmat_Formed) (.cons (Has.t rfl) .nil)) ((show isB _ = isB true from isB_eq hfo))) rfl ?_
  refine st (OK1.not (Has.t rfl)) rfl ?_
  refine nl ?_
  refine At.thn (hK3 _ _ ?_); clear hK3
  refine Tri.cond (Has.t rfl) (fun hc1 => ?_) (fun hc1 => ?_)
  · have hc1 := BP.t hc1
    simp at hc1
  · have hc1 := BP.f hc1
    refine Tri.skip ?_
    refine At.thn (hK2 _ _ ?_); clear hK2
    refine Tri.cv (Cv.wk (.cons (t := 2) (Has.t rfl) (.cons (t := 3) (Has.t rfl) (.cons (t := 4) (Has.t rfl) (.cons (t := 5) (Has.t rfl) .nil))))) ?_
    refine Tri.seq fun K4 hK4 => ?_
    refine Tri.region ?_
    refine st (OK1.load (Has.t rfl) (i := 2) rfl ty30 rfl (Ss' := [_]) rfl) rfl ?_
    refine st (OK1.fieldAddr (Has.t rfl) fld24_0 ty3) rfl ?_
    refine st (OK1.load1 (Has.t rfl) (i := 1) rfl ty3 rfl) rfl ?_
    refine st (OK1.fieldAddr (Has.t rfl) fld24_1 ty3) rfl ?_
    refine st (OK1.load1 (Has.t rfl) (i := 1) rfl ty3 rfl) rfl ?_
    refine Ops.cv (Cv.freezeBox (t := 2) (i := 2) rfl rfl rfl) ?_
    refine Ops.memEq (M' := [_, _]) rfl ?_
    refine Ops.cv (Cv.wk (.cons (t := 2) (Has.t rfl) (.cons (t := 3) (Has.t rfl) (.cons (t := 4) (Has.t rfl) (.cons (t := 5) (Has.t rfl) (.cons (t := 10) (Has.t rfl) (.cons (t := 11) (Has.t rfl) (.cons (t := 12) (Has.t rfl) (.cons (t := 13) (Has.t rfl) (.cons (t := 14) (Has.t rfl) .nil)))))))))) ?_
    refine Ops.cv (Cv.freezeBox (t := 3) (i := 1) rfl rfl rfl) ?_
    refine Ops.memEq (M' := [_]) rfl ?_
    refine Ops.cv (Cv.wk (.cons (t := 2) (Has.t rfl) (.cons (t := 3) (Has.t rfl) (.cons (t := 4) (Has.t rfl) (.cons (t := 5) (Has.t rfl) (.cons (t := 10) (Has.t rfl) (.cons (t := 12) (Has.t rfl) (.cons (t := 14) (Has.t rfl) .nil)))))))) ?_
    refine st (OK1.makeFn (ι := PI R C) (As := fun p => [isI (p.1.1 : Int), isI (p.1.2 : Int)]) (R := fun p => isU ((cf (vals xs) (p.1.1 * C + p.1.2) % ((fp q : Nat) : Int)).toNat)) (fun p => fmat_From_1 hq hx hK hR hC hxl p.2.1 p.2.2) .nil (.cons (Has.t rfl) (.cons (Has.t rfl) .nil))) rfl ?_
    refine st (OK1.call (fmat_made (f := fun i k => (cf (vals xs) (i * C + k) % ((fp q : Nat) : Int)).toNat) hR hC) (.cons (Has.t rfl) (.cons (Has.t rfl) (.cons (Has.t rfl) (.cons (Has.t rfl) .nil))))) rfl ?_
    refine Ops.store (Has.t rfl) (Has.t rfl) (i := 0) rfl ty38 rfl rfl (Ss' := [_, _, _]) rfl (M' := [(some _, cellM [_, _, _])]) rfl ?_
    refine st (OK1.as (Has.cI 0 rfl)) rfl ?_
    refine nl ?_
    refine At.thn (hK4 _ _ ?_); clear hK4
    refine Tri.cv (Cv.wk (.cons (t := 4) (Has.t rfl) (.cons (t := 5) (Has.t rfl) .nil))) ?_
    refine Tri.ret ?_
    refine rtN (.inl rfl) Tryz.results9 rfl rfl (.cell rfl (i := 0) rfl ty38 rfl ?_ (.tmp (Has.t' rfl ?_) .nil))
    · rfl
    · rfl
theorem from_dvd {p n : Nat} {L : List Int} (hp : 0 < p) (i j : Nat) (hi : i < n) (hj : j < n) : (p : Int) ∣ (((tabU (n * n) n fun i k => (cf L (i * n + k) % (p : Int)).toNat % p).getD (i * n + j) 0 : Nat) : Int) - Go.Mz.mf n L i j := by
  rw [tabU_place _ hj (place_lt hi hj)]
  have h1 := Int.emod_nonneg (cf L (i * n + j)) (show (p : Int) ≠ 0 by omega)
  refine dvd_trans' (mod_dvd p _) ?_
  rw [Int.toNat_of_nonneg h1]
  refine ⟨-(cf L (i * n + j) / p), ?_⟩
  have := Int.mul_ediv_add_emod (cf L (i * n + j)) p
  show cf L (i * n + j) % (p : Int) - cf L (i * n + j) = _
  rw [Int.mul_neg]; omega
set_option maxHeartbeats 4000000 in
theorem c_ZcharFields_bad (nn : Nat) (r c : Int) (xs : List (Bool × List Nat)) (hf : (formB r c xs.length && decide (r = c)) = false) : Ctr Tryz.prog 3 [isK .u8 (nn : Int), isM r c xs] (isB true) := by
  refine Ctr.intro Tryz.func3 rfl (by kernel_rfl) Tryz.ntmps3 rfl fun w0 F0 => ?_
  refine Tri.cv (Cv.wk (.cons (t := 0) (Has.t rfl) (.cons (t := 1) (Has.t rfl) .nil))) ?_
  refine Tri.seq fun K1 hK1 => ?_
  refine Tri.region ?_
  refine Ops.box (Has.t rfl) rfl fun b1 => ?_
  refine st (OK1.as (Has.cB false)) rfl ?_
  refine nl ?_
  refine At.thn (hK1 _ _ ?_); clear hK1
  refine Tri.seq fun K2 hK2 => ?_
  refine Tri.seq fun K3 hK3 => ?_
  refine Tri.region ?_
  refine st (OK1.call (law26_awake) .nil) rfl ?_
  refine st (OK1.not (Has.t rfl)) rfl ?_
  refine st (OK1.mv (Has.t rfl)) rfl ?_
  refine stF rfl rfl (fun hg => have hg' := BP.t hg; OK1.load (Has.t rfl) (i := 0) rfl ty24 rfl (Ss' := [_, _, _]) rfl) rfl ?_
  refine stF rfl rfl (fun hg => have hg' := BP.t hg; OK1.call (ref11_Few) (.cons (Has.g rfl hg) (.cons (Has.cI 4 rfl) (.cons (Has.cI 2 rfl) .nil)))) rfl ?_
  refine stF rfl rfl (fun hg => have hg' := BP.t hg; OK1.not (Has.g rfl hg)) rfl ?_
  refine st (OK1.pickOr (Has.t rfl) (fun h => Has.g rfl (ng h))) rfl ?_
  refine st (OK1.mv (Has.t rfl)) rfl ?_
  refine stF rfl rfl (fun hg => have hg' := BP.t hg; OK1.load (Has.t rfl) (i := 0) rfl ty24 rfl (Ss' := [_, _, _]) rfl) rfl ?_
  refine stF rfl rfl (fun hg => have hg' := BP.t hg; OK1.eq (OK1.call (law26_square) (.cons (Has.g rfl hg) .nil)) ((show isB _ = isB false from isB_eq hf))) rfl ?_
  refine stF rfl rfl (fun hg => have hg' := BP.t hg; OK1.not (Has.g rfl hg)) rfl ?_
  refine st (OK1.pickOr (Has.t rfl) (fun h => Has.g rfl (ng h))) rfl ?_
  refine nl ?_
  refine At.thn (hK3 _ _ ?_); clear hK3
  refine Tri.cv (Cv.wk (.cons (t := 0) (Has.t rfl) (.cons (t := 3) (Has.t rfl) (.cons (t := 4) (Has.t rfl) (.cons (t := 23) (Has.t rfl) .nil))))) ?_
  refine Tri.cond (Has.t rfl) (fun hc1 => ?_) (fun hc1 => ?_)
  · have hc1 := BP.t hc1
    refine Tri.seq fun K4 hK4 => ?_
    refine Tri.region ?_
    refine st (OK1.call (law26_awake) .nil) rfl ?_
    refine st (OK1.as (Has.t rfl)) rfl ?_
    refine nl ?_
    refine At.thn (hK4 _ _ ?_); clear hK4
    refine Tri.ret ?_
    refine At.thr ?_
    refine rt1 (.inl rfl) Tryz.results3 rfl (.tmp (Has.t' rfl ?_) .nil)
    all_goals (rfl)
  · have hc1 := BP.f hc1
    exfalso; simp at hc1
set_option maxHeartbeats 4000000 in
theorem c_ZcharFields_ok (nn n : Nat) (xs : List (Bool × List Nat)) (hn : n ≤ 64) (hl : xs.length = n * n) : Ctr Tryz.prog 3 [isK .u8 (nn : Int), isM (n : Int) (n : Int) xs] (isB true) := by
  refine Ctr.intro Tryz.func3 rfl (by kernel_rfl) Tryz.ntmps3 rfl fun w0 F0 => ?_
  refine Tri.cv (Cv.wk (.cons (t := 0) (Has.t rfl) (.cons (t := 1) (Has.t rfl) .nil))) ?_
  refine Tri.fact (Has.okM (Has.t (t := 1) rfl)) fun okp1 => ?_
  have hpl := ptab_le (k := nn % 12)
  have hpr := ptab_prime (k := nn % 12)
  have hfp := ptab_fp (nn % 12)
  obtain ⟨p, hpd⟩ : ∃ p, p = ptab (nn % 12) := ⟨_, rfl⟩
  rw [← hpd] at hpl hpr hfp
  have hpq : p < 4294967296 := by omega
  have hpf : Prime (fp p) := by rw [hfp]; exact hpr
  have hfo := formB_true hn hn hl
  have hfs : (formB (n : Int) (n : Int) xs.length && decide ((n : Int) = (n : Int))) = true := by rw [hfo]; simp
  have hRC := side_le hn hn
  refine Tri.seq fun K1 hK1 => ?_
  refine Tri.region ?_
  refine Ops.box (Has.t rfl) rfl fun b1 => ?_
  refine st (OK1.as (Has.cB false)) rfl ?_
  refine nl ?_
  refine At.thn (hK1 _ _ ?_); clear hK1
  refine Tri.seq fun K2 hK2 => ?_
  refine Tri.seq fun K3 hK3 => ?_
  refine Tri.region ?_
  refine st (OK1.call (law26_awake) .nil) rfl ?_
  refine st (OK1.not (Has.t rfl)) rfl ?_
  refine st (OK1.mv (Has.t rfl)) rfl ?_
  refine stF rfl rfl (fun hg => have hg' := BP.t hg; OK1.load (Has.t rfl) (i := 0) rfl ty24 rfl (Ss' := [_, _, _]) rfl) rfl ?_
  refine stF rfl rfl (fun hg => have hg' := BP.t hg; OK1.call (ref11_Few) (.cons (Has.g rfl hg) (.cons (Has.cI 4 rfl) (.cons (Has.cI 2 rfl) .nil)))) rfl ?_
  refine stF rfl rfl (fun hg => have hg' := BP.t hg; OK1.not (Has.g rfl hg)) rfl ?_
  refine st (OK1.pickOr (Has.t rfl) (fun h => Has.g rfl (ng h))) rfl ?_
  refine st (OK1.mv (Has.t rfl)) rfl ?_
  refine stF rfl rfl (fun hg => have hg' := BP.t hg; OK1.load (Has.t rfl) (i := 0) rfl ty24 rfl (Ss' := [_, _, _]) rfl) rfl ?_
  refine stF rfl rfl (fun hg => have hg' := BP.t hg; OK1.eq (OK1.call (law26_square) (.cons (Has.g rfl hg) .nil)) ((show isB _ = isB true from isB_eq (hfs)))) rfl ?_
  refine stF rfl rfl (fun hg => have hg' := BP.t hg; OK1.not (Has.g rfl hg)) rfl ?_
  refine st (OK1.pickOr (Has.t rfl) (fun h => Has.g rfl (ng h))) rfl ?_
  refine nl ?_
  refine At.thn (hK3 _ _ ?_); clear hK3
  refine Tri.cv (Cv.wk (.cons (t := 0) (Has.t rfl) (.cons (t := 3) (Has.t rfl) (.cons (t := 4) (Has.t rfl) (.cons (t := 23) (Has.t rfl) .nil))))) ?_
  refine Tri.cond (Has.t rfl) (fun hc1 => ?_) (fun hc1 => ?_)
  · have hc1 := BP.t hc1
    skip
    refine Tri.seq fun K4 hK4 => ?_
    refine Tri.region ?_
    refine st (OK1.call (law26_awake) .nil) rfl ?_
    refine st (OK1.as (Has.t rfl)) rfl ?_
    refine nl ?_
    refine At.thn (hK4 _ _ ?_); clear hK4
    refine Tri.ret ?_
    refine At.thr ?_
    refine rt1 (.inl rfl) Tryz.results3 rfl (.tmp (Has.t' rfl ?_) .nil)
    all_goals (rfl)
  · have hc1 := BP.f hc1
    have HF0 : (n : Int) ≤ 4 ∧ fewB xs 100 2 = true := (by simpa [and_assoc] using hc1)
    obtain ⟨hn4, HF⟩ := HF0
    obtain ⟨_, hb⟩ := fewB_bd (N := 100) (K := 2) okp1 HF rfl rfl (by decide)
    have hfb : flB n 2 n ≤ 1 + 3 * 11 := Nat.add_le_add_left (Nat.mul_le_mul (by omega) (by omega)) _
    have hcb := chL_bd (n := n) hb
    refine Tri.skip ?_
    refine At.thn (hK2 _ _ ?_); clear hK2
    refine Tri.seq fun K5 hK5 => ?_
    refine Tri.region ?_
    refine st (OK1.mv (Has.t rfl)) rfl ?_
    refine st (OK1.eq (OK1.call law09_OfR (.cons (Has.t rfl) .nil)) ((show Flat [isU _] = Flat [isU p] from by rw [hpd]))) rfl ?_
    refine Ops.alloc [isU 0] zero30 (fun _ _ => ⟨⟨rfl, by decide⟩, trivial⟩) rfl fun b2 => ?_
    refine Ops.store (Has.t rfl) (Has.t rfl) (i := 0) rfl ty30 rfl rfl (Ss' := [_]) rfl (M' := [(some _, cellM [_]), _]) rfl ?_
    refine nl ?_
    refine At.thn (hK5 _ _ ?_); clear hK5
    refine Tri.seq fun K6 hK6 => ?_
    refine Tri.region ?_
    refine st (OK1.load (Has.t rfl) (i := 1) rfl ty24 rfl (Ss' := [_, _, _]) rfl) rfl ?_
    refine st (OK1.call (zchar_Char (K := 2) hb (by omega) hn hl) (.cons (Has.t rfl) .nil)) rfl ?_
    refine st (OK1.mv (Has.t rfl)) rfl ?_
    refine st (OK1.ext (Has.t rfl) rfl) rfl ?_
    refine st (OK1.ext (Has.t rfl) rfl) rfl ?_
    refine st (OK1.as (Has.t rfl)) rfl ?_
    refine st (OK1.as (Has.t rfl)) rfl ?_
    refine nl ?_
    refine At.thn (hK6 _ _ ?_); clear hK6
    refine Tri.cv (Cv.wk (.cons (t := 3) (Has.t rfl) (.cons (t := 4) (Has.t rfl) (.cons (t := 5) (Has.t rfl) (.cons (t := 6) (Has.t rfl) (.cons (t := 7) (Has.t rfl) .nil)))))) ?_
    refine Tri.seq fun K7 hK7 => ?_
    refine Tri.region ?_
    refine st (OK1.load (Has.t rfl) (i := 0) rfl ty30 rfl (Ss' := [_]) rfl) rfl ?_
    refine st (OK1.load (Has.t rfl) (i := 1) rfl ty24 rfl (Ss' := [_, _, _]) rfl) rfl ?_
    refine st (OK1.call (fmat_From (K := 2) hpq hb (by decide) hn hn hl) (.cons (Has.t rfl) (.cons (Has.t rfl) .nil))) rfl ?_
    refine st (OK1.mv (Has.t rfl)) rfl ?_
    refine st (OK1.ext (Has.t rfl) rfl) rfl ?_
    refine st (OK1.ext (Has.t rfl) rfl) rfl ?_
    refine Ops.alloc [isI 0, isI 0, SlM isU []] zero38 (fun _ _ => ⟨⟨rfl, by decide, by decide⟩, ⟨rfl, by decide, by decide⟩, nilM _ _, trivial⟩) rfl fun b3 => ?_
    refine Ops.store (Has.t rfl) (Has.t rfl) (i := 0) rfl ty38 rfl rfl (Ss' := [_, _, _]) rfl (M' := [(some _, cellM [_, _, _]), _, _]) rfl ?_
    refine st (OK1.as (Has.t rfl)) rfl ?_
    refine nl ?_
    refine At.thn (hK7 _ _ ?_); clear hK7
    refine Tri.cv (Cv.wk (.cons (t := 4) (Has.t rfl) (.cons (t := 5) (Has.t rfl) (.cons (t := 6) (Has.t rfl) (.cons (t := 7) (Has.t rfl) (.cons (t := 8) (Has.t rfl) (.cons (t := 9) (Has.t rfl) .nil))))))) ?_
    refine Tri.seq fun K8 hK8 => ?_
    refine Tri.region ?_
    refine st (OK1.load (Has.t rfl) (i := 1) rfl ty30 rfl (Ss' := [_]) rfl) rfl ?_
    refine st (OK1.load (Has.t rfl) (i := 0) rfl ty38 rfl (Ss' := [_, _, _]) rfl) rfl ?_
    refine st (OK1.call (hess_Char4 (A := Go.Mz.mf n (vals xs)) hpq hpf (by omega) (tabU_len _ _ _) (from_dvd (p := fp p) (fp_pos p))) (.cons (Has.t rfl) (.cons (Has.t rfl) .nil))) rfl ?_
    refine st (OK1.mv (Has.t rfl)) rfl ?_
    refine st (OK1.ext (Has.t rfl) rfl) rfl ?_
    refine st (OK1.ext (Has.t rfl) rfl) rfl ?_
    refine st (OK1.as (Has.t rfl)) rfl ?_
    refine st (OK1.as (Has.t rfl)) rfl ?_
    refine nl ?_
    refine At.thn (hK8 _ _ ?_); clear hK8
    refine Tri.cv (Cv.wk (.cons (t := 4) (Has.t rfl) (.cons (t := 5) (Has.t rfl) (.cons (t := 6) (Has.t rfl) (.cons (t := 7) (Has.t rfl) (.cons (t := 9) (Has.t rfl) (.cons (t := 10) (Has.t rfl) (.cons (t := 11) (Has.t rfl) .nil)))))))) ?_
    refine Tri.seq fun K9 hK9 => ?_
    refine Tri.region ?_
    refine st (OK1.mv (Has.t rfl)) rfl ?_
    refine st (OK1.eqI (Has.t rfl) (Has.cI 0 rfl)) rfl ?_
    refine st (OK1.mv (Has.t rfl)) rfl ?_
    refine stT rfl rfl (fun hg => have hg' := BP.t hg; OK1.mv (Has.t rfl)) rfl ?_
    refine stT rfl rfl (fun hg => have hg' := BP.t hg; OK1.eqI (Has.g rfl hg) (Has.cI 0 rfl)) rfl ?_
    refine st (OK1.pickAnd (Has.t rfl) (fun h => Has.g rfl h)) rfl ?_
    refine st (OK1.mv (Has.t rfl)) rfl ?_
    refine stT rfl rfl (fun hg => have hg' := BP.t hg; OK1.mv (Has.t rfl)) rfl ?_
    refine stT rfl rfl (fun hg => have hg' := BP.t hg; OK1.eqI (Has.g rfl hg) (Has.cI 0 rfl)) rfl ?_
    refine st (OK1.pickAnd (Has.t rfl) (fun h => Has.g rfl h)) rfl ?_
    refine st (OK1.mv (Has.t rfl)) rfl ?_
    refine stT rfl rfl (fun hg => have hg' := BP.t hg; OK1.mv (Has.t rfl)) rfl ?_
    refine stT rfl rfl (fun hg => have hg' := BP.t hg; OK1.load (Has.t rfl) (i := 1) rfl ty30 rfl (Ss' := [_]) rfl) rfl ?_
    refine stT rfl rfl (fun hg => have hg' := BP.t hg; OK1.call (zpoly_Reduce (K := 100) hpq (by rw [vals_nz]; exact hcb.mono (by omega)) (by decide) (by rw [List.length_map, chL_len]; omega)) (.cons (Has.g rfl hg) (.cons (Has.g rfl hg) .nil))) rfl ?_
    refine stT rfl rfl (fun hg => have hg' := BP.t hg; OK1.mv (Has.t rfl)) rfl ?_
    refine stT rfl rfl (fun hg => have hg' := BP.t hg; OK1.eq (OK1.call ref09_Same (.cons (Has.g rfl hg) (.cons (Has.g rfl hg) .nil))) ((show isB _ = isB true from isB_eq (decide_eq_true (by rw [vals_nz]; rfl))))) rfl ?_
    refine st (OK1.pickAnd (Has.t rfl) (fun h => Has.g rfl h)) rfl ?_
    refine st (OK1.as (Has.t rfl)) rfl ?_
    refine nl ?_
    refine At.thn (hK9 _ _ ?_); clear hK9
    refine Tri.cv (Cv.wk (.cons (t := 4) (Has.t rfl) .nil)) ?_
    refine Tri.ret ?_
    refine rt1 (.inl rfl) Tryz.results3 rfl (.tmp (Has.t' rfl ?_) .nil)
    all_goals (rfl)
theorem c_ZcharFields (nn : Nat) (r c : Int) (xs : List (Bool × List Nat)) : Ctr Tryz.prog 3 [isK .u8 (nn : Int), isM r c xs] (isB true) := by
  cases h : formB r c xs.length && decide (r = c) with
  | true =>
    rw [Bool.and_eq_true, decide_eq_true_eq] at h
    obtain ⟨h1, rfl⟩ := h
    obtain ⟨n, C, rfl, hC, h2, _, h4⟩ := formB_iff.1 h1
    obtain rfl : n = C := by omega
    exact c_ZcharFields_ok nn n xs h2 h4
  | false => exact c_ZcharFields_bad nn r c xs h
end Go.Proofs.YtkgipdidomikbaaGreat
/- Slices of whole numbers that a law is handed. -/
namespace Go.En
open Go.RowKit Go.ChangeShapes Go.WideShapes Go.ChangeAt
set_option linter.unusedVariables false
theorem pair_get {α β : Type} (g h : α → β) : ∀ (l : List α) (j : Nat), (l.flatMap fun a => [g a, h a])[j]? = (l[j / 2]?).map (fun a => if j % 2 = 0 then g a else h a)
  | [], j => by simp
  | a :: l, 0 => by simp
  | a :: l, 1 => by simp
  | a :: l, j + 2 => by
    have := pair_get g h l j
    rw [show (j + 2) / 2 = j / 2 + 1 by omega, show (j + 2) % 2 = j % 2 by omega]
    simpa using this
section
variable {H : Type} {enc : TypeId × Value → H} {P : Program}
end
end Go.En
/- Matrices of whole numbers that a law is handed. -/
namespace Go.En
open Go.RowKit Go.ChangeShapes Go.WideShapes Go.ChangeAt
set_option linter.unusedVariables false
section
variable {H : Type} {enc : TypeId × Value → H} {P : Program}
theorem rd_Zs {W : World} {T e tb ts T' : TypeId} {fuel : Nat} {cs : List Value} {x : DataW H × List MemPlace} (hT : P.underlying T = some (.slice e)) (hfs : fsB P e = some [(tb, 0), (ts, 1)]) (hub : P.underlying tb = some .bool) (hu : P.underlying ts = some (.slice T')) (hu' : P.underlying T' = some (.int .u64)) (hc : P.cellsOf T' = 1) (hcb : P.cellsOf tb = 1) (hcs : P.cellsOf ts = 1) (hce : P.cellsOf e = 2)
    (hf : DataW.trod enc P W 0 (fun _ => true) true fuel T cs = some x) (hps : ∀ y ∈ x.2, y.block < W.heap.size) : ∃ (v : Value) (xs : List (Bool × List Nat)), cs = [v] ∧ (isZs xs).h W (fun b => b < W.heap.size) v := by
  obtain ⟨d, ps⟩ := x
  obtain ⟨fs, hue, hsz, hget⟩ := fsB_spec hfs
  obtain ⟨f0, g0, rfl, e0⟩ := hget 0 tb 0 rfl
  obtain ⟨f1, g1, rfl, e1⟩ := hget 1 ts 1 rfl
  have hfs2 : fs = #[f0, f1] := by
    apply Array.ext'
    have hl : fs.toList.length = 2 := by simpa using hsz
    match hq : fs.toList, hl with
    | [p, q], _ =>
      have a0 : fs.toList[0]? = some f0 := by simpa using g0
      have a1 : fs.toList[1]? = some f1 := by simpa using g1
      rw [hq] at a0 a1
      simp at a0 a1
      rw [a0, a1]
  subst hfs2
  rcases Deep.open_slice_pairs hT hue hce e0 e1 hcb hcs hf with ⟨h1, _⟩ | ⟨a, len, cap, m, n, V0, V1, D0, D1, P0, P1, h1, _, hlc, hcm, hm, hx, hel⟩
  · exact ⟨_, [], h1, nilK⟩
  · simp only [if_true] at hm
    subst m
    have hps' : ∀ i, i < cap → ∀ y ∈ P1 i, y.block < W.heap.size := fun i hi y hy => hps y (by
      have := (Prod.mk.inj hx).2
      rw [this]
      exact List.mem_append_right _ (List.mem_flatMap.2 ⟨i, List.mem_range.2 hi, List.mem_append_right _ hy⟩))
    obtain ⟨l, hl, hgl⟩ := list_of_get (p := fun i (x : Bool × List Nat) => V0 i = .bool x.1 ∧ (isWords x.2).h W (fun b => b < W.heap.size) (V1 i)) len (fun i hi => by
      obtain ⟨_, _, q0, q1⟩ := hel i (by omega)
      obtain ⟨b, hb, _⟩ := DataW.trod_bool hub q0
      obtain ⟨v, ws, hv1, hw⟩ := rd_row hu hu' hc word_of q1 (hps' i (by omega))
      obtain rfl : V1 i = v := by simpa using hv1
      exact ⟨(b, ws), by simpa using hb, hw⟩)
    refine ⟨_, l, h1, some a, cap, by rw [hl], by rw [hl]; exact hlc, hcm, flat_len zc_len l, ?_⟩
    rcases Nat.eq_zero_or_pos len with h0 | h0
    · exact .inl (by omega)
    · have hc0 := (hel 0 (by omega)).1
      have hs : a.spot = none := by
        cases hsp : a.spot with
        | none => rfl
        | some s =>
          simp only [Addr.add, Nat.zero_mul, if_true] at hc0
          unfold World.cell? at hc0
          rw [hsp] at hc0
          split at hc0 <;> simp at hc0
      obtain ⟨b, off, sp⟩ := a
      simp only at hs
      subst hs
      right
      refine ⟨b, off, rfl, ?_, (List.range len).flatMap (fun i => [V0 i, V1 i]), ?_, fun j u hj => ?_⟩
      · have : MemPlace.cell b (off + 0) ∈ ps := by
          have := (Prod.mk.inj hx).2
          rw [this]
          exact List.mem_append_left _ (List.mem_map.2 ⟨0, by simp; omega, rfl⟩)
        exact hps _ this
      · have hlen2 : ((List.range len).flatMap fun i => [V0 i, V1 i]).length = len * 2 := by
          have := flat_len (fk := fun (i : Nat) => [isB true, isB true]) (k := 2) (fun _ => rfl) (List.range len)
          rw [List.length_flatMap] at this ⊢
          simpa using this
        refine all2_of_get (by rw [flat_len zc_len, hlen2, hl]) (fun j S v hS hv => ?_)
        have hz := pair_get (fun p : Bool × List Nat => isB p.1) (fun p => isWords p.2) l j
        rw [show (l.flatMap fun a => [isB a.1, isWords a.2]) = l.flatMap zc from rfl, hS] at hz
        have hw := pair_get V0 V1 (List.range len) j
        rw [hv] at hw
        have hj : j / 2 < l.length := by
          rcases Nat.lt_or_ge (j / 2) l.length with h | h
          · exact h
          · rw [List.getElem?_eq_none h] at hz; cases hz
        rw [List.getElem?_eq_getElem hj] at hz
        rw [List.getElem?_range (by omega)] at hw
        simp only [Option.map_some, Option.some.injEq] at hz hw
        obtain ⟨k1, k2⟩ := hgl (j / 2) hj
        subst hz; subst hw
        by_cases hp : j % 2 = 0
        · rw [if_pos hp, if_pos hp, k1]; rfl
        · rw [if_neg hp, if_neg hp]; exact k2
      · have hw := pair_get V0 V1 (List.range len) j
        rw [hj] at hw
        have hjl : j / 2 < len := by
          rcases Nat.lt_or_ge (j / 2) len with h | h
          · exact h
          · rw [List.getElem?_eq_none (by simpa using h)] at hw; cases hw
        rw [List.getElem?_range hjl] at hw
        simp only [Option.map_some, Option.some.injEq] at hw
        obtain ⟨q0, q1, _, _⟩ := hel (j / 2) (by omega)
        rw [add_mk] at q0
        rw [add_mk] at q1
        by_cases hp : j % 2 = 0
        · rw [if_pos hp] at hw; subst hw
          rw [show off + j = off + j / 2 * 2 by omega]; exact q0
        · rw [if_neg hp] at hw; subst hw
          rw [show off + j = off + (j / 2 * 2 + 1) by omega]; exact q1
/-- two sides and numbers -/
theorem open_M {W : World} {base : Nat} {T ti tm e tb ts T' : TypeId} {v : Value} {d : DataW H} {ps : List MemPlace} (hfM : fsB P T = some [(ti, 0), (ti, 1), (tm, 2)]) (hui : P.underlying ti = some (.int .i64)) (hT : P.underlying tm = some (.slice e)) (hfs : fsB P e = some [(tb, 0), (ts, 1)]) (hub : P.underlying tb = some .bool) (hu : P.underlying ts = some (.slice T')) (hu' : P.underlying T' = some (.int .u64)) (hc : P.cellsOf T' = 1) (hcb : P.cellsOf tb = 1) (hcs : P.cellsOf ts = 1) (hce : P.cellsOf e = 2)
    (hci : P.cellsOf ti = 1) (hcm : P.cellsOf tm = 1) (hcT : P.cellsOf T = 3) (hv : Value.okWide P W .any base T v) (h : DataW.Trod enc P W 0 (fun _ => true) true T v d ps) (hps : ∀ x ∈ ps, x.block < W.heap.size) : ∃ x : Int × Int × List (Bool × List Nat), (isM x.1 x.2.1 x.2.2).h W (fun b => b < W.heap.size) v := by
  obtain ⟨fs, huT, hsz, hget⟩ := fsB_spec hfM
  have hv' := hv
  simp only [Value.okWide, huT] at hv'
  obtain ⟨cs, rfl, _, _⟩ := hv'
  obtain ⟨fuel, hf⟩ := h
  obtain ⟨xs, m, _, hx, hl, hxl, hfe⟩ := DataW.trod_struct huT hf
  simp [Value.cells] at hl hx
  obtain ⟨f0, g0, rfl, e0⟩ := hget 0 ti 0 rfl
  obtain ⟨f1, g1, k1, e1⟩ := hget 1 _ 1 rfl
  obtain ⟨f2, g2, rfl, e2⟩ := hget 2 tm 2 rfl
  have h0 := hfe 0 f0 g0
  have h1 := hfe 1 f1 g1
  have h2 := hfe 2 f2 g2
  rw [List.getElem?_eq_getElem (by rw [hxl, hsz]; simp)] at h0 h1 h2
  rw [e0, hci] at h0
  rw [e1, k1, hci] at h1
  rw [e2, hcm] at h2
  obtain ⟨r, hr, hr1, hr2⟩ := rd_I hui h0
  obtain ⟨c, hc1, hc2, hc3⟩ := rd_I hui h1
  obtain ⟨u, ws, hu1, hw⟩ := rd_Zs hT hfs hub hu hu' hc hcb hcs hce h2 (fun y hy => hps y (by
    rw [hx.2]
    exact List.mem_flatMap.2 ⟨_, List.getElem_mem _, hy⟩))
  refine ⟨(r, c, ws), cs.toList, by simp, ?_⟩
  have hcs2 : cs.toList = [.int .i64 r, .int .i64 c, u] := by
    have hlen : cs.toList.length = 3 := by rw [← hcT]; simpa using hl
    match hq : cs.toList, hlen with
    | [p, q, t], _ =>
      have a1 : [p] = [Value.int .i64 r] := by have := hr; simpa [Value.cells, hq] using this
      have a2 : [q] = [Value.int .i64 c] := by have := hc1; simpa [Value.cells, hq] using this
      have a3 : [t] = [u] := by have := hu1; simpa [Value.cells, hq] using this
      rw [List.cons.inj a1 |>.1, List.cons.inj a2 |>.1, List.cons.inj a3 |>.1]
  rw [hcs2]
  exact ⟨⟨rfl, hr1, hr2⟩, ⟨rfl, hc2, hc3⟩, hw, trivial⟩
end
end Go.En
/- A law of layer 26, as it is stated. -/
namespace Go.Proofs.YtkgipdidomikbaaGreat
open Go.En Go.RowKit
set_option linter.unusedVariables false
set_option maxRecDepth 10000
open Go.ChangeShapes
open Go.WideShapes
open Go.ChangeAt
open Go.Nt
theorem opens_ZcharFields : Opens Tryz.prog Tryz.f3 3 := by
  intro H enc W base args ds ps hval hA hlt
  rw [Tryz.params3] at hA hval
  obtain ⟨v0, vs0, d0, ds0, p0, q0, hargs, rfl, rfl, h0, r0⟩ := trodAll_cons hA
  obtain ⟨v1, vs1, d1, ds1, p1, q1, rfl, rfl, rfl, h1, r1⟩ := trodAll_cons r0
  obtain ⟨rfl, rfl, rfl⟩ := trodAll_nil r1
  obtain rfl : args = #[v0, v1] := by cases args; simp_all
  obtain ⟨x0, o0⟩ := open_N un5 rfl (hval 0 5 v0 rfl rfl) h0
  obtain ⟨x1, o1⟩ := open_M fs24 un3 un22 fs61 un4 un59 un28 (by kernel_rfl) (by kernel_rfl) (by kernel_rfl) (by kernel_rfl) (by kernel_rfl) (by kernel_rfl) (by kernel_rfl) (hval 1 24 v1 rfl rfl) h1 (fun x hx => hlt x (by simp [hx]))
  refine ⟨_, ?_, c_ZcharFields x0 x1.1 x1.2.1 x1.2.2⟩
  exact ⟨o0 _, o1, trivial⟩
theorem jn_ZcharFields : Tryz.pinned.checked.prog.funcNamed Rows.zcharFieldsRow.func = some 3 := by kernel_rfl
theorem jf_ZcharFields : joinedFacts Tryz.pinned.checked.prog 3 Tryz.f3 Rows.zcharFieldsSpec Rows.zcharFieldsRow = true := by kernel_rfl
theorem jl_ZcharFields : laidOutB Tryz.checked.prog = true := by kernel_rfl
theorem zcharFields_said : Rows.ZcharFieldsSaid :=
  OpenClaim.holds_of_wide 3 Tryz.f3 rfl rfl rfl rfl rfl rfl rfl ⟨rfl, rfl, rfl, rfl, rfl⟩ rfl rfl rfl rfl rfl jn_ZcharFields Tryz.func3 jf_ZcharFields
    (of_decide_eq_true (by kernel_rfl)) (by unfold Func.isWrapper; first | (rw [if_pos (by decide +kernel)]; kernel_rfl) | (rw [if_neg (by decide +kernel)]; exact ⟨rfl, rfl⟩))
    (fun os started H enc _ => lift_law (C := Tryz.checked) (s := Rows.zcharFieldsSpec) (by kernel_rfl) started (by kernel_rfl) Tryz.func3
      (ChangeSpec.witness6 (enc := enc) (C := Tryz.checked) false ⟨#[], #[.int .u8 0, .agg #[.int .i64 0, .int .i64 0, .slice none 0 0]], []⟩ 8 (by kernel_rfl) (by kernel_rfl) (by kernel_rfl) (by kernel_rfl))
      jl_ZcharFields (by kernel_rfl) rfl rfl un4 (fun ds h => by match ds, h with | [d0, d1], _ => rfl) opens_ZcharFields)
#print axioms zcharFields_said
end Go.Proofs.YtkgipdidomikbaaGreat
