/- The law HnfWithin, as it is stated, of the given program, for every input; no condition. -/
import Derived.Test.YtiieaohnpnojmaaQHnfWithin5
import Derived.Deep.SlicePairs
import Derived.Test.YtiieaohnpnojmaaRows
/- Contracts: layer 14's laws: rows within others. -/
namespace Go.Proofs.Ytiieaohnpnojmaa
open Go.En Go.RowKit
set_option linter.unusedVariables false
set_option maxRecDepth 10000
open Go.Nt
open Go.Pz
open Go.Mz
open Go.Hn
open Go.Hp
open Go.Dt
set_option maxHeartbeats 4000000 in
theorem c_HnfWithin_00 (Ra Ca Rb Cb Rc Cc : Nat) (xs ys zs : List (Bool × List Nat)) (hRa : Ra ≤ 64) (hCa : Ca ≤ 64) (hRb : Rb ≤ 64) (hCb : Cb ≤ 64) (hRc : Rc ≤ 64) (hCc : Cc ≤ 64) (hl : xs.length = Ra * Ca) (hyl : ys.length = Rb * Cb) (hzl : zs.length = Rc * Cc) (hm : Cc ≠ Rb) (hw : Ca ≠ Cb) : Ctr Try.prog 14 [isM (Ra : Int) (Ca : Int) xs, isM (Rb : Int) (Cb : Int) ys, isM (Rc : Int) (Cc : Int) zs] (isB true) := by
  refine Ctr.intro Try.func14 rfl (by kernel_rfl) Try.ntmps14 rfl fun w0 F0 => ?_
  refine Tri.cv (Cv.wk (.cons (t := 0) (Has.t rfl) (.cons (t := 1) (Has.t rfl) (.cons (t := 2) (Has.t rfl) .nil)))) ?_
  refine Tri.fact (Has.okM (Has.t (t := 0) rfl)) fun okp0 => ?_
  refine Tri.fact (Has.okM (Has.t (t := 1) rfl)) fun okp1 => ?_
  refine Tri.fact (Has.okM (Has.t (t := 2) rfl)) fun okp2 => ?_
  have hfa := formB_true hRa hCa hl
  have hfb := formB_true hRb hCb hyl
  have hfc := formB_true hRc hCc hzl
  refine Tri.seq fun K1 hK1 => ?_
  refine Tri.region ?_
  refine Ops.box (Has.t rfl) rfl fun b1 => ?_
  refine Ops.box (Has.t rfl) rfl fun b2 => ?_
  refine Ops.box (Has.t rfl) rfl fun b3 => ?_
  refine st (OK1.as (Has.cB false)) rfl ?_
  refine nl ?_
  refine At.thn (hK1 _ _ ?_); clear hK1
  refine Tri.seq fun K2 hK2 => ?_
  refine Tri.seq fun K3 hK3 => ?_
  refine Tri.region ?_
  refine st (OK1.call (law14_awake) .nil) rfl ?_
  refine st (OK1.not (Has.t rfl)) rfl ?_
  refine st (OK1.mv (Has.t rfl)) rfl ?_
  refine stF rfl rfl (fun hg => have hg' := BP.t hg; OK1.load (Has.t rfl) (i := 2) rfl ty63 rfl (Ss' := [_, _, _]) rfl) rfl ?_
  refine stF rfl rfl (fun hg => have hg' := BP.t hg; OK1.call (ref11_Few) (.cons (Has.g rfl hg) (.cons (Has.cI 4 rfl) (.cons (Has.cI 1 rfl) .nil)))) rfl ?_
  refine stF rfl rfl (fun hg => have hg' := BP.t hg; OK1.not (Has.g rfl hg)) rfl ?_
  refine st (OK1.pickOr (Has.t rfl) (fun h => Has.g rfl (ng h))) rfl ?_
  refine st (OK1.mv (Has.t rfl)) rfl ?_
  refine stF rfl rfl (fun hg => have hg' := BP.t hg; OK1.load (Has.t rfl) (i := 1) rfl ty63 rfl (Ss' := [_, _, _]) rfl) rfl ?_
  refine stF rfl rfl (fun hg => have hg' := BP.t hg; OK1.call (ref11_Few) (.cons (Has.g rfl hg) (.cons (Has.cI 4 rfl) (.cons (Has.cI 1 rfl) .nil)))) rfl ?_
  refine stF rfl rfl (fun hg => have hg' := BP.t hg; OK1.not (Has.g rfl hg)) rfl ?_
  refine st (OK1.pickOr (Has.t rfl) (fun h => Has.g rfl (ng h))) rfl ?_
  refine st (OK1.mv (Has.t rfl)) rfl ?_
  refine stF rfl rfl (fun hg => have hg' := BP.t hg; OK1.load (Has.t rfl) (i := 0) rfl ty63 rfl (Ss' := [_, _, _]) rfl) rfl ?_
  refine stF rfl rfl (fun hg => have hg' := BP.t hg; OK1.call (ref11_Few) (.cons (Has.g rfl hg) (.cons (Has.cI 4 rfl) (.cons (Has.cI 1 rfl) .nil)))) rfl ?_
  refine stF rfl rfl (fun hg => have hg' := BP.t hg; OK1.not (Has.g rfl hg)) rfl ?_
  refine st (OK1.pickOr (Has.t rfl) (fun h => Has.g rfl (ng h))) rfl ?_
  refine st (OK1.mv (Has.t rfl)) rfl ?_
  refine stF rfl rfl (fun hg => have hg' := BP.t hg; OK1.load (Has.t rfl) (i := 2) rfl ty63 rfl (Ss' := [_, _, _]) rfl) rfl ?_
  refine stF rfl rfl (fun hg => have hg' := BP.t hg; OK1.eq (OK1.call (ref11_Formed) (.cons (Has.g rfl hg) .nil)) ((show isB _ = isB true from isB_eq (hfa)))) rfl ?_
  refine stF rfl rfl (fun hg => have hg' := BP.t hg; OK1.not (Has.g rfl hg)) rfl ?_
  refine st (OK1.pickOr (Has.t rfl) (fun h => Has.g rfl (ng h))) rfl ?_
  refine st (OK1.mv (Has.t rfl)) rfl ?_
  refine stF rfl rfl (fun hg => have hg' := BP.t hg; OK1.load (Has.t rfl) (i := 1) rfl ty63 rfl (Ss' := [_, _, _]) rfl) rfl ?_
  refine stF rfl rfl (fun hg => have hg' := BP.t hg; OK1.eq (OK1.call (ref11_Formed) (.cons (Has.g rfl hg) .nil)) ((show isB _ = isB true from isB_eq (hfb)))) rfl ?_
  refine stF rfl rfl (fun hg => have hg' := BP.t hg; OK1.not (Has.g rfl hg)) rfl ?_
  refine st (OK1.pickOr (Has.t rfl) (fun h => Has.g rfl (ng h))) rfl ?_
  refine st (OK1.mv (Has.t rfl)) rfl ?_
  refine stF rfl rfl (fun hg => have hg' := BP.t hg; OK1.load (Has.t rfl) (i := 0) rfl ty63 rfl (Ss' := [_, _, _]) rfl) rfl ?_
  refine stF rfl rfl (fun hg => have hg' := BP.t hg; OK1.eq (OK1.call (ref11_Formed) (.cons (Has.g rfl hg) .nil)) ((show isB _ = isB true from isB_eq (hfc)))) rfl ?_
  refine stF rfl rfl (fun hg => have hg' := BP.t hg; OK1.not (Has.g rfl hg)) rfl ?_
  refine st (OK1.pickOr (Has.t rfl) (fun h => Has.g rfl (ng h))) rfl ?_
  refine nl ?_
  refine At.thn (hK3 _ _ ?_); clear hK3
  refine Tri.cv (Cv.wk (.cons (t := 3) (Has.t rfl) (.cons (t := 4) (Has.t rfl) (.cons (t := 5) (Has.t rfl) (.cons (t := 6) (Has.t rfl) (.cons (t := 50) (Has.t rfl) .nil)))))) ?_
  refine Tri.cond (Has.t rfl) (fun hc1 => ?_) (fun hc1 => ?_)
  · have hc1 := BP.t hc1
    skip
    refine Tri.seq fun K4 hK4 => ?_
    refine Tri.region ?_
    refine st (OK1.call (law14_awake) .nil) rfl ?_
    refine st (OK1.as (Has.t rfl)) rfl ?_
    refine nl ?_
    refine At.thn (hK4 _ _ ?_); clear hK4
    refine Tri.ret ?_
    refine At.thr ?_
    refine rt1 (.inl rfl) Try.results14 rfl (.tmp (Has.t' rfl ?_) .nil)
    all_goals (rfl)
  · have hc1 := BP.f hc1
    have HF0 : ((Ra : Int) ≤ 4 ∧ (Ca : Int) ≤ 4 ∧ fewB xs 100 1 = true) ∧ ((Rb : Int) ≤ 4 ∧ (Cb : Int) ≤ 4 ∧ fewB ys 100 1 = true) ∧ ((Rc : Int) ≤ 4 ∧ (Cc : Int) ≤ 4 ∧ fewB zs 100 1 = true) := (by simpa [and_assoc] using hc1)
    obtain ⟨⟨a1, a2, a3⟩, ⟨e1, e2, e3⟩, ⟨g1, g2, g3⟩⟩ := HF0
    obtain ⟨_, hbx⟩ := fewB_bd (N := 100) (K := 1) okp0 a3 rfl rfl (by decide)
    obtain ⟨_, hby⟩ := fewB_bd (N := 100) (K := 1) okp1 e3 rfl rfl (by decide)
    obtain ⟨_, hbz⟩ := fewB_bd (N := 100) (K := 1) okp2 g3 rfl rfl (by decide)
    have hpw : ∀ r, r ≤ 8 → (1 + 4) * (r + 2) ^ Cb ≤ 50000 := fun r hr => by
      have q1 := Nat.pow_le_pow_left (show r + 2 ≤ 10 by omega) Cb
      have q2 := Nat.pow_le_pow_right (show 0 < 10 by decide) (show Cb ≤ 4 by omega)
      have q3 : 10 ^ 4 = 10000 := by decide
      omega
    have hpb := hpw Rb (by omega)
    refine Tri.skip ?_
    refine At.thn (hK2 _ _ ?_); clear hK2
    refine Tri.seq fun K5 hK5 => ?_
    refine Tri.region ?_
    refine st (OK1.load (Has.t rfl) (i := 0) rfl ty63 rfl (Ss' := [_, _, _]) rfl) rfl ?_
    refine st (OK1.load (Has.t rfl) (i := 1) rfl ty63 rfl (Ss' := [_, _, _]) rfl) rfl ?_
    refine st (OK1.call (zmat_Mul_bad hRc hCc hRb hCb hzl hyl hm) (.cons (Has.t rfl) (.cons (Has.t rfl) .nil))) rfl ?_
    refine st (OK1.mv (Has.t rfl)) rfl ?_
    refine st (OK1.ext (Has.t rfl) rfl) rfl ?_
    refine st (OK1.ext (Has.t rfl) rfl) rfl ?_
    refine Ops.alloc [isI 0, isI 0, nilS] zero63 (fun _ _ => ⟨⟨rfl, by decide, by decide⟩, ⟨rfl, by decide, by decide⟩, rfl, trivial⟩) rfl fun b4 => ?_
    refine Ops.store (Has.t rfl) (Has.t rfl) (i := 0) rfl ty63 rfl rfl (Ss' := [_, _, _]) rfl (M' := [(some _, cellM [_, _, _]), _, _, _]) rfl ?_
    refine st (OK1.as (Has.t rfl)) rfl ?_
    refine nl ?_
    refine At.thn (hK5 _ _ ?_); clear hK5
    refine Tri.cv (Cv.wk (.cons (t := 3) (Has.t rfl) (.cons (t := 4) (Has.t rfl) (.cons (t := 6) (Has.t rfl) (.cons (t := 7) (Has.t rfl) (.cons (t := 8) (Has.t rfl) .nil)))))) ?_
    refine Tri.seq fun K6 hK6 => ?_
    refine Tri.seq fun K7 hK7 => ?_
    refine Tri.region ?_
    refine st (OK1.mv (Has.t rfl)) rfl ?_
    refine st (OK1.eqI (Has.t rfl) (Has.cI 0 rfl)) rfl ?_
    refine nl ?_
    refine At.thn (hK7 _ _ ?_); clear hK7
    refine Tri.cond (Has.t rfl) (fun hc2 => ?_) (fun hc2 => ?_)
    · have hc2 := BP.t hc2
      exfalso; omega
    · have hc2 := BP.f hc2
      skip
      refine Tri.skip ?_
      refine At.thn (hK6 _ _ ?_); clear hK6
      refine Tri.seq fun K8 hK8 => ?_
      refine Tri.region ?_
      refine st (OK1.load (Has.t rfl) (i := 3) rfl ty63 rfl (Ss' := [_, _, _]) rfl) rfl ?_
      refine st (OK1.load (Has.t rfl) (i := 2) rfl ty63 rfl (Ss' := [_, _, _]) rfl) rfl ?_
      refine st (OK1.call (hnf_Within_bad hRa hRb hCa hCb hl hyl hw) (.cons (Has.t rfl) (.cons (Has.t rfl) .nil))) rfl ?_
      refine st (OK1.mv (Has.t rfl)) rfl ?_
      refine st (OK1.ext (Has.t rfl) rfl) rfl ?_
      refine st (OK1.ext (Has.t rfl) rfl) rfl ?_
      refine st (OK1.as (Has.t rfl)) rfl ?_
      refine st (OK1.as (Has.t rfl)) rfl ?_
      refine nl ?_
      refine At.thn (hK8 _ _ ?_); clear hK8
      refine Tri.cv (Cv.wk (.cons (t := 3) (Has.t rfl) (.cons (t := 4) (Has.t rfl) (.cons (t := 6) (Has.t rfl) (.cons (t := 11) (Has.t rfl) (.cons (t := 12) (Has.t rfl) .nil)))))) ?_
      refine Tri.seq fun K9 hK9 => ?_
      refine Tri.seq fun K10 hK10 => ?_
      refine Tri.region ?_
      refine st (OK1.fieldAddr (Has.t rfl) fld63_1 ty3) rfl ?_
      refine st (OK1.load1 (Has.t rfl) (i := 3) rfl ty3 rfl) rfl ?_
      refine st (OK1.fieldAddr (Has.t rfl) fld63_1 ty3) rfl ?_
      refine st (OK1.load1 (Has.t rfl) (i := 2) rfl ty3 rfl) rfl ?_
      refine st (OK1.neI (Has.t rfl) (Has.t rfl)) rfl ?_
      refine nl ?_
      refine At.thn (hK10 _ _ ?_); clear hK10
      refine Tri.cond (Has.t rfl) (fun hc3 => ?_) (fun hc3 => ?_)
      · have hc3 := BP.t hc3
        refine Tri.seq fun K11 hK11 => ?_
        refine Tri.region ?_
        refine st (OK1.mv (Has.t rfl)) rfl ?_
        refine st (OK1.eqI (Has.t rfl) (Has.cI 2 rfl)) rfl ?_
        refine st (OK1.mv (Has.t rfl)) rfl ?_
        refine stT rfl rfl (fun hg => have hg' := BP.t hg; OK1.mv (Has.t rfl)) rfl ?_
        refine stT rfl rfl (fun hg => have hg' := BP.t hg; OK1.not (Has.g rfl hg)) rfl ?_
        refine st (OK1.pickAnd (Has.t rfl) (fun h => Has.g rfl h)) rfl ?_
        refine st (OK1.as (Has.t rfl)) rfl ?_
        refine nl ?_
        refine At.thn (hK11 _ _ ?_); clear hK11
        refine Tri.cv (Cv.wk (.cons (t := 3) (Has.t rfl) (.cons (t := 4) (Has.t rfl) (.cons (t := 6) (Has.t rfl) (.cons (t := 11) (Has.t rfl) (.cons (t := 12) (Has.t rfl) .nil)))))) ?_
        refine Tri.ret ?_
        refine At.thr ?_
        refine rt1 (.inl rfl) Try.results14 rfl (.tmp (Has.t' rfl ?_) .nil)
        all_goals (rfl)
      · have hc3 := BP.f hc3
        exfalso; omega
set_option maxHeartbeats 4000000 in
theorem c_HnfWithin_01 (Ra Rb Cb Rc Cc : Nat) (xs ys zs : List (Bool × List Nat)) (hRa : Ra ≤ 64) (hRb : Rb ≤ 64) (hCb : Cb ≤ 64) (hRc : Rc ≤ 64) (hCc : Cc ≤ 64) (hl : xs.length = Ra * Cb) (hyl : ys.length = Rb * Cb) (hzl : zs.length = Rc * Cc) (hm : Cc ≠ Rb) : Ctr Try.prog 14 [isM (Ra : Int) (Cb : Int) xs, isM (Rb : Int) (Cb : Int) ys, isM (Rc : Int) (Cc : Int) zs] (isB true) := by
  refine Ctr.intro Try.func14 rfl (by kernel_rfl) Try.ntmps14 rfl fun w0 F0 => ?_
  refine Tri.cv (Cv.wk (.cons (t := 0) (Has.t rfl) (.cons (t := 1) (Has.t rfl) (.cons (t := 2) (Has.t rfl) .nil)))) ?_
  refine Tri.fact (Has.okM (Has.t (t := 0) rfl)) fun okp0 => ?_
  refine Tri.fact (Has.okM (Has.t (t := 1) rfl)) fun okp1 => ?_
  refine Tri.fact (Has.okM (Has.t (t := 2) rfl)) fun okp2 => ?_
  have hfa := formB_true hRa hCb hl
  have hfb := formB_true hRb hCb hyl
  have hfc := formB_true hRc hCc hzl
  refine Tri.seq fun K1 hK1 => ?_
  refine Tri.region ?_
  refine Ops.box (Has.t rfl) rfl fun b1 => ?_
  refine Ops.box (Has.t rfl) rfl fun b2 => ?_
  refine Ops.box (Has.t rfl) rfl fun b3 => ?_
  refine st (OK1.as (Has.cB false)) rfl ?_
  refine nl ?_
  refine At.thn (hK1 _ _ ?_); clear hK1
  refine Tri.seq fun K2 hK2 => ?_
  refine Tri.seq fun K3 hK3 => ?_
  refine Tri.region ?_
  refine st (OK1.call (law14_awake) .nil) rfl ?_
  refine st (OK1.not (Has.t rfl)) rfl ?_
  refine st (OK1.mv (Has.t rfl)) rfl ?_
  refine stF rfl rfl (fun hg => have hg' := BP.t hg; OK1.load (Has.t rfl) (i := 2) rfl ty63 rfl (Ss' := [_, _, _]) rfl) rfl ?_
  refine stF rfl rfl (fun hg => have hg' := BP.t hg; OK1.call (ref11_Few) (.cons (Has.g rfl hg) (.cons (Has.cI 4 rfl) (.cons (Has.cI 1 rfl) .nil)))) rfl ?_
  refine stF rfl rfl (fun hg => have hg' := BP.t hg; OK1.not (Has.g rfl hg)) rfl ?_
  refine st (OK1.pickOr (Has.t rfl) (fun h => Has.g rfl (ng h))) rfl ?_
  refine st (OK1.mv (Has.t rfl)) rfl ?_
  refine stF rfl rfl (fun hg => have hg' := BP.t hg; OK1.load (Has.t rfl) (i := 1) rfl ty63 rfl (Ss' := [_, _, _]) rfl) rfl ?_
  refine stF rfl rfl (fun hg => have hg' := BP.t hg; OK1.call (ref11_Few) (.cons (Has.g rfl hg) (.cons (Has.cI 4 rfl) (.cons (Has.cI 1 rfl) .nil)))) rfl ?_
  refine stF rfl rfl (fun hg => have hg' := BP.t hg; OK1.not (Has.g rfl hg)) rfl ?_
  refine st (OK1.pickOr (Has.t rfl) (fun h => Has.g rfl (ng h))) rfl ?_
  refine st (OK1.mv (Has.t rfl)) rfl ?_
  refine stF rfl rfl (fun hg => have hg' := BP.t hg; OK1.load (Has.t rfl) (i := 0) rfl ty63 rfl (Ss' := [_, _, _]) rfl) rfl ?_
  refine stF rfl rfl (fun hg => have hg' := BP.t hg; OK1.call (ref11_Few) (.cons (Has.g rfl hg) (.cons (Has.cI 4 rfl) (.cons (Has.cI 1 rfl) .nil)))) rfl ?_
  refine stF rfl rfl (fun hg => have hg' := BP.t hg; OK1.not (Has.g rfl hg)) rfl ?_
  refine st (OK1.pickOr (Has.t rfl) (fun h => Has.g rfl (ng h))) rfl ?_
  refine st (OK1.mv (Has.t rfl)) rfl ?_
  refine stF rfl rfl (fun hg => have hg' := BP.t hg; OK1.load (Has.t rfl) (i := 2) rfl ty63 rfl (Ss' := [_, _, _]) rfl) rfl ?_
  refine stF rfl rfl (fun hg => have hg' := BP.t hg; OK1.eq (OK1.call (ref11_Formed) (.cons (Has.g rfl hg) .nil)) ((show isB _ = isB true from isB_eq (hfa)))) rfl ?_
  refine stF rfl rfl (fun hg => have hg' := BP.t hg; OK1.not (Has.g rfl hg)) rfl ?_
  refine st (OK1.pickOr (Has.t rfl) (fun h => Has.g rfl (ng h))) rfl ?_
  refine st (OK1.mv (Has.t rfl)) rfl ?_
  refine stF rfl rfl (fun hg => have hg' := BP.t hg; OK1.load (Has.t rfl) (i := 1) rfl ty63 rfl (Ss' := [_, _, _]) rfl) rfl ?_
  refine stF rfl rfl (fun hg => have hg' := BP.t hg; OK1.eq (OK1.call (ref11_Formed) (.cons (Has.g rfl hg) .nil)) ((show isB _ = isB true from isB_eq (hfb)))) rfl ?_
  refine stF rfl rfl (fun hg => have hg' := BP.t hg; OK1.not (Has.g rfl hg)) rfl ?_
  refine st (OK1.pickOr (Has.t rfl) (fun h => Has.g rfl (ng h))) rfl ?_
  refine st (OK1.mv (Has.t rfl)) rfl ?_
  refine stF rfl rfl (fun hg => have hg' := BP.t hg; OK1.load (Has.t rfl) (i := 0) rfl ty63 rfl (Ss' := [_, _, _]) rfl) rfl ?_
  refine stF rfl rfl (fun hg => have hg' := BP.t hg; OK1.eq (OK1.call (ref11_Formed) (.cons (Has.g rfl hg) .nil)) ((show isB _ = isB true from isB_eq (hfc)))) rfl ?_
  refine stF rfl rfl (fun hg => have hg' := BP.t hg; OK1.not (Has.g rfl hg)) rfl ?_
  refine st (OK1.pickOr (Has.t rfl) (fun h => Has.g rfl (ng h))) rfl ?_
  refine nl ?_
  refine At.thn (hK3 _ _ ?_); clear hK3
  refine Tri.cv (Cv.wk (.cons (t := 3) (Has.t rfl) (.cons (t := 4) (Has.t rfl) (.cons (t := 5) (Has.t rfl) (.cons (t := 6) (Has.t rfl) (.cons (t := 50) (Has.t rfl) .nil)))))) ?_
  refine Tri.cond (Has.t rfl) (fun hc1 => ?_) (fun hc1 => ?_)
  · have hc1 := BP.t hc1
    skip
    refine Tri.seq fun K4 hK4 => ?_
    refine Tri.region ?_
    refine st (OK1.call (law14_awake) .nil) rfl ?_
    refine st (OK1.as (Has.t rfl)) rfl ?_
    refine nl ?_
    refine At.thn (hK4 _ _ ?_); clear hK4
    refine Tri.ret ?_
    refine At.thr ?_
    refine rt1 (.inl rfl) Try.results14 rfl (.tmp (Has.t' rfl ?_) .nil)
    all_goals (rfl)
  · have hc1 := BP.f hc1
    have HF0 : ((Ra : Int) ≤ 4 ∧ (Cb : Int) ≤ 4 ∧ fewB xs 100 1 = true) ∧ ((Rb : Int) ≤ 4 ∧ (Cb : Int) ≤ 4 ∧ fewB ys 100 1 = true) ∧ ((Rc : Int) ≤ 4 ∧ (Cc : Int) ≤ 4 ∧ fewB zs 100 1 = true) := (by simpa [and_assoc] using hc1)
    obtain ⟨⟨a1, a2, a3⟩, ⟨e1, e2, e3⟩, ⟨g1, g2, g3⟩⟩ := HF0
    obtain ⟨_, hbx⟩ := fewB_bd (N := 100) (K := 1) okp0 a3 rfl rfl (by decide)
    obtain ⟨_, hby⟩ := fewB_bd (N := 100) (K := 1) okp1 e3 rfl rfl (by decide)
    obtain ⟨_, hbz⟩ := fewB_bd (N := 100) (K := 1) okp2 g3 rfl rfl (by decide)
    have hpw : ∀ r, r ≤ 8 → (1 + 4) * (r + 2) ^ Cb ≤ 50000 := fun r hr => by
      have q1 := Nat.pow_le_pow_left (show r + 2 ≤ 10 by omega) Cb
      have q2 := Nat.pow_le_pow_right (show 0 < 10 by decide) (show Cb ≤ 4 by omega)
      have q3 : 10 ^ 4 = 10000 := by decide
      omega
    have hpb := hpw Rb (by omega)
    have hps := hpw (Ra + Rb) (by omega)
    obtain ⟨SL, hSL⟩ : ∃ SL, SL = stkL Ra Rb Cb (vals xs) (vals ys) := ⟨_, rfl⟩
    have hSl : (SL.map nz).length = (Ra + Rb) * Cb := by rw [List.length_map, hSL]; exact tab_len _ _ _
    have hSb : Bd SL 1 := by rw [hSL]; exact Bd_tab fun i k => by split; exact hbx _; exact hby _
    obtain ⟨W, hW⟩ : ∃ W, W = winB Ra Rb Cb (mf Cb (vals xs)) (mf Cb (vals ys)) := ⟨_, rfl⟩
    have hws := within_same hSb hby hSL
    rw [← hW] at hws
    have q1 := pivL_len Cb (mf Cb (hL (Ra + Rb) Cb SL)) (Ra + Rb)
    have q2 := pivL_len Cb (mf Cb (hL Rb Cb (vals ys))) Rb
    have lb1 := latL_bd (R := Ra + Rb) (C := Cb) hSb
    have lb2 := latL_bd (R := Rb) (C := Cb) hby
    obtain ⟨L1, hL1⟩ : ∃ L1, L1 = latL (Ra + Rb) Cb SL := ⟨_, rfl⟩
    obtain ⟨L2, hL2⟩ : ∃ L2, L2 = latL Rb Cb (vals ys) := ⟨_, rfl⟩
    obtain ⟨P1, hP1⟩ : ∃ P1, P1 = (pivL Cb (mf Cb (hL (Ra + Rb) Cb SL)) (Ra + Rb)).length := ⟨_, rfl⟩
    obtain ⟨P2, hP2⟩ : ∃ P2, P2 = (pivL Cb (mf Cb (hL Rb Cb (vals ys))) Rb).length := ⟨_, rfl⟩
    have ll1 : (L1.map nz).length = P1 * Cb := by rw [List.length_map, hL1, hP1]; exact tab_len _ _ _
    have ll2 : (L2.map nz).length = P2 * Cb := by rw [List.length_map, hL2, hP2]; exact tab_len _ _ _
    rw [← hP1] at q1 hws
    rw [← hP2] at q2 hws
    rw [← hL1] at lb1 hws
    rw [← hL2] at lb2 hws
    have hf1 := formB_true (show P1 ≤ 64 by omega) hCb ll1
    have hf2 := formB_true (show P2 ≤ 64 by omega) hCb ll2
    refine Tri.skip ?_
    refine At.thn (hK2 _ _ ?_); clear hK2
    refine Tri.seq fun K5 hK5 => ?_
    refine Tri.region ?_
    refine st (OK1.load (Has.t rfl) (i := 0) rfl ty63 rfl (Ss' := [_, _, _]) rfl) rfl ?_
    refine st (OK1.load (Has.t rfl) (i := 1) rfl ty63 rfl (Ss' := [_, _, _]) rfl) rfl ?_
    refine st (OK1.call (zmat_Mul_bad hRc hCc hRb hCb hzl hyl hm) (.cons (Has.t rfl) (.cons (Has.t rfl) .nil))) rfl ?_
    refine st (OK1.mv (Has.t rfl)) rfl ?_
    refine st (OK1.ext (Has.t rfl) rfl) rfl ?_
    refine st (OK1.ext (Has.t rfl) rfl) rfl ?_
    refine Ops.alloc [isI 0, isI 0, nilS] zero63 (fun _ _ => ⟨⟨rfl, by decide, by decide⟩, ⟨rfl, by decide, by decide⟩, rfl, trivial⟩) rfl fun b4 => ?_
    refine Ops.store (Has.t rfl) (Has.t rfl) (i := 0) rfl ty63 rfl rfl (Ss' := [_, _, _]) rfl (M' := [(some _, cellM [_, _, _]), _, _, _]) rfl ?_
    refine st (OK1.as (Has.t rfl)) rfl ?_
    refine nl ?_
    refine At.thn (hK5 _ _ ?_); clear hK5
    refine Tri.cv (Cv.wk (.cons (t := 3) (Has.t rfl) (.cons (t := 4) (Has.t rfl) (.cons (t := 6) (Has.t rfl) (.cons (t := 7) (Has.t rfl) (.cons (t := 8) (Has.t rfl) .nil)))))) ?_
    refine Tri.seq fun K6 hK6 => ?_
    refine Tri.seq fun K7 hK7 => ?_
    refine Tri.region ?_
    refine st (OK1.mv (Has.t rfl)) rfl ?_
    refine st (OK1.eqI (Has.t rfl) (Has.cI 0 rfl)) rfl ?_
    refine nl ?_
    refine At.thn (hK7 _ _ ?_); clear hK7
    refine Tri.cond (Has.t rfl) (fun hc2 => ?_) (fun hc2 => ?_)
    · have hc2 := BP.t hc2
      exfalso; omega
    · have hc2 := BP.f hc2
      skip
      refine Tri.skip ?_
      refine At.thn (hK6 _ _ ?_); clear hK6
      refine Tri.seq fun K8 hK8 => ?_
      refine Tri.region ?_
      refine st (OK1.load (Has.t rfl) (i := 3) rfl ty63 rfl (Ss' := [_, _, _]) rfl) rfl ?_
      refine st (OK1.load (Has.t rfl) (i := 2) rfl ty63 rfl (Ss' := [_, _, _]) rfl) rfl ?_
      refine st (OK1.eq (OK1.call (hnf_Within (Ka := 1) (K := 1) hbx hby (by decide) (by omega) hRa hRb hCb hl hyl) (.cons (Has.t rfl) (.cons (Has.t rfl) .nil))) ((show _ = isTup [isB W, isI 0] from by rw [hW]))) rfl ?_
      refine st (OK1.mv (Has.t rfl)) rfl ?_
      refine st (OK1.ext (Has.t rfl) rfl) rfl ?_
      refine st (OK1.ext (Has.t rfl) rfl) rfl ?_
      refine st (OK1.as (Has.t rfl)) rfl ?_
      refine st (OK1.as (Has.t rfl)) rfl ?_
      refine nl ?_
      refine At.thn (hK8 _ _ ?_); clear hK8
      refine Tri.cv (Cv.wk (.cons (t := 3) (Has.t rfl) (.cons (t := 4) (Has.t rfl) (.cons (t := 6) (Has.t rfl) (.cons (t := 11) (Has.t rfl) (.cons (t := 12) (Has.t rfl) .nil)))))) ?_
      refine Tri.seq fun K9 hK9 => ?_
      refine Tri.seq fun K10 hK10 => ?_
      refine Tri.region ?_
      refine st (OK1.fieldAddr (Has.t rfl) fld63_1 ty3) rfl ?_
      refine st (OK1.load1 (Has.t rfl) (i := 3) rfl ty3 rfl) rfl ?_
      refine st (OK1.fieldAddr (Has.t rfl) fld63_1 ty3) rfl ?_
      refine st (OK1.load1 (Has.t rfl) (i := 2) rfl ty3 rfl) rfl ?_
      refine st (OK1.neI (Has.t rfl) (Has.t rfl)) rfl ?_
      refine nl ?_
      refine At.thn (hK10 _ _ ?_); clear hK10
      refine Tri.cond (Has.t rfl) (fun hc3 => ?_) (fun hc3 => ?_)
      · have hc3 := BP.t hc3
        exact absurd rfl hc3
      · have hc3 := BP.f hc3
        skip
        refine Tri.skip ?_
        refine At.thn (hK9 _ _ ?_); clear hK9
        refine Tri.cv (Cv.wk (.cons (t := 3) (Has.t rfl) (.cons (t := 4) (Has.t rfl) (.cons (t := 6) (Has.t rfl) (.cons (t := 11) (Has.t rfl) (.cons (t := 12) (Has.t rfl) .nil)))))) ?_
        refine Tri.seq fun K11 hK11 => ?_
        refine Tri.region ?_
        refine st (OK1.load (Has.t rfl) (i := 3) rfl ty63 rfl (Ss' := [_, _, _]) rfl) rfl ?_
        refine st (OK1.load (Has.t rfl) (i := 2) rfl ty63 rfl (Ss' := [_, _, _]) rfl) rfl ?_
        refine st (OK1.eq (OK1.call (zmat_Stack (K := 1) hbx hby (by decide) (by omega) hCb hl hyl) (.cons (Has.t rfl) (.cons (Has.t rfl) .nil))) ((show _ = isTup [isMz ((Ra + Rb : Nat)) Cb SL, isI 0] from by rw [hSL]))) rfl ?_
        refine st (OK1.mv (Has.t rfl)) rfl ?_
        refine st (OK1.ext (Has.t rfl) rfl) rfl ?_
        refine st (OK1.ext (Has.t rfl) rfl) rfl ?_
        refine Ops.alloc [isI 0, isI 0, nilS] zero63 (fun _ _ => ⟨⟨rfl, by decide, by decide⟩, ⟨rfl, by decide, by decide⟩, rfl, trivial⟩) rfl fun b5 => ?_
        refine Ops.store (Has.t rfl) (Has.t rfl) (i := 0) rfl ty63 rfl rfl (Ss' := [_, _, _]) rfl (M' := [(some _, cellM [_, _, _]), _, _, _, _]) rfl ?_
        refine st (OK1.as (Has.t rfl)) rfl ?_
        refine nl ?_
        refine At.thn (hK11 _ _ ?_); clear hK11
        refine Tri.cv (Cv.wk (.cons (t := 4) (Has.t rfl) (.cons (t := 6) (Has.t rfl) (.cons (t := 11) (Has.t rfl) (.cons (t := 12) (Has.t rfl) (.cons (t := 13) (Has.t rfl) .nil)))))) ?_
        refine Tri.seq fun K12 hK12 => ?_
        refine Tri.region ?_
        refine st (OK1.load (Has.t rfl) (i := 0) rfl ty63 rfl (Ss' := [_, _, _]) rfl) rfl ?_
        refine st (OK1.eq (OK1.call (hnf_Lattice (R := Ra + Rb) (K := 1) (xs := SL.map nz) (by rw [vals_nz]; exact hSb) (by omega) (by omega) hCb hSl) (.cons (Has.t rfl) .nil)) ((show _ = isTup [isMz P1 Cb L1, isI 0] from by rw [vals_nz, hL1, hP1]))) rfl ?_
        refine st (OK1.mv (Has.t rfl)) rfl ?_
        refine st (OK1.ext (Has.t rfl) rfl) rfl ?_
        refine st (OK1.ext (Has.t rfl) rfl) rfl ?_
        refine Ops.alloc [isI 0, isI 0, nilS] zero63 (fun _ _ => ⟨⟨rfl, by decide, by decide⟩, ⟨rfl, by decide, by decide⟩, rfl, trivial⟩) rfl fun b6 => ?_
        refine Ops.store (Has.t rfl) (Has.t rfl) (i := 0) rfl ty63 rfl rfl (Ss' := [_, _, _]) rfl (M' := [(some _, cellM [_, _, _]), _, _, _, _, _]) rfl ?_
        refine st (OK1.as (Has.t rfl)) rfl ?_
        refine nl ?_
        refine At.thn (hK12 _ _ ?_); clear hK12
        refine Tri.cv (Cv.wk (.cons (t := 4) (Has.t rfl) (.cons (t := 6) (Has.t rfl) (.cons (t := 11) (Has.t rfl) (.cons (t := 12) (Has.t rfl) (.cons (t := 15) (Has.t rfl) .nil)))))) ?_
        refine Tri.seq fun K13 hK13 => ?_
        refine Tri.region ?_
        refine st (OK1.load (Has.t rfl) (i := 4) rfl ty63 rfl (Ss' := [_, _, _]) rfl) rfl ?_
        refine st (OK1.eq (OK1.call (hnf_Lattice (K := 1) hby (by omega) hRb hCb hyl) (.cons (Has.t rfl) .nil)) ((show _ = isTup [isMz P2 Cb L2, isI 0] from by rw [hL2, hP2]))) rfl ?_
        refine st (OK1.mv (Has.t rfl)) rfl ?_
        refine st (OK1.ext (Has.t rfl) rfl) rfl ?_
        refine st (OK1.ext (Has.t rfl) rfl) rfl ?_
        refine Ops.alloc [isI 0, isI 0, nilS] zero63 (fun _ _ => ⟨⟨rfl, by decide, by decide⟩, ⟨rfl, by decide, by decide⟩, rfl, trivial⟩) rfl fun b7 => ?_
        refine Ops.store (Has.t rfl) (Has.t rfl) (i := 0) rfl ty63 rfl rfl (Ss' := [_, _, _]) rfl (M' := [(some _, cellM [_, _, _]), _, _, _, _, _, _]) rfl ?_
        refine st (OK1.as (Has.t rfl)) rfl ?_
        refine nl ?_
        refine At.thn (hK13 _ _ ?_); clear hK13
        refine Tri.cv (Cv.wk (.cons (t := 6) (Has.t rfl) (.cons (t := 11) (Has.t rfl) (.cons (t := 12) (Has.t rfl) (.cons (t := 15) (Has.t rfl) (.cons (t := 17) (Has.t rfl) (.cons (t := 18) (Has.t rfl) .nil))))))) ?_
        refine Tri.seq fun K14 hK14 => ?_
        refine Tri.region ?_
        refine st (OK1.mv (Has.t rfl)) rfl ?_
        refine st (OK1.eqI (Has.t rfl) (Has.cI 0 rfl)) rfl ?_
        refine st (OK1.mv (Has.t rfl)) rfl ?_
        refine stT rfl rfl (fun hg => have hg' := BP.t hg; OK1.mv (Has.t rfl)) rfl ?_
        refine stT rfl rfl (fun hg => have hg' := BP.t hg; OK1.eqI (Has.g rfl hg) (Has.cI 0 rfl)) rfl ?_
        refine st (OK1.pickAnd (Has.t rfl) (fun h => Has.g rfl h)) rfl ?_
        refine st (OK1.mv (Has.t rfl)) rfl ?_
        refine stT rfl rfl (fun hg => have hg' := BP.t hg; OK1.mv (Has.t rfl)) rfl ?_
        refine stT rfl rfl (fun hg => have hg' := BP.t hg; OK1.load (Has.t rfl) (i := 1) rfl ty63 rfl (Ss' := [_, _, _]) rfl) rfl ?_
        refine stT rfl rfl (fun hg => have hg' := BP.t hg; OK1.load (Has.t rfl) (i := 0) rfl ty63 rfl (Ss' := [_, _, _]) rfl) rfl ?_
        refine stT rfl rfl (fun hg => have hg' := BP.t hg; OK1.eq (OK1.call (zmat_Same (K := 50000) (by rw [vals_nz]; exact lb1.mono hps) (by rw [vals_nz]; exact lb2.mono hpb) (by decide)) (.cons (Has.g rfl hg) (.cons (Has.g rfl hg) .nil))) ((show _ = isB W from isB_eq (by rw [hf1, hf2, vals_nz, vals_nz, ← hws, show decide ((P1 : Int) = (P2 : Int)) = decide (P1 = P2) from decide_eq_decide.2 (by omega)]; simp)))) rfl ?_
        refine stT rfl rfl (fun hg => have hg' := BP.t hg; OK1.eqB (du := un4) rfl (Has.g rfl hg) (Has.g rfl hg)) rfl ?_
        refine st (OK1.pickAnd (Has.t rfl) (fun h => Has.g rfl h)) rfl ?_
        refine st (OK1.as (Has.t rfl)) rfl ?_
        refine nl ?_
        refine At.thn (hK14 _ _ ?_); clear hK14
        refine Tri.cv (Cv.wk (.cons (t := 6) (Has.t rfl) .nil)) ?_
        refine Tri.ret ?_
        refine rt1 (.inl rfl) Try.results14 rfl (.tmp (Has.t' rfl ?_) .nil)
        all_goals (exact isB_eq (by cases W <;> simp))
set_option maxHeartbeats 4000000 in
theorem c_HnfWithin_10 (Ra Ca Rb Cb Rc : Nat) (xs ys zs : List (Bool × List Nat)) (hRa : Ra ≤ 64) (hCa : Ca ≤ 64) (hRb : Rb ≤ 64) (hCb : Cb ≤ 64) (hRc : Rc ≤ 64) (hl : xs.length = Ra * Ca) (hyl : ys.length = Rb * Cb) (hzl : zs.length = Rc * Rb) (hw : Ca ≠ Cb) : Ctr Try.prog 14 [isM (Ra : Int) (Ca : Int) xs, isM (Rb : Int) (Cb : Int) ys, isM (Rc : Int) (Rb : Int) zs] (isB true) := by
  refine Ctr.intro Try.func14 rfl (by kernel_rfl) Try.ntmps14 rfl fun w0 F0 => ?_
  refine Tri.cv (Cv.wk (.cons (t := 0) (Has.t rfl) (.cons (t := 1) (Has.t rfl) (.cons (t := 2) (Has.t rfl) .nil)))) ?_
  refine Tri.fact (Has.okM (Has.t (t := 0) rfl)) fun okp0 => ?_
  refine Tri.fact (Has.okM (Has.t (t := 1) rfl)) fun okp1 => ?_
  refine Tri.fact (Has.okM (Has.t (t := 2) rfl)) fun okp2 => ?_
  have hfa := formB_true hRa hCa hl
  have hfb := formB_true hRb hCb hyl
  have hfc := formB_true hRc hRb hzl
  refine Tri.seq fun K1 hK1 => ?_
  refine Tri.region ?_
  refine Ops.box (Has.t rfl) rfl fun b1 => ?_
  refine Ops.box (Has.t rfl) rfl fun b2 => ?_
  refine Ops.box (Has.t rfl) rfl fun b3 => ?_
  refine st (OK1.as (Has.cB false)) rfl ?_
  refine nl ?_
  refine At.thn (hK1 _ _ ?_); clear hK1
  refine Tri.seq fun K2 hK2 => ?_
  refine Tri.seq fun K3 hK3 => ?_
  refine Tri.region ?_
  refine st (OK1.call (law14_awake) .nil) rfl ?_
  refine st (OK1.not (Has.t rfl)) rfl ?_
  refine st (OK1.mv (Has.t rfl)) rfl ?_
  refine stF rfl rfl (fun hg => have hg' := BP.t hg; OK1.load (Has.t rfl) (i := 2) rfl ty63 rfl (Ss' := [_, _, _]) rfl) rfl ?_
  refine stF rfl rfl (fun hg => have hg' := BP.t hg; OK1.call (ref11_Few) (.cons (Has.g rfl hg) (.cons (Has.cI 4 rfl) (.cons (Has.cI 1 rfl) .nil)))) rfl ?_
  refine stF rfl rfl (fun hg => have hg' := BP.t hg; OK1.not (Has.g rfl hg)) rfl ?_
  refine st (OK1.pickOr (Has.t rfl) (fun h => Has.g rfl (ng h))) rfl ?_
  refine st (OK1.mv (Has.t rfl)) rfl ?_
  refine stF rfl rfl (fun hg => have hg' := BP.t hg; OK1.load (Has.t rfl) (i := 1) rfl ty63 rfl (Ss' := [_, _, _]) rfl) rfl ?_
  refine stF rfl rfl (fun hg => have hg' := BP.t hg; OK1.call (ref11_Few) (.cons (Has.g rfl hg) (.cons (Has.cI 4 rfl) (.cons (Has.cI 1 rfl) .nil)))) rfl ?_
  refine stF rfl rfl (fun hg => have hg' := BP.t hg; OK1.not (Has.g rfl hg)) rfl ?_
  refine st (OK1.pickOr (Has.t rfl) (fun h => Has.g rfl (ng h))) rfl ?_
  refine st (OK1.mv (Has.t rfl)) rfl ?_
  refine stF rfl rfl (fun hg => have hg' := BP.t hg; OK1.load (Has.t rfl) (i := 0) rfl ty63 rfl (Ss' := [_, _, _]) rfl) rfl ?_
  refine stF rfl rfl (fun hg => have hg' := BP.t hg; OK1.call (ref11_Few) (.cons (Has.g rfl hg) (.cons (Has.cI 4 rfl) (.cons (Has.cI 1 rfl) .nil)))) rfl ?_
  refine stF rfl rfl (fun hg => have hg' := BP.t hg; OK1.not (Has.g rfl hg)) rfl ?_
  refine st (OK1.pickOr (Has.t rfl) (fun h => Has.g rfl (ng h))) rfl ?_
  refine st (OK1.mv (Has.t rfl)) rfl ?_
  refine stF rfl rfl (fun hg => have hg' := BP.t hg; OK1.load (Has.t rfl) (i := 2) rfl ty63 rfl (Ss' := [_, _, _]) rfl) rfl ?_
  refine stF rfl rfl (fun hg => have hg' := BP.t hg; OK1.eq (OK1.call (ref11_Formed) (.cons (Has.g rfl hg) .nil)) ((show isB _ = isB true from isB_eq (hfa)))) rfl ?_
  refine stF rfl rfl (fun hg => have hg' := BP.t hg; OK1.not (Has.g rfl hg)) rfl ?_
  refine st (OK1.pickOr (Has.t rfl) (fun h => Has.g rfl (ng h))) rfl ?_
  refine st (OK1.mv (Has.t rfl)) rfl ?_
  refine stF rfl rfl (fun hg => have hg' := BP.t hg; OK1.load (Has.t rfl) (i := 1) rfl ty63 rfl (Ss' := [_, _, _]) rfl) rfl ?_
  refine stF rfl rfl (fun hg => have hg' := BP.t hg; OK1.eq (OK1.call (ref11_Formed) (.cons (Has.g rfl hg) .nil)) ((show isB _ = isB true from isB_eq (hfb)))) rfl ?_
  refine stF rfl rfl (fun hg => have hg' := BP.t hg; OK1.not (Has.g rfl hg)) rfl ?_
  refine st (OK1.pickOr (Has.t rfl) (fun h => Has.g rfl (ng h))) rfl ?_
  refine st (OK1.mv (Has.t rfl)) rfl ?_
  refine stF rfl rfl (fun hg => have hg' := BP.t hg; OK1.load (Has.t rfl) (i := 0) rfl ty63 rfl (Ss' := [_, _, _]) rfl) rfl ?_
  refine stF rfl rfl (fun hg => have hg' := BP.t hg; OK1.eq (OK1.call (ref11_Formed) (.cons (Has.g rfl hg) .nil)) ((show isB _ = isB true from isB_eq (hfc)))) rfl ?_
  refine stF rfl rfl (fun hg => have hg' := BP.t hg; OK1.not (Has.g rfl hg)) rfl ?_
  refine st (OK1.pickOr (Has.t rfl) (fun h => Has.g rfl (ng h))) rfl ?_
  refine nl ?_
  refine At.thn (hK3 _ _ ?_); clear hK3
  refine Tri.cv (Cv.wk (.cons (t := 3) (Has.t rfl) (.cons (t := 4) (Has.t rfl) (.cons (t := 5) (Has.t rfl) (.cons (t := 6) (Has.t rfl) (.cons (t := 50) (Has.t rfl) .nil)))))) ?_
  refine Tri.cond (Has.t rfl) (fun hc1 => ?_) (fun hc1 => ?_)
  · have hc1 := BP.t hc1
    skip
    refine Tri.seq fun K4 hK4 => ?_
    refine Tri.region ?_
    refine st (OK1.call (law14_awake) .nil) rfl ?_
    refine st (OK1.as (Has.t rfl)) rfl ?_
    refine nl ?_
    refine At.thn (hK4 _ _ ?_); clear hK4
    refine Tri.ret ?_
    refine At.thr ?_
    refine rt1 (.inl rfl) Try.results14 rfl (.tmp (Has.t' rfl ?_) .nil)
    all_goals (rfl)
  · have hc1 := BP.f hc1
    have HF0 : ((Ra : Int) ≤ 4 ∧ (Ca : Int) ≤ 4 ∧ fewB xs 100 1 = true) ∧ ((Rb : Int) ≤ 4 ∧ (Cb : Int) ≤ 4 ∧ fewB ys 100 1 = true) ∧ ((Rc : Int) ≤ 4 ∧ (Rb : Int) ≤ 4 ∧ fewB zs 100 1 = true) := (by simpa [and_assoc] using hc1)
    obtain ⟨⟨a1, a2, a3⟩, ⟨e1, e2, e3⟩, ⟨g1, g2, g3⟩⟩ := HF0
    obtain ⟨_, hbx⟩ := fewB_bd (N := 100) (K := 1) okp0 a3 rfl rfl (by decide)
    obtain ⟨_, hby⟩ := fewB_bd (N := 100) (K := 1) okp1 e3 rfl rfl (by decide)
    obtain ⟨_, hbz⟩ := fewB_bd (N := 100) (K := 1) okp2 g3 rfl rfl (by decide)
    have hpw : ∀ r, r ≤ 8 → (1 + 4) * (r + 2) ^ Cb ≤ 50000 := fun r hr => by
      have q1 := Nat.pow_le_pow_left (show r + 2 ≤ 10 by omega) Cb
      have q2 := Nat.pow_le_pow_right (show 0 < 10 by decide) (show Cb ≤ 4 by omega)
      have q3 : 10 ^ 4 = 10000 := by decide
      omega
    have hpb := hpw Rb (by omega)
    obtain ⟨PL, hPL⟩ : ∃ PL, PL = tab (Rc * Cb) Cb fun i k => dotS (fun j => cf (vals zs) (i * Rb + j)) (fun j => cf (vals ys) (j * Cb + k)) Rb := ⟨_, rfl⟩
    have hPb : Bd (vals (PL.map nz)) 10 := by rw [vals_nz, hPL]; exact (Bd_tab fun i k => dotS_nw (K := 1) (L := 1) (fun _ => hbz _) (fun _ => hby _) Rb).mono (by omega)
    have hPl : (PL.map nz).length = Rc * Cb := by rw [List.length_map, hPL, tab_len]
    refine Tri.skip ?_
    refine At.thn (hK2 _ _ ?_); clear hK2
    refine Tri.seq fun K5 hK5 => ?_
    refine Tri.region ?_
    refine st (OK1.load (Has.t rfl) (i := 0) rfl ty63 rfl (Ss' := [_, _, _]) rfl) rfl ?_
    refine st (OK1.load (Has.t rfl) (i := 1) rfl ty63 rfl (Ss' := [_, _, _]) rfl) rfl ?_
    refine st (OK1.eq (OK1.call (zmat_Mul (R := Rc) (C := Rb) (D := Cb) (K := 1) (L := 1) hbz hby (by decide) hRc hRb hCb hzl hyl) (.cons (Has.t rfl) (.cons (Has.t rfl) .nil))) ((show _ = isTup [isMz Rc Cb PL, isI 0] from by rw [hPL]))) rfl ?_
    refine st (OK1.mv (Has.t rfl)) rfl ?_
    refine st (OK1.ext (Has.t rfl) rfl) rfl ?_
    refine st (OK1.ext (Has.t rfl) rfl) rfl ?_
    refine Ops.alloc [isI 0, isI 0, nilS] zero63 (fun _ _ => ⟨⟨rfl, by decide, by decide⟩, ⟨rfl, by decide, by decide⟩, rfl, trivial⟩) rfl fun b4 => ?_
    refine Ops.store (Has.t rfl) (Has.t rfl) (i := 0) rfl ty63 rfl rfl (Ss' := [_, _, _]) rfl (M' := [(some _, cellM [_, _, _]), _, _, _]) rfl ?_
    refine st (OK1.as (Has.t rfl)) rfl ?_
    refine nl ?_
    refine At.thn (hK5 _ _ ?_); clear hK5
    refine Tri.cv (Cv.wk (.cons (t := 3) (Has.t rfl) (.cons (t := 4) (Has.t rfl) (.cons (t := 6) (Has.t rfl) (.cons (t := 7) (Has.t rfl) (.cons (t := 8) (Has.t rfl) .nil)))))) ?_
    refine Tri.seq fun K6 hK6 => ?_
    refine Tri.seq fun K7 hK7 => ?_
    refine Tri.region ?_
    refine st (OK1.mv (Has.t rfl)) rfl ?_
    refine st (OK1.eqI (Has.t rfl) (Has.cI 0 rfl)) rfl ?_
    refine nl ?_
    refine At.thn (hK7 _ _ ?_); clear hK7
    refine Tri.cond (Has.t rfl) (fun hc2 => ?_) (fun hc2 => ?_)
    · have hc2 := BP.t hc2
      refine Tri.seq fun K8 hK8 => ?_
      refine Tri.region ?_
      refine st (OK1.load (Has.t rfl) (i := 0) rfl ty63 rfl (Ss' := [_, _, _]) rfl) rfl ?_
      refine st (OK1.load (Has.t rfl) (i := 2) rfl ty63 rfl (Ss' := [_, _, _]) rfl) rfl ?_
      refine st (OK1.eq (OK1.call (hnf_Within (Ka := 10) (K := 1) hPb hby (by decide) (by omega) hRc hRb hCb hPl hyl) (.cons (Has.t rfl) (.cons (Has.t rfl) .nil))) ((show _ = isTup [isB true, isI 0] from by rw [vals_nz, hPL, winB_iff.2 mul_win]))) rfl ?_
      refine st (OK1.mv (Has.t rfl)) rfl ?_
      refine st (OK1.ext (Has.t rfl) rfl) rfl ?_
      refine st (OK1.ext (Has.t rfl) rfl) rfl ?_
      refine st (OK1.as (Has.t rfl)) rfl ?_
      refine st (OK1.as (Has.t rfl)) rfl ?_
      refine nl ?_
      refine At.thn (hK8 _ _ ?_); clear hK8
      refine Tri.cv (Cv.wk (.cons (t := 3) (Has.t rfl) (.cons (t := 4) (Has.t rfl) (.cons (t := 6) (Has.t rfl) (.cons (t := 9) (Has.t rfl) (.cons (t := 10) (Has.t rfl) .nil)))))) ?_
      refine Tri.seq fun K9 hK9 => ?_
      refine Tri.region ?_
      refine st (OK1.mv (Has.t rfl)) rfl ?_
      refine st (OK1.neI (Has.t rfl) (Has.cI 0 rfl)) rfl ?_
      refine st (OK1.mv (Has.t rfl)) rfl ?_
      refine stF rfl rfl (fun hg => have hg' := BP.t hg; OK1.mv (Has.t rfl)) rfl ?_
      refine stF rfl rfl (fun hg => have hg' := BP.t hg; OK1.not (Has.g rfl hg)) rfl ?_
      refine st (OK1.pickOr (Has.t rfl) (fun h => Has.g rfl (ng h))) rfl ?_
      refine nl ?_
      refine At.thn (hK9 _ _ ?_); clear hK9
      refine Tri.cv (Cv.wk (.cons (t := 3) (Has.t rfl) (.cons (t := 4) (Has.t rfl) (.cons (t := 6) (Has.t rfl) (.cons (t := 71) (Has.t rfl) .nil))))) ?_
      refine Tri.cond (Has.t rfl) (fun hc3 => ?_) (fun hc3 => ?_)
      · have hc3 := BP.t hc3
        exfalso; simp at hc3
      · have hc3 := BP.f hc3
        skip
        refine Tri.skip ?_
        refine At.thn (hK6 _ _ ?_); clear hK6
        refine Tri.seq fun K10 hK10 => ?_
        refine Tri.region ?_
        refine st (OK1.load (Has.t rfl) (i := 3) rfl ty63 rfl (Ss' := [_, _, _]) rfl) rfl ?_
        refine st (OK1.load (Has.t rfl) (i := 2) rfl ty63 rfl (Ss' := [_, _, _]) rfl) rfl ?_
        refine st (OK1.call (hnf_Within_bad hRa hRb hCa hCb hl hyl hw) (.cons (Has.t rfl) (.cons (Has.t rfl) .nil))) rfl ?_
        refine st (OK1.mv (Has.t rfl)) rfl ?_
        refine st (OK1.ext (Has.t rfl) rfl) rfl ?_
        refine st (OK1.ext (Has.t rfl) rfl) rfl ?_
        refine st (OK1.as (Has.t rfl)) rfl ?_
        refine st (OK1.as (Has.t rfl)) rfl ?_
        refine nl ?_
        refine At.thn (hK10 _ _ ?_); clear hK10
        refine Tri.cv (Cv.wk (.cons (t := 3) (Has.t rfl) (.cons (t := 4) (Has.t rfl) (.cons (t := 6) (Has.t rfl) (.cons (t := 11) (Has.t rfl) (.cons (t := 12) (Has.t rfl) .nil)))))) ?_
        refine Tri.seq fun K11 hK11 => ?_
        refine Tri.seq fun K12 hK12 => ?_
        refine Tri.region ?_
        refine st (OK1.fieldAddr (Has.t rfl) fld63_1 ty3) rfl ?_
        refine st (OK1.load1 (Has.t rfl) (i := 3) rfl ty3 rfl) rfl ?_
        refine st (OK1.fieldAddr (Has.t rfl) fld63_1 ty3) rfl ?_
        refine st (OK1.load1 (Has.t rfl) (i := 2) rfl ty3 rfl) rfl ?_
        refine st (OK1.neI (Has.t rfl) (Has.t rfl)) rfl ?_
        refine nl ?_
        refine At.thn (hK12 _ _ ?_); clear hK12
        refine Tri.cond (Has.t rfl) (fun hc4 => ?_) (fun hc4 => ?_)
        · have hc4 := BP.t hc4
          refine Tri.seq fun K13 hK13 => ?_
          refine Tri.region ?_
          refine st (OK1.mv (Has.t rfl)) rfl ?_
          refine st (OK1.eqI (Has.t rfl) (Has.cI 2 rfl)) rfl ?_
          refine st (OK1.mv (Has.t rfl)) rfl ?_
          refine stT rfl rfl (fun hg => have hg' := BP.t hg; OK1.mv (Has.t rfl)) rfl ?_
          refine stT rfl rfl (fun hg => have hg' := BP.t hg; OK1.not (Has.g rfl hg)) rfl ?_
          refine st (OK1.pickAnd (Has.t rfl) (fun h => Has.g rfl h)) rfl ?_
          refine st (OK1.as (Has.t rfl)) rfl ?_
          refine nl ?_
          refine At.thn (hK13 _ _ ?_); clear hK13
          refine Tri.cv (Cv.wk (.cons (t := 3) (Has.t rfl) (.cons (t := 4) (Has.t rfl) (.cons (t := 6) (Has.t rfl) (.cons (t := 11) (Has.t rfl) (.cons (t := 12) (Has.t rfl) .nil)))))) ?_
          refine Tri.ret ?_
          refine At.thr ?_
          refine rt1 (.inl rfl) Try.results14 rfl (.tmp (Has.t' rfl ?_) .nil)
          all_goals (rfl)
        · have hc4 := BP.f hc4
          exfalso; omega
    · have hc2 := BP.f hc2
      exact absurd rfl hc2
set_option maxHeartbeats 4000000 in
theorem c_HnfWithin_11 (Ra Rb Cb Rc : Nat) (xs ys zs : List (Bool × List Nat)) (hRa : Ra ≤ 64) (hRb : Rb ≤ 64) (hCb : Cb ≤ 64) (hRc : Rc ≤ 64) (hl : xs.length = Ra * Cb) (hyl : ys.length = Rb * Cb) (hzl : zs.length = Rc * Rb) : Ctr Try.prog 14 [isM (Ra : Int) (Cb : Int) xs, isM (Rb : Int) (Cb : Int) ys, isM (Rc : Int) (Rb : Int) zs] (isB true) := by
  refine Ctr.intro Try.func14 rfl (by kernel_rfl) Try.ntmps14 rfl fun w0 F0 => ?_
  refine Tri.cv (Cv.wk (.cons (t := 0) (Has.t rfl) (.cons (t := 1) (Has.t rfl) (.cons (t := 2) (Has.t rfl) .nil)))) ?_
  refine Tri.fact (Has.okM (Has.t (t := 0) rfl)) fun okp0 => ?_
  refine Tri.fact (Has.okM (Has.t (t := 1) rfl)) fun okp1 => ?_
  refine Tri.fact (Has.okM (Has.t (t := 2) rfl)) fun okp2 => ?_
  have hfa := formB_true hRa hCb hl
  have hfb := formB_true hRb hCb hyl
  have hfc := formB_true hRc hRb hzl
  refine Tri.seq fun K1 hK1 => ?_
  refine Tri.region ?_
  refine Ops.box (Has.t rfl) rfl fun b1 => ?_
  refine Ops.box (Has.t rfl) rfl fun b2 => ?_
  refine Ops.box (Has.t rfl) rfl fun b3 => ?_
  refine st (OK1.as (Has.cB false)) rfl ?_
  refine nl ?_
  refine At.thn (hK1 _ _ ?_); clear hK1
  refine Tri.seq fun K2 hK2 => ?_
  refine Tri.seq fun K3 hK3 => ?_
  refine Tri.region ?_
  refine st (OK1.call (law14_awake) .nil) rfl ?_
  refine st (OK1.not (Has.t rfl)) rfl ?_
  refine st (OK1.mv (Has.t rfl)) rfl ?_
  refine stF rfl rfl (fun hg => have hg' := BP.t hg; OK1.load (Has.t rfl) (i := 2) rfl ty63 rfl (Ss' := [_, _, _]) rfl) rfl ?_
  refine stF rfl rfl (fun hg => have hg' := BP.t hg; OK1.call (ref11_Few) (.cons (Has.g rfl hg) (.cons (Has.cI 4 rfl) (.cons (Has.cI 1 rfl) .nil)))) rfl ?_
  refine stF rfl rfl (fun hg => have hg' := BP.t hg; OK1.not (Has.g rfl hg)) rfl ?_
  refine st (OK1.pickOr (Has.t rfl) (fun h => Has.g rfl (ng h))) rfl ?_
  refine st (OK1.mv (Has.t rfl)) rfl ?_
  refine stF rfl rfl (fun hg => have hg' := BP.t hg; OK1.load (Has.t rfl) (i := 1) rfl ty63 rfl (Ss' := [_, _, _]) rfl) rfl ?_
  refine stF rfl rfl (fun hg => have hg' := BP.t hg; OK1.call (ref11_Few) (.cons (Has.g rfl hg) (.cons (Has.cI 4 rfl) (.cons (Has.cI 1 rfl) .nil)))) rfl ?_
  refine stF rfl rfl (fun hg => have hg' := BP.t hg; OK1.not (Has.g rfl hg)) rfl ?_
  refine st (OK1.pickOr (Has.t rfl) (fun h => Has.g rfl (ng h))) rfl ?_
  refine st (OK1.mv (Has.t rfl)) rfl ?_
  refine stF rfl rfl (fun hg => have hg' := BP.t hg; OK1.load (Has.t rfl) (i := 0) rfl ty63 rfl (Ss' := [_, _, _]) rfl) rfl ?_
  refine stF rfl rfl (fun hg => have hg' := BP.t hg; OK1.call (ref11_Few) (.cons (Has.g rfl hg) (.cons (Has.cI 4 rfl) (.cons (Has.cI 1 rfl) .nil)))) rfl ?_
  refine stF rfl rfl (fun hg => have hg' := BP.t hg; OK1.not (Has.g rfl hg)) rfl ?_
  refine st (OK1.pickOr (Has.t rfl) (fun h => Has.g rfl (ng h))) rfl ?_
  refine st (OK1.mv (Has.t rfl)) rfl ?_
  refine stF rfl rfl (fun hg => have hg' := BP.t hg; OK1.load (Has.t rfl) (i := 2) rfl ty63 rfl (Ss' := [_, _, _]) rfl) rfl ?_
  refine stF rfl rfl (fun hg => have hg' := BP.t hg; OK1.eq (OK1.call (ref11_Formed) (.cons (Has.g rfl hg) .nil)) ((show isB _ = isB true from isB_eq (hfa)))) rfl ?_
  refine stF rfl rfl (fun hg => have hg' := BP.t hg; OK1.not (Has.g rfl hg)) rfl ?_
  refine st (OK1.pickOr (Has.t rfl) (fun h => Has.g rfl (ng h))) rfl ?_
  refine st (OK1.mv (Has.t rfl)) rfl ?_
  refine stF rfl rfl (fun hg => have hg' := BP.t hg; OK1.load (Has.t rfl) (i := 1) rfl ty63 rfl (Ss' := [_, _, _]) rfl) rfl ?_
  refine stF rfl rfl (fun hg => have hg' := BP.t hg; OK1.eq (OK1.call (ref11_Formed) (.cons (Has.g rfl hg) .nil)) ((show isB _ = isB true from isB_eq (hfb)))) rfl ?_
  refine stF rfl rfl (fun hg => have hg' := BP.t hg; OK1.not (Has.g rfl hg)) rfl ?_
  refine st (OK1.pickOr (Has.t rfl) (fun h => Has.g rfl (ng h))) rfl ?_
  refine st (OK1.mv (Has.t rfl)) rfl ?_
  refine stF rfl rfl (fun hg => have hg' := BP.t hg; OK1.load (Has.t rfl) (i := 0) rfl ty63 rfl (Ss' := [_, _, _]) rfl) rfl ?_
  refine stF rfl rfl (fun hg => have hg' := BP.t hg; OK1.eq (OK1.call (ref11_Formed) (.cons (Has.g rfl hg) .nil)) ((show isB _ = isB true from isB_eq (hfc)))) rfl ?_
  refine stF rfl rfl (fun hg => have hg' := BP.t hg; OK1.not (Has.g rfl hg)) rfl ?_
  refine st (OK1.pickOr (Has.t rfl) (fun h => Has.g rfl (ng h))) rfl ?_
  refine nl ?_
  refine At.thn (hK3 _ _ ?_); clear hK3
  refine Tri.cv (Cv.wk (.cons (t := 3) (Has.t rfl) (.cons (t := 4) (Has.t rfl) (.cons (t := 5) (Has.t rfl) (.cons (t := 6) (Has.t rfl) (.cons (t := 50) (Has.t rfl) .nil)))))) ?_
  refine Tri.cond (Has.t rfl) (fun hc1 => ?_) (fun hc1 => ?_)
  · have hc1 := BP.t hc1
    skip
    refine Tri.seq fun K4 hK4 => ?_
    refine Tri.region ?_
    refine st (OK1.call (law14_awake) .nil) rfl ?_
    refine st (OK1.as (Has.t rfl)) rfl ?_
    refine nl ?_
    refine At.thn (hK4 _ _ ?_); clear hK4
    refine Tri.ret ?_
    refine At.thr ?_
    refine rt1 (.inl rfl) Try.results14 rfl (.tmp (Has.t' rfl ?_) .nil)
    all_goals (rfl)
  · have hc1 := BP.f hc1
    have HF0 : ((Ra : Int) ≤ 4 ∧ (Cb : Int) ≤ 4 ∧ fewB xs 100 1 = true) ∧ ((Rb : Int) ≤ 4 ∧ (Cb : Int) ≤ 4 ∧ fewB ys 100 1 = true) ∧ ((Rc : Int) ≤ 4 ∧ (Rb : Int) ≤ 4 ∧ fewB zs 100 1 = true) := (by simpa [and_assoc] using hc1)
    obtain ⟨⟨a1, a2, a3⟩, ⟨e1, e2, e3⟩, ⟨g1, g2, g3⟩⟩ := HF0
    obtain ⟨_, hbx⟩ := fewB_bd (N := 100) (K := 1) okp0 a3 rfl rfl (by decide)
    obtain ⟨_, hby⟩ := fewB_bd (N := 100) (K := 1) okp1 e3 rfl rfl (by decide)
    obtain ⟨_, hbz⟩ := fewB_bd (N := 100) (K := 1) okp2 g3 rfl rfl (by decide)
    have hpw : ∀ r, r ≤ 8 → (1 + 4) * (r + 2) ^ Cb ≤ 50000 := fun r hr => by
      have q1 := Nat.pow_le_pow_left (show r + 2 ≤ 10 by omega) Cb
      have q2 := Nat.pow_le_pow_right (show 0 < 10 by decide) (show Cb ≤ 4 by omega)
      have q3 : 10 ^ 4 = 10000 := by decide
      omega
    have hpb := hpw Rb (by omega)
    obtain ⟨PL, hPL⟩ : ∃ PL, PL = tab (Rc * Cb) Cb fun i k => dotS (fun j => cf (vals zs) (i * Rb + j)) (fun j => cf (vals ys) (j * Cb + k)) Rb := ⟨_, rfl⟩
    have hPb : Bd (vals (PL.map nz)) 10 := by rw [vals_nz, hPL]; exact (Bd_tab fun i k => dotS_nw (K := 1) (L := 1) (fun _ => hbz _) (fun _ => hby _) Rb).mono (by omega)
    have hPl : (PL.map nz).length = Rc * Cb := by rw [List.length_map, hPL, tab_len]
    have hps := hpw (Ra + Rb) (by omega)
    obtain ⟨SL, hSL⟩ : ∃ SL, SL = stkL Ra Rb Cb (vals xs) (vals ys) := ⟨_, rfl⟩
    have hSl : (SL.map nz).length = (Ra + Rb) * Cb := by rw [List.length_map, hSL]; exact tab_len _ _ _
    have hSb : Bd SL 1 := by rw [hSL]; exact Bd_tab fun i k => by split; exact hbx _; exact hby _
    obtain ⟨W, hW⟩ : ∃ W, W = winB Ra Rb Cb (mf Cb (vals xs)) (mf Cb (vals ys)) := ⟨_, rfl⟩
    have hws := within_same hSb hby hSL
    rw [← hW] at hws
    have q1 := pivL_len Cb (mf Cb (hL (Ra + Rb) Cb SL)) (Ra + Rb)
    have q2 := pivL_len Cb (mf Cb (hL Rb Cb (vals ys))) Rb
    have lb1 := latL_bd (R := Ra + Rb) (C := Cb) hSb
    have lb2 := latL_bd (R := Rb) (C := Cb) hby
    obtain ⟨L1, hL1⟩ : ∃ L1, L1 = latL (Ra + Rb) Cb SL := ⟨_, rfl⟩
    obtain ⟨L2, hL2⟩ : ∃ L2, L2 = latL Rb Cb (vals ys) := ⟨_, rfl⟩
    obtain ⟨P1, hP1⟩ : ∃ P1, P1 = (pivL Cb (mf Cb (hL (Ra + Rb) Cb SL)) (Ra + Rb)).length := ⟨_, rfl⟩
    obtain ⟨P2, hP2⟩ : ∃ P2, P2 = (pivL Cb (mf Cb (hL Rb Cb (vals ys))) Rb).length := ⟨_, rfl⟩
    have ll1 : (L1.map nz).length = P1 * Cb := by rw [List.length_map, hL1, hP1]; exact tab_len _ _ _
    have ll2 : (L2.map nz).length = P2 * Cb := by rw [List.length_map, hL2, hP2]; exact tab_len _ _ _
    rw [← hP1] at q1 hws
    rw [← hP2] at q2 hws
    rw [← hL1] at lb1 hws
    rw [← hL2] at lb2 hws
    have hf1 := formB_true (show P1 ≤ 64 by omega) hCb ll1
    have hf2 := formB_true (show P2 ≤ 64 by omega) hCb ll2
    refine Tri.skip ?_
    refine At.thn (hK2 _ _ ?_); clear hK2
    refine Tri.seq fun K5 hK5 => ?_
    refine Tri.region ?_
    refine st (OK1.load (Has.t rfl) (i := 0) rfl ty63 rfl (Ss' := [_, _, _]) rfl) rfl ?_
    refine st (OK1.load (Has.t rfl) (i := 1) rfl ty63 rfl (Ss' := [_, _, _]) rfl) rfl ?_
    refine st (OK1.eq (OK1.call (zmat_Mul (R := Rc) (C := Rb) (D := Cb) (K := 1) (L := 1) hbz hby (by decide) hRc hRb hCb hzl hyl) (.cons (Has.t rfl) (.cons (Has.t rfl) .nil))) ((show _ = isTup [isMz Rc Cb PL, isI 0] from by rw [hPL]))) rfl ?_
    refine st (OK1.mv (Has.t rfl)) rfl ?_
    refine st (OK1.ext (Has.t rfl) rfl) rfl ?_
    refine st (OK1.ext (Has.t rfl) rfl) rfl ?_
    refine Ops.alloc [isI 0, isI 0, nilS] zero63 (fun _ _ => ⟨⟨rfl, by decide, by decide⟩, ⟨rfl, by decide, by decide⟩, rfl, trivial⟩) rfl fun b4 => ?_
    refine Ops.store (Has.t rfl) (Has.t rfl) (i := 0) rfl ty63 rfl rfl (Ss' := [_, _, _]) rfl (M' := [(some _, cellM [_, _, _]), _, _, _]) rfl ?_
    refine st (OK1.as (Has.t rfl)) rfl ?_
    refine nl ?_
    refine At.thn (hK5 _ _ ?_); clear hK5
    refine Tri.cv (Cv.wk (.cons (t := 3) (Has.t rfl) (.cons (t := 4) (Has.t rfl) (.cons (t := 6) (Has.t rfl) (.cons (t := 7) (Has.t rfl) (.cons (t := 8) (Has.t rfl) .nil)))))) ?_
    refine Tri.seq fun K6 hK6 => ?_
    refine Tri.seq fun K7 hK7 => ?_
    refine Tri.region ?_
    refine st (OK1.mv (Has.t rfl)) rfl ?_
    refine st (OK1.eqI (Has.t rfl) (Has.cI 0 rfl)) rfl ?_
    refine nl ?_
    refine At.thn (hK7 _ _ ?_); clear hK7
    refine Tri.cond (Has.t rfl) (fun hc2 => ?_) (fun hc2 => ?_)
    · have hc2 := BP.t hc2
      refine Tri.seq fun K8 hK8 => ?_
      refine Tri.region ?_
      refine st (OK1.load (Has.t rfl) (i := 0) rfl ty63 rfl (Ss' := [_, _, _]) rfl) rfl ?_
      refine st (OK1.load (Has.t rfl) (i := 2) rfl ty63 rfl (Ss' := [_, _, _]) rfl) rfl ?_
      refine st (OK1.eq (OK1.call (hnf_Within (Ka := 10) (K := 1) hPb hby (by decide) (by omega) hRc hRb hCb hPl hyl) (.cons (Has.t rfl) (.cons (Has.t rfl) .nil))) ((show _ = isTup [isB true, isI 0] from by rw [vals_nz, hPL, winB_iff.2 mul_win]))) rfl ?_
      refine st (OK1.mv (Has.t rfl)) rfl ?_
      refine st (OK1.ext (Has.t rfl) rfl) rfl ?_
      refine st (OK1.ext (Has.t rfl) rfl) rfl ?_
      refine st (OK1.as (Has.t rfl)) rfl ?_
      refine st (OK1.as (Has.t rfl)) rfl ?_
      refine nl ?_
      refine At.thn (hK8 _ _ ?_); clear hK8
      refine Tri.cv (Cv.wk (.cons (t := 3) (Has.t rfl) (.cons (t := 4) (Has.t rfl) (.cons (t := 6) (Has.t rfl) (.cons (t := 9) (Has.t rfl) (.cons (t := 10) (Has.t rfl) .nil)))))) ?_
      refine Tri.seq fun K9 hK9 => ?_
      refine Tri.region ?_
      refine st (OK1.mv (Has.t rfl)) rfl ?_
      refine st (OK1.neI (Has.t rfl) (Has.cI 0 rfl)) rfl ?_
      refine st (OK1.mv (Has.t rfl)) rfl ?_
      refine stF rfl rfl (fun hg => have hg' := BP.t hg; OK1.mv (Has.t rfl)) rfl ?_
      refine stF rfl rfl (fun hg => have hg' := BP.t hg; OK1.not (Has.g rfl hg)) rfl ?_
      refine st (OK1.pickOr (Has.t rfl) (fun h => Has.g rfl (ng h))) rfl ?_
      refine nl ?_
      refine At.thn (hK9 _ _ ?_); clear hK9
      refine Tri.cv (Cv.wk (.cons (t := 3) (Has.t rfl) (.cons (t := 4) (Has.t rfl) (.cons (t := 6) (Has.t rfl) (.cons (t := 71) (Has.t rfl) .nil))))) ?_
      refine Tri.cond (Has.t rfl) (fun hc3 => ?_) (fun hc3 => ?_)
      · have hc3 := BP.t hc3
        exfalso; simp at hc3
      · have hc3 := BP.f hc3
        skip
        refine Tri.skip ?_
        refine At.thn (hK6 _ _ ?_); clear hK6
        refine Tri.seq fun K10 hK10 => ?_
        refine Tri.region ?_
        refine st (OK1.load (Has.t rfl) (i := 3) rfl ty63 rfl (Ss' := [_, _, _]) rfl) rfl ?_
        refine st (OK1.load (Has.t rfl) (i := 2) rfl ty63 rfl (Ss' := [_, _, _]) rfl) rfl ?_
        refine st (OK1.eq (OK1.call (hnf_Within (Ka := 1) (K := 1) hbx hby (by decide) (by omega) hRa hRb hCb hl hyl) (.cons (Has.t rfl) (.cons (Has.t rfl) .nil))) ((show _ = isTup [isB W, isI 0] from by rw [hW]))) rfl ?_
        refine st (OK1.mv (Has.t rfl)) rfl ?_
        refine st (OK1.ext (Has.t rfl) rfl) rfl ?_
        refine st (OK1.ext (Has.t rfl) rfl) rfl ?_
        refine st (OK1.as (Has.t rfl)) rfl ?_
        refine st (OK1.as (Has.t rfl)) rfl ?_
        refine nl ?_
        refine At.thn (hK10 _ _ ?_); clear hK10
        refine Tri.cv (Cv.wk (.cons (t := 3) (Has.t rfl) (.cons (t := 4) (Has.t rfl) (.cons (t := 6) (Has.t rfl) (.cons (t := 11) (Has.t rfl) (.cons (t := 12) (Has.t rfl) .nil)))))) ?_
        refine Tri.seq fun K11 hK11 => ?_
        refine Tri.seq fun K12 hK12 => ?_
        refine Tri.region ?_
        refine st (OK1.fieldAddr (Has.t rfl) fld63_1 ty3) rfl ?_
        refine st (OK1.load1 (Has.t rfl) (i := 3) rfl ty3 rfl) rfl ?_
        refine st (OK1.fieldAddr (Has.t rfl) fld63_1 ty3) rfl ?_
        refine st (OK1.load1 (Has.t rfl) (i := 2) rfl ty3 rfl) rfl ?_
        refine st (OK1.neI (Has.t rfl) (Has.t rfl)) rfl ?_
        refine nl ?_
        refine At.thn (hK12 _ _ ?_); clear hK12
        refine Tri.cond (Has.t rfl) (fun hc4 => ?_) (fun hc4 => ?_)
        · have hc4 := BP.t hc4
          exact absurd rfl hc4
        · have hc4 := BP.f hc4
          skip
          refine Tri.skip ?_
          refine At.thn (hK11 _ _ ?_); clear hK11
          refine Tri.cv (Cv.wk (.cons (t := 3) (Has.t rfl) (.cons (t := 4) (Has.t rfl) (.cons (t := 6) (Has.t rfl) (.cons (t := 11) (Has.t rfl) (.cons (t := 12) (Has.t rfl) .nil)))))) ?_
          refine Tri.seq fun K13 hK13 => ?_
          refine Tri.region ?_
          refine st (OK1.load (Has.t rfl) (i := 3) rfl ty63 rfl (Ss' := [_, _, _]) rfl) rfl ?_
          refine st (OK1.load (Has.t rfl) (i := 2) rfl ty63 rfl (Ss' := [_, _, _]) rfl) rfl ?_
          refine st (OK1.eq (OK1.call (zmat_Stack (K := 1) hbx hby (by decide) (by omega) hCb hl hyl) (.cons (Has.t rfl) (.cons (Has.t rfl) .nil))) ((show _ = isTup [isMz ((Ra + Rb : Nat)) Cb SL, isI 0] from by rw [hSL]))) rfl ?_
          refine st (OK1.mv (Has.t rfl)) rfl ?_
          refine st (OK1.ext (Has.t rfl) rfl) rfl ?_
          refine st (OK1.ext (Has.t rfl) rfl) rfl ?_
          refine Ops.alloc [isI 0, isI 0, nilS] zero63 (fun _ _ => ⟨⟨rfl, by decide, by decide⟩, ⟨rfl, by decide, by decide⟩, rfl, trivial⟩) rfl fun b5 => ?_
          refine Ops.store (Has.t rfl) (Has.t rfl) (i := 0) rfl ty63 rfl rfl (Ss' := [_, _, _]) rfl (M' := [(some _, cellM [_, _, _]), _, _, _, _]) rfl ?_
          refine st (OK1.as (Has.t rfl)) rfl ?_
          refine nl ?_
          refine At.thn (hK13 _ _ ?_); clear hK13
          refine Tri.cv (Cv.wk (.cons (t := 4) (Has.t rfl) (.cons (t := 6) (Has.t rfl) (.cons (t := 11) (Has.t rfl) (.cons (t := 12) (Has.t rfl) (.cons (t := 13) (Has.t rfl) .nil)))))) ?_
          refine Tri.seq fun K14 hK14 => ?_
          refine Tri.region ?_
          refine st (OK1.load (Has.t rfl) (i := 0) rfl ty63 rfl (Ss' := [_, _, _]) rfl) rfl ?_
          refine st (OK1.eq (OK1.call (hnf_Lattice (R := Ra + Rb) (K := 1) (xs := SL.map nz) (by rw [vals_nz]; exact hSb) (by omega) (by omega) hCb hSl) (.cons (Has.t rfl) .nil)) ((show _ = isTup [isMz P1 Cb L1, isI 0] from by rw [vals_nz, hL1, hP1]))) rfl ?_
          refine st (OK1.mv (Has.t rfl)) rfl ?_
          refine st (OK1.ext (Has.t rfl) rfl) rfl ?_
          refine st (OK1.ext (Has.t rfl) rfl) rfl ?_
          refine Ops.alloc [isI 0, isI 0, nilS] zero63 (fun _ _ => ⟨⟨rfl, by decide, by decide⟩, ⟨rfl, by decide, by decide⟩, rfl, trivial⟩) rfl fun b6 => ?_
          refine Ops.store (Has.t rfl) (Has.t rfl) (i := 0) rfl ty63 rfl rfl (Ss' := [_, _, _]) rfl (M' := [(some _, cellM [_, _, _]), _, _, _, _, _]) rfl ?_
          refine st (OK1.as (Has.t rfl)) rfl ?_
          refine nl ?_
          refine At.thn (hK14 _ _ ?_); clear hK14
          refine Tri.cv (Cv.wk (.cons (t := 4) (Has.t rfl) (.cons (t := 6) (Has.t rfl) (.cons (t := 11) (Has.t rfl) (.cons (t := 12) (Has.t rfl) (.cons (t := 15) (Has.t rfl) .nil)))))) ?_
          refine Tri.seq fun K15 hK15 => ?_
          refine Tri.region ?_
          refine st (OK1.load (Has.t rfl) (i := 4) rfl ty63 rfl (Ss' := [_, _, _]) rfl) rfl ?_
          refine st (OK1.eq (OK1.call (hnf_Lattice (K := 1) hby (by omega) hRb hCb hyl) (.cons (Has.t rfl) .nil)) ((show _ = isTup [isMz P2 Cb L2, isI 0] from by rw [hL2, hP2]))) rfl ?_
          refine st (OK1.mv (Has.t rfl)) rfl ?_
          refine st (OK1.ext (Has.t rfl) rfl) rfl ?_
          refine st (OK1.ext (Has.t rfl) rfl) rfl ?_
          refine Ops.alloc [isI 0, isI 0, nilS] zero63 (fun _ _ => ⟨⟨rfl, by decide, by decide⟩, ⟨rfl, by decide, by decide⟩, rfl, trivial⟩) rfl fun b7 => ?_
          refine Ops.store (Has.t rfl) (Has.t rfl) (i := 0) rfl ty63 rfl rfl (Ss' := [_, _, _]) rfl (M' := [(some _, cellM [_, _, _]), _, _, _, _, _, _]) rfl ?_
          refine st (OK1.as (Has.t rfl)) rfl ?_
          refine nl ?_
          refine At.thn (hK15 _ _ ?_); clear hK15
          refine Tri.cv (Cv.wk (.cons (t := 6) (Has.t rfl) (.cons (t := 11) (Has.t rfl) (.cons (t := 12) (Has.t rfl) (.cons (t := 15) (Has.t rfl) (.cons (t := 17) (Has.t rfl) (.cons (t := 18) (Has.t rfl) .nil))))))) ?_
          refine Tri.seq fun K16 hK16 => ?_
          refine Tri.region ?_
          refine st (OK1.mv (Has.t rfl)) rfl ?_
          refine st (OK1.eqI (Has.t rfl) (Has.cI 0 rfl)) rfl ?_
          refine st (OK1.mv (Has.t rfl)) rfl ?_
          refine stT rfl rfl (fun hg => have hg' := BP.t hg; OK1.mv (Has.t rfl)) rfl ?_
          refine stT rfl rfl (fun hg => have hg' := BP.t hg; OK1.eqI (Has.g rfl hg) (Has.cI 0 rfl)) rfl ?_
          refine st (OK1.pickAnd (Has.t rfl) (fun h => Has.g rfl h)) rfl ?_
          refine st (OK1.mv (Has.t rfl)) rfl ?_
          refine stT rfl rfl (fun hg => have hg' := BP.t hg; OK1.mv (Has.t rfl)) rfl ?_
          refine stT rfl rfl (fun hg => have hg' := BP.t hg; OK1.load (Has.t rfl) (i := 1) rfl ty63 rfl (Ss' := [_, _, _]) rfl) rfl ?_
          refine stT rfl rfl (fun hg => have hg' := BP.t hg; OK1.load (Has.t rfl) (i := 0) rfl ty63 rfl (Ss' := [_, _, _]) rfl) rfl ?_
          refine stT rfl rfl (fun hg => have hg' := BP.t hg; OK1.eq (OK1.call (zmat_Same (K := 50000) (by rw [vals_nz]; exact lb1.mono hps) (by rw [vals_nz]; exact lb2.mono hpb) (by decide)) (.cons (Has.g rfl hg) (.cons (Has.g rfl hg) .nil))) ((show _ = isB W from isB_eq (by rw [hf1, hf2, vals_nz, vals_nz, ← hws, show decide ((P1 : Int) = (P2 : Int)) = decide (P1 = P2) from decide_eq_decide.2 (by omega)]; simp)))) rfl ?_
          refine stT rfl rfl (fun hg => have hg' := BP.t hg; OK1.eqB (du := un4) rfl (Has.g rfl hg) (Has.g rfl hg)) rfl ?_
          refine st (OK1.pickAnd (Has.t rfl) (fun h => Has.g rfl h)) rfl ?_
          refine st (OK1.as (Has.t rfl)) rfl ?_
          refine nl ?_
          refine At.thn (hK16 _ _ ?_); clear hK16
          refine Tri.cv (Cv.wk (.cons (t := 6) (Has.t rfl) .nil)) ?_
          refine Tri.ret ?_
          refine rt1 (.inl rfl) Try.results14 rfl (.tmp (Has.t' rfl ?_) .nil)
          all_goals (exact isB_eq (by cases W <;> simp))
    · have hc2 := BP.f hc2
      exact absurd rfl hc2
set_option maxHeartbeats 4000000 in
theorem c_HnfWithin_none (r c : Int) (xs : List (Bool × List Nat)) (r2 c2 : Int) (ys : List (Bool × List Nat)) (r3 c3 : Int) (zs : List (Bool × List Nat)) (hf : ¬ (formB r c xs.length = true ∧ formB r2 c2 ys.length = true ∧ formB r3 c3 zs.length = true)) : Ctr Try.prog 14 [isM r c xs, isM r2 c2 ys, isM r3 c3 zs] (isB true) := by
  refine Ctr.intro Try.func14 rfl (by kernel_rfl) Try.ntmps14 rfl fun w0 F0 => ?_
  refine Tri.cv (Cv.wk (.cons (t := 0) (Has.t rfl) (.cons (t := 1) (Has.t rfl) (.cons (t := 2) (Has.t rfl) .nil)))) ?_
  refine Tri.seq fun K1 hK1 => ?_
  refine Tri.region ?_
  refine Ops.box (Has.t rfl) rfl fun b1 => ?_
  refine Ops.box (Has.t rfl) rfl fun b2 => ?_
  refine Ops.box (Has.t rfl) rfl fun b3 => ?_
  refine st (OK1.as (Has.cB false)) rfl ?_
  refine nl ?_
  refine At.thn (hK1 _ _ ?_); clear hK1
  refine Tri.seq fun K2 hK2 => ?_
  refine Tri.seq fun K3 hK3 => ?_
  refine Tri.region ?_
  refine st (OK1.call (law14_awake) .nil) rfl ?_
  refine st (OK1.not (Has.t rfl)) rfl ?_
  refine st (OK1.mv (Has.t rfl)) rfl ?_
  refine stF rfl rfl (fun hg => have hg' := BP.t hg; OK1.load (Has.t rfl) (i := 2) rfl ty63 rfl (Ss' := [_, _, _]) rfl) rfl ?_
  refine stF rfl rfl (fun hg => have hg' := BP.t hg; OK1.call (ref11_Few) (.cons (Has.g rfl hg) (.cons (Has.cI 4 rfl) (.cons (Has.cI 1 rfl) .nil)))) rfl ?_
  refine stF rfl rfl (fun hg => have hg' := BP.t hg; OK1.not (Has.g rfl hg)) rfl ?_
  refine st (OK1.pickOr (Has.t rfl) (fun h => Has.g rfl (ng h))) rfl ?_
  refine st (OK1.mv (Has.t rfl)) rfl ?_
  refine stF rfl rfl (fun hg => have hg' := BP.t hg; OK1.load (Has.t rfl) (i := 1) rfl ty63 rfl (Ss' := [_, _, _]) rfl) rfl ?_
  refine stF rfl rfl (fun hg => have hg' := BP.t hg; OK1.call (ref11_Few) (.cons (Has.g rfl hg) (.cons (Has.cI 4 rfl) (.cons (Has.cI 1 rfl) .nil)))) rfl ?_
  refine stF rfl rfl (fun hg => have hg' := BP.t hg; OK1.not (Has.g rfl hg)) rfl ?_
  refine st (OK1.pickOr (Has.t rfl) (fun h => Has.g rfl (ng h))) rfl ?_
  refine st (OK1.mv (Has.t rfl)) rfl ?_
  refine stF rfl rfl (fun hg => have hg' := BP.t hg; OK1.load (Has.t rfl) (i := 0) rfl ty63 rfl (Ss' := [_, _, _]) rfl) rfl ?_
  refine stF rfl rfl (fun hg => have hg' := BP.t hg; OK1.call (ref11_Few) (.cons (Has.g rfl hg) (.cons (Has.cI 4 rfl) (.cons (Has.cI 1 rfl) .nil)))) rfl ?_
  refine stF rfl rfl (fun hg => have hg' := BP.t hg; OK1.not (Has.g rfl hg)) rfl ?_
  refine st (OK1.pickOr (Has.t rfl) (fun h => Has.g rfl (ng h))) rfl ?_
  refine st (OK1.mv (Has.t rfl)) rfl ?_
  refine stF rfl rfl (fun hg => have hg' := BP.t hg; OK1.load (Has.t rfl) (i := 2) rfl ty63 rfl (Ss' := [_, _, _]) rfl) rfl ?_
  refine stF rfl rfl (fun hg => have hg' := BP.t hg; OK1.call (ref11_Formed) (.cons (Has.g rfl hg) .nil)) rfl ?_
  refine stF rfl rfl (fun hg => have hg' := BP.t hg; OK1.not (Has.g rfl hg)) rfl ?_
  refine st (OK1.pickOr (Has.t rfl) (fun h => Has.g rfl (ng h))) rfl ?_
  refine st (OK1.mv (Has.t rfl)) rfl ?_
  refine stF rfl rfl (fun hg => have hg' := BP.t hg; OK1.load (Has.t rfl) (i := 1) rfl ty63 rfl (Ss' := [_, _, _]) rfl) rfl ?_
  refine stF rfl rfl (fun hg => have hg' := BP.t hg; OK1.call (ref11_Formed) (.cons (Has.g rfl hg) .nil)) rfl ?_
  refine stF rfl rfl (fun hg => have hg' := BP.t hg; OK1.not (Has.g rfl hg)) rfl ?_
  refine st (OK1.pickOr (Has.t rfl) (fun h => Has.g rfl (ng h))) rfl ?_
  refine st (OK1.mv (Has.t rfl)) rfl ?_
  refine stF rfl rfl (fun hg => have hg' := BP.t hg; OK1.load (Has.t rfl) (i := 0) rfl ty63 rfl (Ss' := [_, _, _]) rfl) rfl ?_
  refine stF rfl rfl (fun hg => have hg' := BP.t hg; OK1.call (ref11_Formed) (.cons (Has.g rfl hg) .nil)) rfl ?_
  refine stF rfl rfl (fun hg => have hg' := BP.t hg; OK1.not (Has.g rfl hg)) rfl ?_
  refine st (OK1.pickOr (Has.t rfl) (fun h => Has.g rfl (ng h))) rfl ?_
  refine nl ?_
  refine At.thn (hK3 _ _ ?_); clear hK3
  refine Tri.cv (Cv.wk (.cons (t := 3) (Has.t rfl) (.cons (t := 4) (Has.t rfl) (.cons (t := 5) (Has.t rfl) (.cons (t := 6) (Has.t rfl) (.cons (t := 50) (Has.t rfl) .nil)))))) ?_
  refine Tri.cond (Has.t rfl) (fun hc1 => ?_) (fun hc1 => ?_)
  · have hc1 := BP.t hc1
    refine Tri.seq fun K4 hK4 => ?_
    refine Tri.region ?_
    refine st (OK1.call (law14_awake) .nil) rfl ?_
    refine st (OK1.as (Has.t rfl)) rfl ?_
    refine nl ?_
    refine At.thn (hK4 _ _ ?_); clear hK4
    refine Tri.ret ?_
    refine At.thr ?_
    refine rt1 (.inl rfl) Try.results14 rfl (.tmp (Has.t' rfl ?_) .nil)
    all_goals (rfl)
  · have hc1 := BP.f hc1
    exact (hf ⟨by cases h1 : formB r c xs.length <;> simp_all, by cases h2 : formB r2 c2 ys.length <;> simp_all, by cases h3 : formB r3 c3 zs.length <;> simp_all⟩).elim
theorem c_HnfWithin (r c : Int) (xs : List (Bool × List Nat)) (r2 c2 : Int) (ys : List (Bool × List Nat)) (r3 c3 : Int) (zs : List (Bool × List Nat)) : Ctr Try.prog 14 [isM r c xs, isM r2 c2 ys, isM r3 c3 zs] (isB true) := by
  by_cases h : formB r c xs.length = true ∧ formB r2 c2 ys.length = true ∧ formB r3 c3 zs.length = true
  · obtain ⟨h1, h2, h3⟩ := h
    obtain ⟨Ra, Ca, rfl, rfl, a1, a2, a3⟩ := formB_iff.1 h1
    obtain ⟨Rb, Cb, rfl, rfl, b1, b2, b3⟩ := formB_iff.1 h2
    obtain ⟨Rc, Cc, rfl, rfl, d1, d2, d3⟩ := formB_iff.1 h3
    by_cases hm : Cc = Rb
    · subst hm
      by_cases hw : Ca = Cb
      · subst hw; exact c_HnfWithin_11 Ra Cc Ca Rc xs ys zs a1 b1 b2 d1 a3 b3 d3
      · exact c_HnfWithin_10 Ra Ca Cc Cb Rc xs ys zs a1 a2 b1 b2 d1 a3 b3 d3 hw
    · by_cases hw : Ca = Cb
      · subst hw; exact c_HnfWithin_01 Ra Rb Ca Rc Cc xs ys zs a1 b1 b2 d1 d2 a3 b3 d3 hm
      · exact c_HnfWithin_00 Ra Ca Rb Cb Rc Cc xs ys zs a1 a2 b1 b2 d1 d2 a3 b3 d3 hm hw
  · exact c_HnfWithin_none r c xs r2 c2 ys r3 c3 zs h
end Go.Proofs.Ytiieaohnpnojmaa
/- Slices of whole numbers that a law is handed. -/
namespace Go.En
open Go.RowKit Go.ChangeShapes Go.WideShapes Go.ChangeAt
set_option linter.unusedVariables false
theorem pair_get {α β : Type} (g h : α → β) : ∀ (l : List α) (j : Nat), (l.flatMap fun a => [g a, h a])[j]? = (l[j / 2]?).map (fun a => if j % 2 = 0 then g a else h a)
  | [], j => by simp
  | a :: l, 0 => by simp
  | a :: l, 1 => by simp
  | a :: l, j + 2 => by
    have := pair_get g h l j
    rw [show (j + 2) / 2 = j / 2 + 1 by omega, show (j + 2) % 2 = j % 2 by omega]
    simpa using this
section
variable {H : Type} {enc : TypeId × Value → H} {P : Program}
end
end Go.En
/- Matrices of whole numbers that a law is handed. -/
namespace Go.En
open Go.RowKit Go.ChangeShapes Go.WideShapes Go.ChangeAt
set_option linter.unusedVariables false
section
variable {H : Type} {enc : TypeId × Value → H} {P : Program}
theorem rd_Zs {W : World} {T e tb ts T' : TypeId} {fuel : Nat} {cs : List Value} {x : DataW H × List MemPlace} (hT : P.underlying T = some (.slice e)) (hfs : fsB P e = some [(tb, 0), (ts, 1)]) (hub : P.underlying tb = some .bool) (hu : P.underlying ts = some (.slice T')) (hu' : P.underlying T' = some (.int .u64)) (hc : P.cellsOf T' = 1) (hcb : P.cellsOf tb = 1) (hcs : P.cellsOf ts = 1) (hce : P.cellsOf e = 2)
    (hf : DataW.trod enc P W 0 (fun _ => true) true fuel T cs = some x) (hps : ∀ y ∈ x.2, y.block < W.heap.size) : ∃ (v : Value) (xs : List (Bool × List Nat)), cs = [v] ∧ (isZs xs).h W (fun b => b < W.heap.size) v := by
  obtain ⟨d, ps⟩ := x
  obtain ⟨fs, hue, hsz, hget⟩ := fsB_spec hfs
  obtain ⟨f0, g0, rfl, e0⟩ := hget 0 tb 0 rfl
  obtain ⟨f1, g1, rfl, e1⟩ := hget 1 ts 1 rfl
  have hfs2 : fs = #[f0, f1] := by
    apply Array.ext'
    have hl : fs.toList.length = 2 := by simpa using hsz
    match hq : fs.toList, hl with
    | [p, q], _ =>
      have a0 : fs.toList[0]? = some f0 := by simpa using g0
      have a1 : fs.toList[1]? = some f1 := by simpa using g1
      rw [hq] at a0 a1
      simp at a0 a1
      rw [a0, a1]
  subst hfs2
  rcases Deep.open_slice_pairs hT hue hce e0 e1 hcb hcs hf with ⟨h1, _⟩ | ⟨a, len, cap, m, n, V0, V1, D0, D1, P0, P1, h1, _, hlc, hcm, hm, hx, hel⟩
  · exact ⟨_, [], h1, nilK⟩
  · simp only [if_true] at hm
    subst m
    have hps' : ∀ i, i < cap → ∀ y ∈ P1 i, y.block < W.heap.size := fun i hi y hy => hps y (by
      have := (Prod.mk.inj hx).2
      rw [this]
      exact List.mem_append_right _ (List.mem_flatMap.2 ⟨i, List.mem_range.2 hi, List.mem_append_right _ hy⟩))
    obtain ⟨l, hl, hgl⟩ := list_of_get (p := fun i (x : Bool × List Nat) => V0 i = .bool x.1 ∧ (isWords x.2).h W (fun b => b < W.heap.size) (V1 i)) len (fun i hi => by
      obtain ⟨_, _, q0, q1⟩ := hel i (by omega)
      obtain ⟨b, hb, _⟩ := DataW.trod_bool hub q0
      obtain ⟨v, ws, hv1, hw⟩ := rd_row hu hu' hc word_of q1 (hps' i (by omega))
      obtain rfl : V1 i = v := by simpa using hv1
      exact ⟨(b, ws), by simpa using hb, hw⟩)
    refine ⟨_, l, h1, some a, cap, by rw [hl], by rw [hl]; exact hlc, hcm, flat_len zc_len l, ?_⟩
    rcases Nat.eq_zero_or_pos len with h0 | h0
    · exact .inl (by omega)
    · have hc0 := (hel 0 (by omega)).1
      have hs : a.spot = none := by
        cases hsp : a.spot with
        | none => rfl
        | some s =>
          simp only [Addr.add, Nat.zero_mul, if_true] at hc0
          unfold World.cell? at hc0
          rw [hsp] at hc0
          split at hc0 <;> simp at hc0
      obtain ⟨b, off, sp⟩ := a
      simp only at hs
      subst hs
      right
      refine ⟨b, off, rfl, ?_, (List.range len).flatMap (fun i => [V0 i, V1 i]), ?_, fun j u hj => ?_⟩
      · have : MemPlace.cell b (off + 0) ∈ ps := by
          have := (Prod.mk.inj hx).2
          rw [this]
          exact List.mem_append_left _ (List.mem_map.2 ⟨0, by simp; omega, rfl⟩)
        exact hps _ this
      · have hlen2 : ((List.range len).flatMap fun i => [V0 i, V1 i]).length = len * 2 := by
          have := flat_len (fk := fun (i : Nat) => [isB true, isB true]) (k := 2) (fun _ => rfl) (List.range len)
          rw [List.length_flatMap] at this ⊢
          simpa using this
        refine all2_of_get (by rw [flat_len zc_len, hlen2, hl]) (fun j S v hS hv => ?_)
        have hz := pair_get (fun p : Bool × List Nat => isB p.1) (fun p => isWords p.2) l j
        rw [show (l.flatMap fun a => [isB a.1, isWords a.2]) = l.flatMap zc from rfl, hS] at hz
        have hw := pair_get V0 V1 (List.range len) j
        rw [hv] at hw
        have hj : j / 2 < l.length := by
          rcases Nat.lt_or_ge (j / 2) l.length with h | h
          · exact h
          · rw [List.getElem?_eq_none h] at hz; cases hz
        rw [List.getElem?_eq_getElem hj] at hz
        rw [List.getElem?_range (by omega)] at hw
        simp only [Option.map_some, Option.some.injEq] at hz hw
        obtain ⟨k1, k2⟩ := hgl (j / 2) hj
        subst hz; subst hw
        by_cases hp : j % 2 = 0
        · rw [if_pos hp, if_pos hp, k1]; rfl
        · rw [if_neg hp, if_neg hp]; exact k2
      · have hw := pair_get V0 V1 (List.range len) j
        rw [hj] at hw
        have hjl : j / 2 < len := by
          rcases Nat.lt_or_ge (j / 2) len with h | h
          · exact h
          · rw [List.getElem?_eq_none (by simpa using h)] at hw; cases hw
        rw [List.getElem?_range hjl] at hw
        simp only [Option.map_some, Option.some.injEq] at hw
        obtain ⟨q0, q1, _, _⟩ := hel (j / 2) (by omega)
        rw [add_mk] at q0
        rw [add_mk] at q1
        by_cases hp : j % 2 = 0
        · rw [if_pos hp] at hw; subst hw
          rw [show off + j = off + j / 2 * 2 by omega]; exact q0
        · rw [if_neg hp] at hw; subst hw
          rw [show off + j = off + (j / 2 * 2 + 1) by omega]; exact q1
/-- two sides and numbers -/
theorem open_M {W : World} {base : Nat} {T ti tm e tb ts T' : TypeId} {v : Value} {d : DataW H} {ps : List MemPlace} (hfM : fsB P T = some [(ti, 0), (ti, 1), (tm, 2)]) (hui : P.underlying ti = some (.int .i64)) (hT : P.underlying tm = some (.slice e)) (hfs : fsB P e = some [(tb, 0), (ts, 1)]) (hub : P.underlying tb = some .bool) (hu : P.underlying ts = some (.slice T')) (hu' : P.underlying T' = some (.int .u64)) (hc : P.cellsOf T' = 1) (hcb : P.cellsOf tb = 1) (hcs : P.cellsOf ts = 1) (hce : P.cellsOf e = 2)
    (hci : P.cellsOf ti = 1) (hcm : P.cellsOf tm = 1) (hcT : P.cellsOf T = 3) (hv : Value.okWide P W .any base T v) (h : DataW.Trod enc P W 0 (fun _ => true) true T v d ps) (hps : ∀ x ∈ ps, x.block < W.heap.size) : ∃ x : Int × Int × List (Bool × List Nat), (isM x.1 x.2.1 x.2.2).h W (fun b => b < W.heap.size) v := by
  obtain ⟨fs, huT, hsz, hget⟩ := fsB_spec hfM
  have hv' := hv
  simp only [Value.okWide, huT] at hv'
  obtain ⟨cs, rfl, _, _⟩ := hv'
  obtain ⟨fuel, hf⟩ := h
  obtain ⟨xs, m, _, hx, hl, hxl, hfe⟩ := DataW.trod_struct huT hf
  simp [Value.cells] at hl hx
  obtain ⟨f0, g0, rfl, e0⟩ := hget 0 ti 0 rfl
  obtain ⟨f1, g1, k1, e1⟩ := hget 1 _ 1 rfl
  obtain ⟨f2, g2, rfl, e2⟩ := hget 2 tm 2 rfl
  have h0 := hfe 0 f0 g0
  have h1 := hfe 1 f1 g1
  have h2 := hfe 2 f2 g2
  rw [List.getElem?_eq_getElem (by rw [hxl, hsz]; simp)] at h0 h1 h2
  rw [e0, hci] at h0
  rw [e1, k1, hci] at h1
  rw [e2, hcm] at h2
  obtain ⟨r, hr, hr1, hr2⟩ := rd_I hui h0
  obtain ⟨c, hc1, hc2, hc3⟩ := rd_I hui h1
  obtain ⟨u, ws, hu1, hw⟩ := rd_Zs hT hfs hub hu hu' hc hcb hcs hce h2 (fun y hy => hps y (by
    rw [hx.2]
    exact List.mem_flatMap.2 ⟨_, List.getElem_mem _, hy⟩))
  refine ⟨(r, c, ws), cs.toList, by simp, ?_⟩
  have hcs2 : cs.toList = [.int .i64 r, .int .i64 c, u] := by
    have hlen : cs.toList.length = 3 := by rw [← hcT]; simpa using hl
    match hq : cs.toList, hlen with
    | [p, q, t], _ =>
      have a1 : [p] = [Value.int .i64 r] := by have := hr; simpa [Value.cells, hq] using this
      have a2 : [q] = [Value.int .i64 c] := by have := hc1; simpa [Value.cells, hq] using this
      have a3 : [t] = [u] := by have := hu1; simpa [Value.cells, hq] using this
      rw [List.cons.inj a1 |>.1, List.cons.inj a2 |>.1, List.cons.inj a3 |>.1]
  rw [hcs2]
  exact ⟨⟨rfl, hr1, hr2⟩, ⟨rfl, hc2, hc3⟩, hw, trivial⟩
end
end Go.En
/- A law of layer 14, as it is stated. -/
namespace Go.Proofs.Ytiieaohnpnojmaa
open Go.En Go.RowKit
set_option linter.unusedVariables false
set_option maxRecDepth 10000
open Go.ChangeShapes
open Go.WideShapes
open Go.ChangeAt
open Go.Nt
open Go.Pz
open Go.Mz
theorem opens_HnfWithin : Opens Try.prog Try.f14 14 := by
  intro H enc W base args ds ps hval hA hlt
  rw [Try.params14] at hA hval
  obtain ⟨v0, vs0, d0, ds0, p0, q0, hargs, rfl, rfl, h0, r0⟩ := trodAll_cons hA
  obtain ⟨v1, vs1, d1, ds1, p1, q1, rfl, rfl, rfl, h1, r1⟩ := trodAll_cons r0
  obtain ⟨v2, vs2, d2, ds2, p2, q2, rfl, rfl, rfl, h2, r2⟩ := trodAll_cons r1
  obtain ⟨rfl, rfl, rfl⟩ := trodAll_nil r2
  obtain rfl : args = #[v0, v1, v2] := by cases args; simp_all
  obtain ⟨x0, o0⟩ := open_M fs63 un3 un61 fs72 un4 un53 un27 (by kernel_rfl) (by kernel_rfl) (by kernel_rfl) (by kernel_rfl) (by kernel_rfl) (by kernel_rfl) (by kernel_rfl) (hval 0 63 v0 rfl rfl) h0 (fun x hx => hlt x (by simp [hx]))
  obtain ⟨x1, o1⟩ := open_M fs63 un3 un61 fs72 un4 un53 un27 (by kernel_rfl) (by kernel_rfl) (by kernel_rfl) (by kernel_rfl) (by kernel_rfl) (by kernel_rfl) (by kernel_rfl) (hval 1 63 v1 rfl rfl) h1 (fun x hx => hlt x (by simp [hx]))
  obtain ⟨x2, o2⟩ := open_M fs63 un3 un61 fs72 un4 un53 un27 (by kernel_rfl) (by kernel_rfl) (by kernel_rfl) (by kernel_rfl) (by kernel_rfl) (by kernel_rfl) (by kernel_rfl) (hval 2 63 v2 rfl rfl) h2 (fun x hx => hlt x (by simp [hx]))
  refine ⟨_, ?_, c_HnfWithin x0.1 x0.2.1 x0.2.2 x1.1 x1.2.1 x1.2.2 x2.1 x2.2.1 x2.2.2⟩
  exact ⟨o0, o1, o2, trivial⟩
theorem hnfWithin_said : Rows.HnfWithinSaid :=
  OpenClaim.holds_of_wide 14 Try.f14 rfl rfl rfl rfl rfl rfl rfl ⟨rfl, rfl, rfl, rfl, rfl⟩ rfl rfl rfl rfl rfl (by kernel_rfl) Try.func14 (by kernel_rfl)
    (of_decide_eq_true (by kernel_rfl)) (by unfold Func.isWrapper; first | (rw [if_pos (by decide +kernel)]; kernel_rfl) | (rw [if_neg (by decide +kernel)]; exact ⟨rfl, rfl⟩))
    (fun os started H enc _ => lift_law (C := Try.checked) (s := Rows.hnfWithinSpec) (by kernel_rfl) started (by kernel_rfl) Try.func14
      (ChangeSpec.witness6 (enc := enc) (C := Try.checked) false ⟨#[], #[.agg #[.int .i64 0, .int .i64 0, .slice none 0 0], .agg #[.int .i64 0, .int .i64 0, .slice none 0 0], .agg #[.int .i64 0, .int .i64 0, .slice none 0 0]], []⟩ 8 (by kernel_rfl) (by kernel_rfl) (by kernel_rfl) (by kernel_rfl))
      (by kernel_rfl) (by kernel_rfl) rfl rfl un4 (fun ds h => by match ds, h with | [d0, d1, d2], _ => rfl) opens_HnfWithin)
#print axioms hnfWithin_said
end Go.Proofs.Ytiieaohnpnojmaa
