/- The law HnfCoordinates, as it is stated, of the given program, for every input; no condition. -/
import Derived.Test.YtcfobfedliajdaaQHnfCoordinates5
import Derived.Deep.SlicePairs
import Derived.Test.YtcfobfedliajdaaRows
import Derived.JoinedCond
import Derived.Deep.Slices
/- A law of layer 14: the multiples that make a row, as a contract. -/
namespace Go.Proofs.Ytcfobfedliajdaa
open Go.En Go.RowKit
set_option linter.unusedVariables false
set_option maxRecDepth 10000
open Go.Nt
open Go.Pz
open Go.Mz
open Go.Hn
open Go.Hp
open Go.Dt
set_option maxHeartbeats 4000000 in
theorem c_HnfCoordinates_bad (r c : Int) (xs cs vs : List (Bool × List Nat)) (hf : formB r c xs.length = false) : Ctr Try.prog 3 [isM r c xs, SlK 2 zc cs, SlK 2 zc vs] (isB true) := by
  refine Ctr.intro Try.func3 rfl (by kernel_rfl) Try.ntmps3 rfl fun w0 F0 => ?_
  refine Tri.cv (Cv.wk (.cons (t := 0) (Has.t rfl) (.cons (t := 1) (Has.t rfl) (.cons (t := 2) (Has.t rfl) .nil)))) ?_
  refine Tri.fact (Has.lenLt (Has.t (t := 1) rfl)) fun lt1 => ?_
  refine Tri.fact (Has.lenLt (Has.t (t := 2) rfl)) fun lt2 => ?_
  refine Tri.seq fun K1 hK1 => ?_
  refine Tri.region ?_
  refine Ops.box (Has.t rfl) rfl fun b1 => ?_
  refine st (OK1.as (Has.cB false)) rfl ?_
  refine nl ?_
  refine At.thn (hK1 _ _ ?_); clear hK1
  refine Tri.seq fun K2 hK2 => ?_
  refine Tri.seq fun K3 hK3 => ?_
  refine Tri.region ?_
  refine st (OK1.call (law14_awake) .nil) rfl ?_
  refine st (OK1.not (Has.t rfl)) rfl ?_
  refine st (OK1.mv (Has.t rfl)) rfl ?_
  refine stF rfl rfl (fun hg => have hg' := BP.t hg; OK1.load (Has.t rfl) (i := 0) rfl ty24 rfl (Ss' := [_, _, _]) rfl) rfl ?_
  refine stF rfl rfl (fun hg => have hg' := BP.t hg; OK1.call (ref11_Few) (.cons (Has.g rfl hg) (.cons (Has.cI 4 rfl) (.cons (Has.cI 1 rfl) .nil)))) rfl ?_
  refine stF rfl rfl (fun hg => have hg' := BP.t hg; OK1.not (Has.g rfl hg)) rfl ?_
  refine st (OK1.pickOr (Has.t rfl) (fun h => Has.g rfl (ng h))) rfl ?_
  refine st (OK1.mv (Has.t rfl)) rfl ?_
  refine stF rfl rfl (fun hg => have hg' := BP.t hg; OK1.mv (Has.t rfl)) rfl ?_
  refine stF rfl rfl (fun hg => have hg' := BP.t hg; OK1.len sl22 (Has.g rfl hg)) rfl ?_
  refine stF rfl rfl (fun hg => have hg' := BP.t hg; OK1.gtI (Has.g rfl hg) (Has.cI 4 rfl)) rfl ?_
  refine st (OK1.pickOr (Has.t rfl) (fun h => Has.g rfl (ng h))) rfl ?_
  refine st (OK1.mv (Has.t rfl)) rfl ?_
  refine stF rfl rfl (fun hg => have hg' := BP.t hg; OK1.mv (Has.t rfl)) rfl ?_
  refine stF rfl rfl (fun hg => have hg' := BP.t hg; OK1.len sl22 (Has.g rfl hg)) rfl ?_
  refine stF rfl rfl (fun hg => have hg' := BP.t hg; OK1.gtI (Has.g rfl hg) (Has.cI 6 rfl)) rfl ?_
  refine st (OK1.pickOr (Has.t rfl) (fun h => Has.g rfl (ng h))) rfl ?_
  refine st (OK1.mv (Has.t rfl)) rfl ?_
  refine stF rfl rfl (fun hg => have hg' := BP.t hg; OK1.load (Has.t rfl) (i := 0) rfl ty24 rfl (Ss' := [_, _, _]) rfl) rfl ?_
  refine stF rfl rfl (fun hg => have hg' := BP.t hg; OK1.eq (OK1.call (ref11_Formed) (.cons (Has.g rfl hg) .nil)) ((show isB _ = isB false from isB_eq (hf)))) rfl ?_
  refine stF rfl rfl (fun hg => have hg' := BP.t hg; OK1.not (Has.g rfl hg)) rfl ?_
  refine st (OK1.pickOr (Has.t rfl) (fun h => Has.g rfl (ng h))) rfl ?_
  refine nl ?_
  refine At.thn (hK3 _ _ ?_); clear hK3
  refine Tri.cv (Cv.wk (.cons (t := 1) (Has.t rfl) (.cons (t := 2) (Has.t rfl) (.cons (t := 3) (Has.t rfl) (.cons (t := 6) (Has.t rfl) (.cons (t := 43) (Has.t rfl) .nil)))))) ?_
  refine Tri.cond (Has.t rfl) (fun hc1 => ?_) (fun hc1 => ?_)
  · have hc1 := BP.t hc1
    refine Tri.seq fun K4 hK4 => ?_
    refine Tri.region ?_
    refine st (OK1.call (law14_awake) .nil) rfl ?_
    refine st (OK1.as (Has.t rfl)) rfl ?_
    refine nl ?_
    refine At.thn (hK4 _ _ ?_); clear hK4
    refine Tri.ret ?_
    refine At.thr ?_
    refine rt1 (.inl rfl) Try.results3 rfl (.tmp (Has.t' rfl ?_) .nil)
    all_goals (rfl)
  · have hc1 := BP.f hc1
    exfalso; simp at hc1
set_option maxHeartbeats 4000000 in
theorem c_HnfCoordinates_len (R C : Nat) (xs cs vs : List (Bool × List Nat)) (hR : R ≤ 64) (hC : C ≤ 64) (hl : xs.length = R * C) (hvb : ∀ p ∈ vs, p.2.length ≤ 1048576) (hvl : vs.length ≠ C) : CtrX Try.prog 3 [isM (R : Int) (C : Int) xs, SlK 2 zc cs, SlK 2 zc vs] ([]) (fun S M => S = isB true) := by
  refine CtrX.intro Try.func3 rfl (by kernel_rfl) Try.ntmps3 rfl fun w0 F0 => ?_
  refine Tri.cv (Cv.wk (.cons (t := 0) (Has.t rfl) (.cons (t := 1) (Has.t rfl) (.cons (t := 2) (Has.t rfl) .nil)))) ?_
  refine Tri.fact (Has.lenLt (Has.t (t := 1) rfl)) fun lt1 => ?_
  refine Tri.fact (Has.lenLt (Has.t (t := 2) rfl)) fun lt2 => ?_
  refine Tri.fact (Has.okM (Has.t (t := 0) rfl)) fun okp0 => ?_
  refine Tri.fact (Has.okP (Has.t (t := 1) rfl)) fun okp1 => ?_
  refine Tri.fact (Has.okP (Has.t (t := 2) rfl)) fun okp2 => ?_
  have hfo := formB_true hR hC hl
  refine Tri.seq fun K1 hK1 => ?_
  refine Tri.region ?_
  refine Ops.box (Has.t rfl) rfl fun b1 => ?_
  refine st (OK1.as (Has.cB false)) rfl ?_
  refine nl ?_
  refine At.thn (hK1 _ _ ?_); clear hK1
  refine Tri.seq fun K2 hK2 => ?_
  refine Tri.seq fun K3 hK3 => ?_
  refine Tri.region ?_
  refine st (OK1.call (law14_awake) .nil) rfl ?_
  refine st (OK1.not (Has.t rfl)) rfl ?_
  refine st (OK1.mv (Has.t rfl)) rfl ?_
  refine stF rfl rfl (fun hg => have hg' := BP.t hg; OK1.load (Has.t rfl) (i := 0) rfl ty24 rfl (Ss' := [_, _, _]) rfl) rfl ?_
  refine stF rfl rfl (fun hg => have hg' := BP.t hg; OK1.call (ref11_Few) (.cons (Has.g rfl hg) (.cons (Has.cI 4 rfl) (.cons (Has.cI 1 rfl) .nil)))) rfl ?_
  refine stF rfl rfl (fun hg => have hg' := BP.t hg; OK1.not (Has.g rfl hg)) rfl ?_
  refine st (OK1.pickOr (Has.t rfl) (fun h => Has.g rfl (ng h))) rfl ?_
  refine st (OK1.mv (Has.t rfl)) rfl ?_
  refine stF rfl rfl (fun hg => have hg' := BP.t hg; OK1.mv (Has.t rfl)) rfl ?_
  refine stF rfl rfl (fun hg => have hg' := BP.t hg; OK1.len sl22 (Has.g rfl hg)) rfl ?_
  refine stF rfl rfl (fun hg => have hg' := BP.t hg; OK1.gtI (Has.g rfl hg) (Has.cI 4 rfl)) rfl ?_
  refine st (OK1.pickOr (Has.t rfl) (fun h => Has.g rfl (ng h))) rfl ?_
  refine st (OK1.mv (Has.t rfl)) rfl ?_
  refine stF rfl rfl (fun hg => have hg' := BP.t hg; OK1.mv (Has.t rfl)) rfl ?_
  refine stF rfl rfl (fun hg => have hg' := BP.t hg; OK1.len sl22 (Has.g rfl hg)) rfl ?_
  refine stF rfl rfl (fun hg => have hg' := BP.t hg; OK1.gtI (Has.g rfl hg) (Has.cI 6 rfl)) rfl ?_
  refine st (OK1.pickOr (Has.t rfl) (fun h => Has.g rfl (ng h))) rfl ?_
  refine st (OK1.mv (Has.t rfl)) rfl ?_
  refine stF rfl rfl (fun hg => have hg' := BP.t hg; OK1.load (Has.t rfl) (i := 0) rfl ty24 rfl (Ss' := [_, _, _]) rfl) rfl ?_
  refine stF rfl rfl (fun hg => have hg' := BP.t hg; OK1.eq (OK1.call (ref11_Formed) (.cons (Has.g rfl hg) .nil)) ((show isB _ = isB true from isB_eq (hfo)))) rfl ?_
  refine stF rfl rfl (fun hg => have hg' := BP.t hg; OK1.not (Has.g rfl hg)) rfl ?_
  refine st (OK1.pickOr (Has.t rfl) (fun h => Has.g rfl (ng h))) rfl ?_
  refine nl ?_
  refine At.thn (hK3 _ _ ?_); clear hK3
  refine Tri.cv (Cv.wk (.cons (t := 1) (Has.t rfl) (.cons (t := 2) (Has.t rfl) (.cons (t := 3) (Has.t rfl) (.cons (t := 6) (Has.t rfl) (.cons (t := 43) (Has.t rfl) .nil)))))) ?_
  refine Tri.cond (Has.t rfl) (fun hc1 => ?_) (fun hc1 => ?_)
  · have hc1 := BP.t hc1
    skip
    refine Tri.seq fun K4 hK4 => ?_
    refine Tri.region ?_
    refine st (OK1.call (law14_awake) .nil) rfl ?_
    refine st (OK1.as (Has.t rfl)) rfl ?_
    refine nl ?_
    refine At.thn (hK4 _ _ ?_); clear hK4
    refine Tri.ret ?_
    refine At.thr ?_
    refine rtX1D (.cons _ .slnil) (.inl rfl) Try.results3 rfl (.tmp (Has.t rfl) .nil) ?_
    exact rfl
  · have hc1 := BP.f hc1
    have HF0 : ((((R : Int) ≤ 4 ∧ (C : Int) ≤ 4) ∧ fewB xs 100 1 = true) ∧ ((cs.length : Nat) : Int) ≤ 4) ∧ ((vs.length : Nat) : Int) ≤ 6 := (by simpa [and_assoc] using hc1)
    obtain ⟨⟨⟨⟨hR5, hC5⟩, HF⟩, hc4⟩, hv6⟩ := HF0
    obtain ⟨hl0, hb⟩ := fewB_bd (N := 100) (K := 1) okp0 HF rfl rfl (by decide)
    have hhz : (1 + 4) * (R + 2) ^ C ≤ 1000000 := by
      have h1 := Nat.pow_le_pow_left (show R + 2 ≤ 6 by omega) C
      have h2 := Nat.pow_le_pow_right (show 0 < 6 by decide) (show C ≤ 4 by omega)
      have h3 : 6 ^ 4 = 1296 := by decide
      omega
    have hLl := hL_len (R := R) (C := C) hb
    have hLb := (hL_bd (R := R) (C := C) hb).mono hhz
    have hLf := hL_form (R := R) (C := C) hb
    obtain ⟨Hl, hHl⟩ : ∃ Hl, Hl = hL R C (vals xs) := ⟨_, rfl⟩
    rw [← hHl] at hLl hLb hLf
    have hHm : (Hl.map nz).length = R * C := by rw [List.length_map, hLl]
    have hHb : Bd (vals (Hl.map nz)) 1000000 := by rw [vals_nz]; exact hLb
    have hHf : HermF R C (mf C (vals (Hl.map nz))) := by rw [vals_nz]; exact hLf
    have hRK : (R + 1) * (1000000 + 2) ≤ 5 * 1000002 := Nat.mul_le_mul (by omega) (by decide)
    have hfv : fewB vs 100 1048576 = true := by
      rw [fewB_yes (i := vs.length) (.inl (Nat.le_refl _)) fun j hj => by rw [List.getD, List.getElem?_eq_getElem hj]; have := hvb _ (List.getElem_mem hj); show ((vs[j].2.length : Nat) : Int) ≤ _; omega]
      exact decide_eq_true (by omega)
    obtain ⟨_, hbv⟩ := fewB_bd (N := 100) (K := 1048576) okp2 hfv rfl rfl (by decide)
    refine Tri.skip ?_
    refine At.thn (hK2 _ _ ?_); clear hK2
    refine Tri.seq fun K5 hK5 => ?_
    refine Tri.region ?_
    refine st (OK1.load (Has.t rfl) (i := 0) rfl ty24 rfl (Ss' := [_, _, _]) rfl) rfl ?_
    refine st (OK1.eq (OK1.call (hnf_Hermite hb hhz hR hC hl) (.cons (Has.t rfl) .nil)) ((show _ = isTup [isMz R C Hl, isMz R R (uL R C (vals xs)), isI 0] from by rw [hHl]; rfl))) rfl ?_
    refine st (OK1.mv (Has.t rfl)) rfl ?_
    refine st (OK1.ext (Has.t rfl) rfl) rfl ?_
    refine st (OK1.ext (Has.t rfl) rfl) rfl ?_
    refine st (OK1.ext (Has.t rfl) rfl) rfl ?_
    refine Ops.alloc [isI 0, isI 0, nilS] zero24 (fun _ _ => ⟨⟨rfl, by decide, by decide⟩, ⟨rfl, by decide, by decide⟩, rfl, trivial⟩) rfl fun b2 => ?_
    refine Ops.alloc [isI 0, isI 0, nilS] zero24 (fun _ _ => ⟨⟨rfl, by decide, by decide⟩, ⟨rfl, by decide, by decide⟩, rfl, trivial⟩) rfl fun b3 => ?_
    refine Ops.store (Has.t rfl) (Has.t rfl) (i := 1) rfl ty24 rfl rfl (Ss' := [_, _, _]) rfl (M' := [_, (some _, cellM [_, _, _]), _]) rfl ?_
    refine Ops.store (Has.t rfl) (Has.t rfl) (i := 0) rfl ty24 rfl rfl (Ss' := [_, _, _]) rfl (M' := [(some _, cellM [_, _, _]), _, _]) rfl ?_
    refine st (OK1.as (Has.t rfl)) rfl ?_
    refine nl ?_
    refine At.thn (hK5 _ _ ?_); clear hK5
    refine Tri.cv (Cv.wk (.cons (t := 1) (Has.t rfl) (.cons (t := 2) (Has.t rfl) (.cons (t := 3) (Has.t rfl) (.cons (t := 6) (Has.t rfl) (.cons (t := 7) (Has.t rfl) .nil)))))) ?_
    refine Tri.seq fun K6 hK6 => ?_
    refine Tri.region ?_
    refine st (OK1.load (Has.t rfl) (i := 1) rfl ty24 rfl (Ss' := [_, _, _]) rfl) rfl ?_
    refine st (OK1.mv (Has.t rfl)) rfl ?_
    refine st (OK1.call (hnf_Coordinates_len hvl) (.cons (Has.t rfl) (.cons (Has.t rfl) .nil))) rfl ?_
    refine st (OK1.mv (Has.t rfl)) rfl ?_
    refine st (OK1.ext (Has.t rfl) rfl) rfl ?_
    refine st (OK1.ext (Has.t rfl) rfl) rfl ?_
    refine st (OK1.as (Has.t rfl)) rfl ?_
    refine st (OK1.as (Has.t rfl)) rfl ?_
    refine nl ?_
    refine At.thn (hK6 _ _ ?_); clear hK6
    refine Tri.cv (Cv.wk (.cons (t := 1) (Has.t rfl) (.cons (t := 2) (Has.t rfl) (.cons (t := 3) (Has.t rfl) (.cons (t := 6) (Has.t rfl) (.cons (t := 7) (Has.t rfl) (.cons (t := 10) (Has.t rfl) (.cons (t := 11) (Has.t rfl) .nil)))))))) ?_
    refine Tri.seq fun K7 hK7 => ?_
    refine Tri.seq fun K8 hK8 => ?_
    refine Tri.region ?_
    refine st (OK1.mv (Has.t rfl)) rfl ?_
    refine st (OK1.len sl22 (Has.t rfl)) rfl ?_
    refine st (OK1.fieldAddr (Has.t rfl) fld24_1 ty3) rfl ?_
    refine st (OK1.load1 (Has.t rfl) (i := 1) rfl ty3 rfl) rfl ?_
    refine st (OK1.neI (Has.t rfl) (Has.t rfl)) rfl ?_
    refine nl ?_
    refine At.thn (hK8 _ _ ?_); clear hK8
    refine Tri.cond (Has.t rfl) (fun hc2 => ?_) (fun hc2 => ?_)
    · have hc2 := BP.t hc2
      skip
      refine Tri.seq fun K9 hK9 => ?_
      refine Tri.region ?_
      refine st (OK1.mv (Has.t rfl)) rfl ?_
      refine st (OK1.eqI (Has.t rfl) (Has.cI 2 rfl)) rfl ?_
      refine st (OK1.mv (Has.t rfl)) rfl ?_
      refine stT rfl rfl (fun hg => have hg' := BP.t hg; OK1.mv (Has.t rfl)) rfl ?_
      refine stT rfl rfl (fun hg => have hg' := BP.t hg; OK1.len sl22 (Has.g rfl hg)) rfl ?_
      refine stT rfl rfl (fun hg => have hg' := BP.t hg; OK1.eqI (Has.g rfl hg) (Has.cI 0 rfl)) rfl ?_
      refine st (OK1.pickAnd (Has.t rfl) (fun h => Has.g rfl h)) rfl ?_
      refine st (OK1.as (Has.t rfl)) rfl ?_
      refine nl ?_
      refine At.thn (hK9 _ _ ?_); clear hK9
      refine Tri.cv (Cv.wk (.cons (t := 1) (Has.t rfl) (.cons (t := 2) (Has.t rfl) (.cons (t := 3) (Has.t rfl) (.cons (t := 6) (Has.t rfl) (.cons (t := 7) (Has.t rfl) (.cons (t := 10) (Has.t rfl) (.cons (t := 11) (Has.t rfl) .nil)))))))) ?_
      refine Tri.ret ?_
      refine At.thr ?_
      refine rtX1D (.cons _ (.cons _ (.cons _ .slnil))) (.inl rfl) Try.results3 rfl (.tmp (Has.t rfl) .nil) ?_
      exact rfl
    · have hc2 := BP.f hc2
      exfalso; omega
set_option maxHeartbeats 4000000 in
theorem c_HnfCoordinates_ok (R C : Nat) (xs cs vs : List (Bool × List Nat)) (hR : R ≤ 64) (hC : C ≤ 64) (hl : xs.length = R * C) (hvb : ∀ p ∈ vs, p.2.length ≤ 1048576) (hvl : vs.length = C) : CtrX Try.prog 3 [isM (R : Int) (C : Int) xs, SlK 2 zc cs, SlK 2 zc vs] ([]) (fun S M => S = isB true) := by
  refine CtrX.intro Try.func3 rfl (by kernel_rfl) Try.ntmps3 rfl fun w0 F0 => ?_
  refine Tri.cv (Cv.wk (.cons (t := 0) (Has.t rfl) (.cons (t := 1) (Has.t rfl) (.cons (t := 2) (Has.t rfl) .nil)))) ?_
  refine Tri.fact (Has.lenLt (Has.t (t := 1) rfl)) fun lt1 => ?_
  refine Tri.fact (Has.lenLt (Has.t (t := 2) rfl)) fun lt2 => ?_
  refine Tri.fact (Has.okM (Has.t (t := 0) rfl)) fun okp0 => ?_
  refine Tri.fact (Has.okP (Has.t (t := 1) rfl)) fun okp1 => ?_
  refine Tri.fact (Has.okP (Has.t (t := 2) rfl)) fun okp2 => ?_
  have hfo := formB_true hR hC hl
  refine Tri.seq fun K1 hK1 => ?_
  refine Tri.region ?_
  refine Ops.box (Has.t rfl) rfl fun b1 => ?_
  refine st (OK1.as (Has.cB false)) rfl ?_
  refine nl ?_
  refine At.thn (hK1 _ _ ?_); clear hK1
  refine Tri.seq fun K2 hK2 => ?_
  refine Tri.seq fun K3 hK3 => ?_
  refine Tri.region ?_
  refine st (OK1.call (law14_awake) .nil) rfl ?_
  refine st (OK1.not (Has.t rfl)) rfl ?_
  refine st (OK1.mv (Has.t rfl)) rfl ?_
  refine stF rfl rfl (fun hg => have hg' := BP.t hg; OK1.load (Has.t rfl) (i := 0) rfl ty24 rfl (Ss' := [_, _, _]) rfl) rfl ?_
  refine stF rfl rfl (fun hg => have hg' := BP.t hg; OK1.call (ref11_Few) (.cons (Has.g rfl hg) (.cons (Has.cI 4 rfl) (.cons (Has.cI 1 rfl) .nil)))) rfl ?_
  refine stF rfl rfl (fun hg => have hg' := BP.t hg; OK1.not (Has.g rfl hg)) rfl ?_
  refine st (OK1.pickOr (Has.t rfl) (fun h => Has.g rfl (ng h))) rfl ?_
  refine st (OK1.mv (Has.t rfl)) rfl ?_
  refine stF rfl rfl (fun hg => have hg' := BP.t hg; OK1.mv (Has.t rfl)) rfl ?_
  refine stF rfl rfl (fun hg => have hg' := BP.t hg; OK1.len sl22 (Has.g rfl hg)) rfl ?_
  refine stF rfl rfl (fun hg => have hg' := BP.t hg; OK1.gtI (Has.g rfl hg) (Has.cI 4 rfl)) rfl ?_
  refine st (OK1.pickOr (Has.t rfl) (fun h => Has.g rfl (ng h))) rfl ?_
  refine st (OK1.mv (Has.t rfl)) rfl ?_
  refine stF rfl rfl (fun hg => have hg' := BP.t hg; OK1.mv (Has.t rfl)) rfl ?_
  refine stF rfl rfl (fun hg => have hg' := BP.t hg; OK1.len sl22 (Has.g rfl hg)) rfl ?_
  refine stF rfl rfl (fun hg => have hg' := BP.t hg; OK1.gtI (Has.g rfl hg) (Has.cI 6 rfl)) rfl ?_
  refine st (OK1.pickOr (Has.t rfl) (fun h => Has.g rfl (ng h))) rfl ?_
  refine st (OK1.mv (Has.t rfl)) rfl ?_
  refine stF rfl rfl (fun hg => have hg' := BP.t hg; OK1.load (Has.t rfl) (i := 0) rfl ty24 rfl (Ss' := [_, _, _]) rfl) rfl ?_
  refine stF rfl rfl (fun hg => have hg' := BP.t hg; OK1.eq (OK1.call (ref11_Formed) (.cons (Has.g rfl hg) .nil)) ((show isB _ = isB true from isB_eq (hfo)))) rfl ?_
  refine stF rfl rfl (fun hg => have hg' := BP.t hg; OK1.not (Has.g rfl hg)) rfl ?_
  refine st (OK1.pickOr (Has.t rfl) (fun h => Has.g rfl (ng h))) rfl ?_
  refine nl ?_
  refine At.thn (hK3 _ _ ?_); clear hK3
  refine Tri.cv (Cv.wk (.cons (t := 1) (Has.t rfl) (.cons (t := 2) (Has.t rfl) (.cons (t := 3) (Has.t rfl) (.cons (t := 6) (Has.t rfl) (.cons (t := 43) (Has.t rfl) .nil)))))) ?_
  refine Tri.cond (Has.t rfl) (fun hc1 => ?_) (fun hc1 => ?_)
  · have hc1 := BP.t hc1
    skip
    refine Tri.seq fun K4 hK4 => ?_
    refine Tri.region ?_
    refine st (OK1.call (law14_awake) .nil) rfl ?_
    refine st (OK1.as (Has.t rfl)) rfl ?_
    refine nl ?_
    refine At.thn (hK4 _ _ ?_); clear hK4
    refine Tri.ret ?_
    refine At.thr ?_
    refine rtX1D (.cons _ .slnil) (.inl rfl) Try.results3 rfl (.tmp (Has.t rfl) .nil) ?_
    exact rfl
  · have hc1 := BP.f hc1
    have HF0 : ((((R : Int) ≤ 4 ∧ (C : Int) ≤ 4) ∧ fewB xs 100 1 = true) ∧ ((cs.length : Nat) : Int) ≤ 4) ∧ ((vs.length : Nat) : Int) ≤ 6 := (by simpa [and_assoc] using hc1)
    obtain ⟨⟨⟨⟨hR5, hC5⟩, HF⟩, hc4⟩, hv6⟩ := HF0
    obtain ⟨hl0, hb⟩ := fewB_bd (N := 100) (K := 1) okp0 HF rfl rfl (by decide)
    have hhz : (1 + 4) * (R + 2) ^ C ≤ 1000000 := by
      have h1 := Nat.pow_le_pow_left (show R + 2 ≤ 6 by omega) C
      have h2 := Nat.pow_le_pow_right (show 0 < 6 by decide) (show C ≤ 4 by omega)
      have h3 : 6 ^ 4 = 1296 := by decide
      omega
    have hLl := hL_len (R := R) (C := C) hb
    have hLb := (hL_bd (R := R) (C := C) hb).mono hhz
    have hLf := hL_form (R := R) (C := C) hb
    obtain ⟨Hl, hHl⟩ : ∃ Hl, Hl = hL R C (vals xs) := ⟨_, rfl⟩
    rw [← hHl] at hLl hLb hLf
    have hHm : (Hl.map nz).length = R * C := by rw [List.length_map, hLl]
    have hHb : Bd (vals (Hl.map nz)) 1000000 := by rw [vals_nz]; exact hLb
    have hHf : HermF R C (mf C (vals (Hl.map nz))) := by rw [vals_nz]; exact hLf
    have hRK : (R + 1) * (1000000 + 2) ≤ 5 * 1000002 := Nat.mul_le_mul (by omega) (by decide)
    have hfv : fewB vs 100 1048576 = true := by
      rw [fewB_yes (i := vs.length) (.inl (Nat.le_refl _)) fun j hj => by rw [List.getD, List.getElem?_eq_getElem hj]; have := hvb _ (List.getElem_mem hj); show ((vs[j].2.length : Nat) : Int) ≤ _; omega]
      exact decide_eq_true (by omega)
    obtain ⟨_, hbv⟩ := fewB_bd (N := 100) (K := 1048576) okp2 hfv rfl rfl (by decide)
    obtain ⟨X0, e0, hC0, he0, hX0, hs0, _⟩ := hnf_CoordF (Kv := 1048576) hHb hR hC hHm hbv hvl (by omega) hHf
    refine Tri.skip ?_
    refine At.thn (hK2 _ _ ?_); clear hK2
    refine Tri.seq fun K5 hK5 => ?_
    refine Tri.region ?_
    refine st (OK1.load (Has.t rfl) (i := 0) rfl ty24 rfl (Ss' := [_, _, _]) rfl) rfl ?_
    refine st (OK1.eq (OK1.call (hnf_Hermite hb hhz hR hC hl) (.cons (Has.t rfl) .nil)) ((show _ = isTup [isMz R C Hl, isMz R R (uL R C (vals xs)), isI 0] from by rw [hHl]; rfl))) rfl ?_
    refine st (OK1.mv (Has.t rfl)) rfl ?_
    refine st (OK1.ext (Has.t rfl) rfl) rfl ?_
    refine st (OK1.ext (Has.t rfl) rfl) rfl ?_
    refine st (OK1.ext (Has.t rfl) rfl) rfl ?_
    refine Ops.alloc [isI 0, isI 0, nilS] zero24 (fun _ _ => ⟨⟨rfl, by decide, by decide⟩, ⟨rfl, by decide, by decide⟩, rfl, trivial⟩) rfl fun b2 => ?_
    refine Ops.alloc [isI 0, isI 0, nilS] zero24 (fun _ _ => ⟨⟨rfl, by decide, by decide⟩, ⟨rfl, by decide, by decide⟩, rfl, trivial⟩) rfl fun b3 => ?_
    refine Ops.store (Has.t rfl) (Has.t rfl) (i := 1) rfl ty24 rfl rfl (Ss' := [_, _, _]) rfl (M' := [_, (some _, cellM [_, _, _]), _]) rfl ?_
    refine Ops.store (Has.t rfl) (Has.t rfl) (i := 0) rfl ty24 rfl rfl (Ss' := [_, _, _]) rfl (M' := [(some _, cellM [_, _, _]), _, _]) rfl ?_
    refine st (OK1.as (Has.t rfl)) rfl ?_
    refine nl ?_
    refine At.thn (hK5 _ _ ?_); clear hK5
    refine Tri.cv (Cv.wk (.cons (t := 1) (Has.t rfl) (.cons (t := 2) (Has.t rfl) (.cons (t := 3) (Has.t rfl) (.cons (t := 6) (Has.t rfl) (.cons (t := 7) (Has.t rfl) .nil)))))) ?_
    refine Tri.seq fun K6 hK6 => ?_
    refine Tri.region ?_
    refine st (OK1.load (Has.t rfl) (i := 1) rfl ty24 rfl (Ss' := [_, _, _]) rfl) rfl ?_
    refine st (OK1.mv (Has.t rfl)) rfl ?_
    refine st (OK1.call hC0 (.cons (Has.t rfl) (.cons (Has.t rfl) .nil))) rfl ?_
    refine st (OK1.mv (Has.t rfl)) rfl ?_
    refine st (OK1.ext (Has.t rfl) rfl) rfl ?_
    refine st (OK1.ext (Has.t rfl) rfl) rfl ?_
    refine st (OK1.as (Has.t rfl)) rfl ?_
    refine st (OK1.as (Has.t rfl)) rfl ?_
    refine nl ?_
    refine At.thn (hK6 _ _ ?_); clear hK6
    refine Tri.cv (Cv.wk (.cons (t := 1) (Has.t rfl) (.cons (t := 2) (Has.t rfl) (.cons (t := 3) (Has.t rfl) (.cons (t := 6) (Has.t rfl) (.cons (t := 7) (Has.t rfl) (.cons (t := 10) (Has.t rfl) (.cons (t := 11) (Has.t rfl) .nil)))))))) ?_
    refine Tri.seq fun K7 hK7 => ?_
    refine Tri.seq fun K8 hK8 => ?_
    refine Tri.region ?_
    refine st (OK1.mv (Has.t rfl)) rfl ?_
    refine st (OK1.len sl22 (Has.t rfl)) rfl ?_
    refine st (OK1.fieldAddr (Has.t rfl) fld24_1 ty3) rfl ?_
    refine st (OK1.load1 (Has.t rfl) (i := 1) rfl ty3 rfl) rfl ?_
    refine st (OK1.neI (Has.t rfl) (Has.t rfl)) rfl ?_
    refine nl ?_
    refine At.thn (hK8 _ _ ?_); clear hK8
    refine Tri.cond (Has.t rfl) (fun hc2 => ?_) (fun hc2 => ?_)
    · have hc2 := BP.t hc2
      exfalso; omega
    · have hc2 := BP.f hc2
      skip
      refine Tri.skip ?_
      refine At.thn (hK7 _ _ ?_); clear hK7
      refine Tri.cv (Cv.wk (.cons (t := 1) (Has.t rfl) (.cons (t := 2) (Has.t rfl) (.cons (t := 3) (Has.t rfl) (.cons (t := 6) (Has.t rfl) (.cons (t := 7) (Has.t rfl) (.cons (t := 10) (Has.t rfl) (.cons (t := 11) (Has.t rfl) .nil)))))))) ?_
      refine Tri.seq fun K9 hK9 => ?_
      refine Tri.seq fun K10 hK10 => ?_
      refine Tri.region ?_
      refine st (OK1.mv (Has.t rfl)) rfl ?_
      refine st (OK1.neI (Has.t rfl) (Has.cI 0 rfl)) rfl ?_
      refine st (OK1.mv (Has.t rfl)) rfl ?_
      refine stT rfl rfl (fun hg => have hg' := BP.t hg; OK1.mv (Has.t rfl)) rfl ?_
      refine stT rfl rfl (fun hg => have hg' := BP.t hg; OK1.neI (Has.g rfl hg) (Has.cI 10 rfl)) rfl ?_
      refine stT rfl rfl (fun hg => have hg' := BP.t hg; OK1.mv (Has.g rfl hg)) rfl ?_
      refine stGF rfl rfl (fun hg => have hg' := BP.t hg; OK1.mv (Has.t rfl)) rfl ?_
      refine stGF rfl rfl (fun hg => have hg' := BP.t hg; OK1.len sl22 (Has.g rfl hg)) rfl ?_
      refine stGF rfl rfl (fun hg => have hg' := BP.t hg; OK1.gtI (Has.g rfl hg) (Has.cI 0 rfl)) rfl ?_
      refine stT rfl rfl (fun hg => have hg' := BP.t hg; OK1.pickOr (Has.g rfl hg) (fun h => Has.g rfl (gn hg h))) rfl ?_
      refine st (OK1.pickAnd (Has.t rfl) (fun h => Has.g rfl h)) rfl ?_
      refine st (OK1.mv (Has.t rfl)) rfl ?_
      refine stF rfl rfl (fun hg => have hg' := BP.t hg; OK1.mv (Has.t rfl)) rfl ?_
      refine stF rfl rfl (fun hg => have hg' := BP.t hg; OK1.eqI (Has.g rfl hg) (Has.cI 0 rfl)) rfl ?_
      refine stF rfl rfl (fun hg => have hg' := BP.t hg; OK1.mv (Has.g rfl hg)) rfl ?_
      refine stGT rfl rfl (fun hg => have hg' := BP.t hg; OK1.load (Has.t rfl) (i := 1) rfl ty24 rfl (Ss' := [_, _, _]) rfl) rfl ?_
      refine stGT rfl rfl (fun hg => have hg' := BP.t hg; OK1.mv (Has.t rfl)) rfl ?_
      refine stGT rfl rfl (fun hg => have hg' := BP.t hg; OK1.mv (Has.t rfl)) rfl ?_
      refine stGT rfl rfl (fun hg => have hg' := BP.t hg; OK1.call (law14_makes hX0 hHb hbv (by omega) (by decide) hR hC hHm (hs0 hg'.2).1 hvl (hs0 hg'.2).2) (.cons (Has.g rfl hg) (.cons (Has.g rfl hg) (.cons (Has.g rfl hg) .nil)))) rfl ?_
      refine stGT rfl rfl (fun hg => have hg' := BP.t hg; OK1.not (Has.g rfl hg)) rfl ?_
      refine stF rfl rfl (fun hg => have hg' := BP.t hg; OK1.pickAnd (Has.g rfl hg) (fun h => Has.g rfl (ga hg h))) rfl ?_
      refine st (OK1.pickOr (Has.t rfl) (fun h => Has.g rfl (ng h))) rfl ?_
      refine nl ?_
      refine At.thn (hK10 _ _ ?_); clear hK10
      refine Tri.cv (Cv.wk (.cons (t := 1) (Has.t rfl) (.cons (t := 3) (Has.t rfl) (.cons (t := 6) (Has.t rfl) (.cons (t := 7) (Has.t rfl) (.cons (t := 90) (Has.t rfl) .nil)))))) ?_
      refine Tri.cond (Has.t rfl) (fun hc3 => ?_) (fun hc3 => ?_)
      · have hc3 := BP.t hc3
        exfalso; rcases he0 with h | ⟨h, h2⟩
        · subst h; simp at hc3
        · subst h; subst h2; simp at hc3
      · have hc3 := BP.f hc3
        skip
        refine Tri.skip ?_
        refine At.thn (hK9 _ _ ?_); clear hK9
        refine Tri.seq fun K11 hK11 => ?_
        refine Tri.region ?_
        refine Ops.cv (Cv.grow0K (α := Bool × List Nat) zc) ?_
        refine st (OK1.as (Has.cGr (α := Bool × List Nat))) rfl ?_
        refine nl ?_
        refine At.thn (hK11 _ _ ?_); clear hK11
        refine Tri.seq fun K12 hK12 => ?_
        refine Tri.seq fun K13 hK13 => ?_
        refine Tri.region ?_
        refine st (OK1.as (Has.cI 0 rfl)) rfl ?_
        refine nl ?_
        refine At.thn (hK13 _ _ ?_); clear hK13
        refine Tri.block ?_
        refine Tri.loopF [1, 3, 6, 7] (fun (z : { z : Nat × Gr (Bool × List Nat) × List (Bool × List Nat) // z.1 ≤ R ∧ z.2.2.length = z.1 ∧ Bd (vals z.2.2) 2 }) => match z with | ⟨(i, g, bys), hI⟩ => [(13, isI (i : Int)), (12, isGr g bys.length)]) (fun M => fun (z : { z : Nat × Gr (Bool × List Nat) × List (Bool × List Nat) // z.1 ≤ R ∧ z.2.2.length = z.1 ∧ Bd (vals z.2.2) 2 }) => match z with | ⟨(i, g, bys), hI⟩ => [grMK zc g bys, (some b3, cellM [isI (R : Int), isI (R : Int), SlK 2 zc ((uL R C (vals xs)).map nz)]), (some b2, cellM [isI (R : Int), isI (C : Int), SlK 2 zc (Hl.map nz)]), (some b1, cellM [isI (R : Int), isI (C : Int), SlK 2 zc xs])]) (fun (z : { z : Nat × Gr (Bool × List Nat) × List (Bool × List Nat) // z.1 ≤ R ∧ z.2.2.length = z.1 ∧ Bd (vals z.2.2) 2 }) => match z with | ⟨(i, g, bys), hI⟩ => R - i) (⟨(0, Gr.nil, []), Nat.zero_le _, rfl, Bd.nil 2⟩) (Cv.mem (.cons (t := 13) (Has.t' rfl ?_) (.cons (t := 12) (Has.t' rfl ?_) (.cons (t := 1) (Has.t rfl) (.cons (t := 3) (Has.t rfl) (.cons (t := 6) (Has.t rfl) (.cons (t := 7) (Has.t rfl) .nil)))))) ?_) ?_
        · rfl
        · rfl
        · rfl
        rintro ⟨⟨i, g, bys⟩, hI⟩ K14 hK14
        refine Tri.cv (Cv.wk (.cons (t := 13) (Has.t rfl) (.cons (t := 12) (Has.t rfl) (.cons (t := 1) (Has.t rfl) (.cons (t := 3) (Has.t rfl) (.cons (t := 6) (Has.t rfl) (.cons (t := 7) (Has.t rfl) .nil))))))) ?_
        refine Tri.memEq (M' := [grMK zc g bys, (some b3, cellM [isI (R : Int), isI (R : Int), SlK 2 zc ((uL R C (vals xs)).map nz)]), (some b2, cellM [isI (R : Int), isI (C : Int), SlK 2 zc (Hl.map nz)]), (some b1, cellM [isI (R : Int), isI (C : Int), SlK 2 zc xs])]) rfl ?_
        simp only [] at hI
        obtain ⟨hi, hbl, hbb⟩ := hI
        refine Tri.seq fun K15 hK15 => ?_
        refine Tri.seq fun K16 hK16 => ?_
        refine Tri.region ?_
        refine st (OK1.mv (Has.t rfl)) rfl ?_
        refine st (OK1.fieldAddr (Has.t rfl) fld24_0 ty3) rfl ?_
        refine st (OK1.load1 (Has.t rfl) (i := 2) rfl ty3 rfl) rfl ?_
        refine st (OK1.ltI (Has.t rfl) (Has.t rfl)) rfl ?_
        refine nl ?_
        refine At.thn (hK16 _ _ ?_); clear hK16
        refine Tri.cond (Has.t rfl) (fun hc4 => ?_) (fun hc4 => ?_)
        · have hc4 := BP.t hc4
          skip
          refine Tri.skip ?_
          refine At.thn (hK15 _ _ ?_); clear hK15
          refine Tri.seq fun K17 hK17 => ?_
          refine Tri.block ?_
          refine Tri.seq fun K18 hK18 => ?_
          refine Tri.region ?_
          refine st (OK1.call (zint_Of) (.cons (Has.cI 0 rfl) .nil)) rfl ?_
          refine Ops.alloc [isB false, SlM isU []] zero37 (fun _ _ => ⟨rfl, nilM _ _, trivial⟩) rfl fun b4 => ?_
          refine Ops.store (Has.t rfl) (Has.t rfl) (i := 0) rfl ty37 rfl rfl (Ss' := [_, _]) rfl (M' := [(some _, cellM [_, _]), _, _, _, _]) rfl ?_
          refine nl ?_
          refine At.thn (hK18 _ _ ?_); clear hK18
          refine Tri.seq fun K19 hK19 => ?_
          refine Tri.seq fun K20 hK20 => ?_
          refine Tri.region ?_
          refine st (OK1.mv (Has.t rfl)) rfl ?_
          refine st (OK1.mv (Has.t rfl)) rfl ?_
          refine st (OK1.len sl22 (Has.t rfl)) rfl ?_
          refine st (OK1.ltI (Has.t rfl) (Has.t rfl)) rfl ?_
          refine st (OK1.mv (Has.t rfl)) rfl ?_
          refine stT rfl rfl (fun hg => have hg' := BP.t hg; OK1.mv (Has.t rfl)) rfl ?_
          refine stT rfl rfl (fun hg => have hg' := BP.t hg; OK1.mv (Has.t rfl)) rfl ?_
          refine stT rfl rfl (fun hg => have hg' := BP.t hg; OK1.ixK sl22 ty37 (Has.g rfl hg) (Has.g rfl hg) zc_len ⟨by omega, by omega⟩ (getD_some (d := (false, [])) (by first | omega | (simp only [Int.toNat_natCast, List.length_set]; omega)))) rfl ?_
          refine stT rfl rfl (fun hg => have hg' := BP.t hg; OK1.fieldAddrP (Has.g rfl hg) fld37_1 ty35 (Ss' := [_]) rfl) rfl ?_
          refine stT rfl rfl (fun hg => have hg' := BP.t hg; OK1.loadP1 (Has.g rfl hg) ty35) rfl ?_
          refine stT rfl rfl (fun hg => have hg' := BP.t hg; OK1.len sl35 (Has.g rfl hg)) rfl ?_
          refine stT rfl rfl (fun hg => have hg' := BP.t hg; OK1.leI (Has.g rfl hg) (Has.cI 2 rfl)) rfl ?_
          refine st (OK1.pickAnd (Has.t rfl) (fun h => Has.g rfl h)) rfl ?_
          refine nl ?_
          refine At.thn (hK20 _ _ ?_); clear hK20
          refine Tri.cond (Has.t rfl) (fun hc5 => ?_) (fun hc5 => ?_)
          · have hc5 := BP.t hc5
            have hlc : i < cs.length := (by omega)
            have hwc := hc5.2
            rw [Int.toNat_natCast] at hwc
            have hpb : (List.length (words (zv (cs.getD i (false, [])).1 (cs.getD i (false, [])).2).natAbs)) ≤ 2 := by
              rw [zv_nw]
              have hmem : (cs.getD i (false, [])) ∈ cs := by rw [List.getD, List.getElem?_eq_getElem hlc]; exact List.getElem_mem hlc
              exact Nat.le_trans (nw_val (okp1 _ hmem).1) (by omega)
            refine Tri.region ?_
            refine st (OK1.mv (Has.t rfl)) rfl ?_
            refine st (OK1.mv (Has.t rfl)) rfl ?_
            refine st (OK1.ixK sl22 ty37 (Has.t rfl) (Has.t rfl) zc_len ⟨by omega, by omega⟩ (getD_some (d := (false, [])) (by first | omega | (simp only [Int.toNat_natCast, List.length_set]; omega)))) rfl ?_
            refine st (OK1.loadP (Has.t rfl) ty37 rfl (Ss' := [_, _]) rfl) rfl ?_
            refine Ops.store (Has.t rfl) (Has.t rfl) (i := 0) rfl ty37 rfl rfl (Ss' := [_, _]) rfl (M' := [(some _, cellM [_, _]), _, _, _, _]) rfl ?_
            refine nl ?_
            refine At.thn (hK19 _ _ ?_); clear hK19
            refine Tri.region ?_
            refine st (OK1.mv (Has.t rfl)) rfl ?_
            refine st (OK1.load (Has.t rfl) (i := 0) rfl ty37 rfl (Ss' := [_, _]) rfl) rfl ?_
            refine st (OK1.buildS [isB false, SlM isU []] sl22 ty37 zero37 (fun _ _ => ⟨rfl, nilM _ _, trivial⟩) rfl rfl (.cons (Has.t rfl) rfl rfl rfl .nil) rfl (S := SlK 2 zc [(_, _)]) rfl) rfl ?_
            refine Ops.appendGK0 (fk := zc) (u := (false, [])) zc_len (by decide) (fun _ => inferInstance) sl22 ty37 zero37 (fun _ _ => ⟨rfl, nilM _ _, trivial⟩) by37 (Has.t rfl) (i := 1) rfl (Has.t rfl) (by rw [List.length_singleton]; omega) rfl fun gr1 => ?_
            refine Ops.memEq (M' := [_, grMK _ _ _, _, _, _]) rfl ?_
            refine st (OK1.as (Has.t rfl)) rfl ?_
            refine nl ?_
            refine At.bln ?_
            refine At.thn (hK17 _ _ ?_); clear hK17
            refine Tri.region ?_
            refine st (OK1.mv (Has.t rfl)) rfl ?_
            refine st (OK1.addI (Has.t rfl) (Has.cI 1 rfl) (by first | omega | assumption) (by first | omega | assumption)) rfl ?_
            refine st (OK1.as (Has.t rfl)) rfl ?_
            refine nl ?_
            refine At.thn ?_
            refine hK14 (⟨(i + 1, gr1, bys ++ [(cs.getD i (false, []))]), by show i + 1 ≤ R; omega, by show (bys ++ [_]).length = _; rw [List.length_append, hbl]; rfl, by show Bd (vals (bys ++ [_])) 2; rw [vals_app]; exact Bd.app1 hbb hpb⟩) _ _ ?_ (Cv.trans (Cv.drop ((.cons _ (.cons_cons _ (.cons_cons _ (.cons_cons _ (.cons_cons _ .slnil))))))) (Cv.mem (.cons (t := 13) (Has.t' rfl ?_) (.cons (t := 12) (Has.t' rfl ?_) (.cons (t := 1) (Has.t rfl) (.cons (t := 3) (Has.t rfl) (.cons (t := 6) (Has.t rfl) (.cons (t := 7) (Has.t rfl) .nil)))))) ?_))
            · show R - (i + 1) < R - i; omega
            · exact isI_eq (by omega)
            · exact isGr_eq (by rw [List.length_append]; rfl)
            · rfl
          · have hc5 := BP.f hc5
            skip
            refine Tri.skip ?_
            refine At.thn (hK19 _ _ ?_); clear hK19
            refine Tri.region ?_
            refine st (OK1.mv (Has.t rfl)) rfl ?_
            refine st (OK1.load (Has.t rfl) (i := 0) rfl ty37 rfl (Ss' := [_, _]) rfl) rfl ?_
            refine st (OK1.buildS [isB false, SlM isU []] sl22 ty37 zero37 (fun _ _ => ⟨rfl, nilM _ _, trivial⟩) rfl rfl (.cons (Has.t rfl) rfl rfl rfl .nil) rfl (S := SlK 2 zc [(_, _)]) rfl) rfl ?_
            refine Ops.appendGK0 (fk := zc) (u := (false, [])) zc_len (by decide) (fun _ => inferInstance) sl22 ty37 zero37 (fun _ _ => ⟨rfl, nilM _ _, trivial⟩) by37 (Has.t rfl) (i := 1) rfl (Has.t rfl) (by rw [List.length_singleton]; omega) rfl fun gr1 => ?_
            refine Ops.memEq (M' := [_, grMK _ _ _, _, _, _]) rfl ?_
            refine st (OK1.as (Has.t rfl)) rfl ?_
            refine nl ?_
            refine At.bln ?_
            refine At.thn (hK17 _ _ ?_); clear hK17
            refine Tri.region ?_
            refine st (OK1.mv (Has.t rfl)) rfl ?_
            refine st (OK1.addI (Has.t rfl) (Has.cI 1 rfl) (by first | omega | assumption) (by first | omega | assumption)) rfl ?_
            refine st (OK1.as (Has.t rfl)) rfl ?_
            refine nl ?_
            refine At.thn ?_
            refine hK14 (⟨(i + 1, gr1, bys ++ [nz 0]), by show i + 1 ≤ R; omega, by show (bys ++ [_]).length = _; rw [List.length_append, hbl]; rfl, by show Bd (vals (bys ++ [_])) 2; rw [vals_app]; exact Bd.app1 hbb (by show (List.length (words (zv (nz 0).1 (nz 0).2).natAbs)) ≤ 2; rw [zv_nz]; exact Nat.le_trans (nw_small' (by decide)) (by decide))⟩) _ _ ?_ (Cv.trans (Cv.drop ((.cons _ (.cons_cons _ (.cons_cons _ (.cons_cons _ (.cons_cons _ .slnil))))))) (Cv.mem (.cons (t := 13) (Has.t' rfl ?_) (.cons (t := 12) (Has.t' rfl ?_) (.cons (t := 1) (Has.t rfl) (.cons (t := 3) (Has.t rfl) (.cons (t := 6) (Has.t rfl) (.cons (t := 7) (Has.t rfl) .nil)))))) ?_))
            · show R - (i + 1) < R - i; omega
            · exact isI_eq (by omega)
            · exact isGr_eq (by rw [List.length_append]; rfl)
            · rfl
        · have hc4 := BP.f hc4
          have hiR : i = R := (by omega)
          obtain ⟨W, hW⟩ : ∃ W, W = tab (1 * C) C fun i k => dotS (fun j => cf (vals bys) (i * R + j)) (fun j => cf (vals (Hl.map nz)) (j * C + k)) R := ⟨_, rfl⟩
          have hWl : W.length = C := by rw [hW, tab_len, Nat.one_mul]
          have hWb : Bd W (2 + 1000000 + R) := by rw [hW]; exact Bd_tab fun i k => dotS_nw (fun _ => hbb _) (fun _ => hHb _) R
          have hWm : (W.map nz).length = C := by rw [List.length_map, hWl]
          have hWv : Bd (vals (W.map nz)) 1048576 := by rw [vals_nz]; exact hWb.mono (by omega)
          have hWs : SpZ R C (mf C (vals (Hl.map nz))) (cf (vals (W.map nz))) := ⟨fun j => cf (vals bys) j, fun k hk => by
            rw [vals_nz, hW, show k = 0 * C + k by omega, cf_tab' _ hk (by omega), dotS_sm]
            exact sm_congr fun j _ => by simp only [Nat.zero_mul, Nat.zero_add]; rfl⟩
          obtain ⟨X1, e1, hC1, _, hX1, hs1, hz1⟩ := hnf_CoordF (Kv := 1048576) (vs := W.map nz) hHb hR hC hHm hWv hWm (by omega) hHf
          obtain rfl : e1 = 0 := hz1 hWs
          obtain ⟨X2, e2, hC2, he2⟩ := hnf_CoordA (Kv := 1048576) (vs := W.map nz) hb hR hC hl hWv hWm (by have : (R + 1) * (1 + 2) ≤ 5 * 3 := Nat.mul_le_mul (by omega) (by decide); omega)
          obtain ⟨hm, hhm⟩ : ∃ b, b = hermB R C (mf C (vals xs)) := ⟨_, rfl⟩
          refine Tri.exit ?_
          refine At.the ?_
          refine At.the ?_
          refine At.blh ?_
          refine At.thn (hK12 _ _ ?_); clear hK12
          refine Tri.cv (Cv.wk (.cons (t := 3) (Has.t rfl) (.cons (t := 6) (Has.t rfl) (.cons (t := 7) (Has.t rfl) (.cons (t := 12) (Has.t rfl) .nil))))) ?_
          refine Tri.seq fun K21 hK21 => ?_
          refine Tri.cv (Cv.freezeGK (t := 12) (i := 0) (ys := bys) zc_len rfl rfl rfl) ?_
          refine Tri.memEq (M' := [_, _, _]) rfl ?_
          refine Tri.cv (Cv.wk (.cons (t := 3) (Has.t rfl) (.cons (t := 6) (Has.t rfl) (.cons (t := 7) (Has.t rfl) (.cons (t := 12) (Has.t rfl) .nil))))) ?_
          refine Tri.region ?_
          refine st (OK1.fieldAddr (Has.t rfl) fld24_0 ty3) rfl ?_
          refine st (OK1.load1 (Has.t rfl) (i := 1) rfl ty3 rfl) rfl ?_
          refine st (OK1.mv (Has.t rfl)) rfl ?_
          refine st (OK1.build [isI 0, isI 0, nilS] pl24 zero24 (fun _ _ => ⟨⟨rfl, by decide, by decide⟩, ⟨rfl, by decide, by decide⟩, rfl, trivial⟩) (.cons (Has.cI 1 rfl) rfl rfl rfl (.cons (Has.t rfl) rfl rfl rfl (.cons (Has.t rfl) rfl rfl rfl .nil))) (Z'' := [_, _, _]) rfl) rfl ?_
          refine Ops.alloc [isI 0, isI 0, nilS] zero24 (fun _ _ => ⟨⟨rfl, by decide, by decide⟩, ⟨rfl, by decide, by decide⟩, rfl, trivial⟩) rfl fun b5 => ?_
          refine Ops.store (Has.t rfl) (Has.t rfl) (i := 0) rfl ty24 rfl rfl (Ss' := [_, _, _]) rfl (M' := [(some _, cellM [_, _, _]), _, _, _]) rfl ?_
          refine nl ?_
          refine At.thn (hK21 _ _ ?_); clear hK21
          refine Tri.cv (Cv.wk (.cons (t := 3) (Has.t rfl) (.cons (t := 6) (Has.t rfl) (.cons (t := 7) (Has.t rfl) (.cons (t := 15) (Has.t rfl) .nil))))) ?_
          refine Tri.seq fun K22 hK22 => ?_
          refine Tri.region ?_
          refine st (OK1.load (Has.t rfl) (i := 0) rfl ty24 rfl (Ss' := [_, _, _]) rfl) rfl ?_
          refine st (OK1.load (Has.t rfl) (i := 2) rfl ty24 rfl (Ss' := [_, _, _]) rfl) rfl ?_
          refine st (OK1.eq (OK1.call (zmat_Mul (R := 1) (C := R) (D := C) (K := 2) (L := 1000000) hbb hHb (by decide) (by decide) hR hC (by rw [hbl, hiR, Nat.one_mul]) hHm) (.cons (Has.t rfl) (.cons (Has.t rfl) .nil))) ((show _ = isTup [isMz 1 C W, isI 0] from by rw [hW]))) rfl ?_
          refine st (OK1.mv (Has.t rfl)) rfl ?_
          refine st (OK1.ext (Has.t rfl) rfl) rfl ?_
          refine st (OK1.ext (Has.t rfl) rfl) rfl ?_
          refine Ops.alloc [isI 0, isI 0, nilS] zero24 (fun _ _ => ⟨⟨rfl, by decide, by decide⟩, ⟨rfl, by decide, by decide⟩, rfl, trivial⟩) rfl fun b6 => ?_
          refine Ops.store (Has.t rfl) (Has.t rfl) (i := 0) rfl ty24 rfl rfl (Ss' := [_, _, _]) rfl (M' := [(some _, cellM [_, _, _]), _, _, _, _]) rfl ?_
          refine st (OK1.as (Has.t rfl)) rfl ?_
          refine nl ?_
          refine At.thn (hK22 _ _ ?_); clear hK22
          refine Tri.cv (Cv.wk (.cons (t := 3) (Has.t rfl) (.cons (t := 6) (Has.t rfl) (.cons (t := 7) (Has.t rfl) (.cons (t := 16) (Has.t rfl) (.cons (t := 17) (Has.t rfl) .nil)))))) ?_
          refine Tri.seq fun K23 hK23 => ?_
          refine Tri.region ?_
          refine st (OK1.load (Has.t rfl) (i := 3) rfl ty24 rfl (Ss' := [_, _, _]) rfl) rfl ?_
          refine st (OK1.fieldAddr (Has.t rfl) fld24_2 ty22) rfl ?_
          refine st (OK1.load1 (Has.t rfl) (i := 0) rfl ty22 rfl) rfl ?_
          refine st (OK1.call hC1 (.cons (Has.t rfl) (.cons (Has.t rfl) .nil))) rfl ?_
          refine st (OK1.mv (Has.t rfl)) rfl ?_
          refine st (OK1.ext (Has.t rfl) rfl) rfl ?_
          refine st (OK1.ext (Has.t rfl) rfl) rfl ?_
          refine st (OK1.as (Has.t rfl)) rfl ?_
          refine st (OK1.as (Has.t rfl)) rfl ?_
          refine nl ?_
          refine At.thn (hK23 _ _ ?_); clear hK23
          refine Tri.cv (Cv.wk (.cons (t := 3) (Has.t rfl) (.cons (t := 6) (Has.t rfl) (.cons (t := 7) (Has.t rfl) (.cons (t := 16) (Has.t rfl) (.cons (t := 17) (Has.t rfl) (.cons (t := 18) (Has.t rfl) (.cons (t := 19) (Has.t rfl) .nil)))))))) ?_
          refine Tri.seq fun K24 hK24 => ?_
          refine Tri.region ?_
          refine st (OK1.load (Has.t rfl) (i := 4) rfl ty24 rfl (Ss' := [_, _, _]) rfl) rfl ?_
          refine st (OK1.fieldAddr (Has.t rfl) fld24_2 ty22) rfl ?_
          refine st (OK1.load1 (Has.t rfl) (i := 0) rfl ty22 rfl) rfl ?_
          refine st (OK1.call hC2 (.cons (Has.t rfl) (.cons (Has.t rfl) .nil))) rfl ?_
          refine st (OK1.mv (Has.t rfl)) rfl ?_
          refine st (OK1.ext (Has.t rfl) rfl) rfl ?_
          refine st (OK1.ext (Has.t rfl) rfl) rfl ?_
          refine st (OK1.as (Has.t rfl)) rfl ?_
          refine st (OK1.as (Has.t rfl)) rfl ?_
          refine nl ?_
          refine At.thn (hK24 _ _ ?_); clear hK24
          refine Tri.cv (Cv.wk (.cons (t := 3) (Has.t rfl) (.cons (t := 6) (Has.t rfl) (.cons (t := 7) (Has.t rfl) (.cons (t := 16) (Has.t rfl) (.cons (t := 17) (Has.t rfl) (.cons (t := 18) (Has.t rfl) (.cons (t := 19) (Has.t rfl) (.cons (t := 21) (Has.t rfl) .nil))))))))) ?_
          refine Tri.seq fun K25 hK25 => ?_
          refine Tri.region ?_
          refine st (OK1.mv (Has.t rfl)) rfl ?_
          refine st (OK1.eqI (Has.t rfl) (Has.cI 0 rfl)) rfl ?_
          refine st (OK1.mv (Has.t rfl)) rfl ?_
          refine stT rfl rfl (fun hg => have hg' := BP.t hg; OK1.mv (Has.t rfl)) rfl ?_
          refine stT rfl rfl (fun hg => have hg' := BP.t hg; OK1.eqI (Has.g rfl hg) (Has.cI 0 rfl)) rfl ?_
          refine st (OK1.pickAnd (Has.t rfl) (fun h => Has.g rfl h)) rfl ?_
          refine st (OK1.mv (Has.t rfl)) rfl ?_
          refine stT rfl rfl (fun hg => have hg' := BP.t hg; OK1.load (Has.t rfl) (i := 3) rfl ty24 rfl (Ss' := [_, _, _]) rfl) rfl ?_
          refine stT rfl rfl (fun hg => have hg' := BP.t hg; OK1.mv (Has.t rfl)) rfl ?_
          refine stT rfl rfl (fun hg => have hg' := BP.t hg; OK1.fieldAddr (Has.t rfl) fld24_2 ty22) rfl ?_
          refine stT rfl rfl (fun hg => have hg' := BP.t hg; OK1.load1 (Has.g rfl hg) (i := 0) rfl ty22 rfl) rfl ?_
          refine stT rfl rfl (fun hg => have hg' := BP.t hg; OK1.call (law14_makes hX1 hHb hWv (by omega) (by decide) hR hC hHm (hs1 rfl).1 hWm (hs1 rfl).2) (.cons (Has.g rfl hg) (.cons (Has.g rfl hg) (.cons (Has.g rfl hg) .nil)))) rfl ?_
          refine st (OK1.pickAnd (Has.t rfl) (fun h => Has.g rfl h)) rfl ?_
          refine st (OK1.mv (Has.t rfl)) rfl ?_
          refine stT rfl rfl (fun hg => have hg' := BP.t hg; OK1.mv (Has.t rfl)) rfl ?_
          refine stT rfl rfl (fun hg => have hg' := BP.t hg; OK1.eqI (Has.g rfl hg) (Has.cI 1 rfl)) rfl ?_
          refine stT rfl rfl (fun hg => have hg' := BP.t hg; OK1.load (Has.t rfl) (i := 4) rfl ty24 rfl (Ss' := [_, _, _]) rfl) rfl ?_
          refine stT rfl rfl (fun hg => have hg' := BP.t hg; OK1.eq (OK1.call (ref14_Is hb (by decide) hR hC hl) (.cons (Has.g rfl hg) .nil)) ((show _ = isB hm from isB_eq hhm.symm))) rfl ?_
          refine stT rfl rfl (fun hg => have hg' := BP.t hg; OK1.not (Has.g rfl hg)) rfl ?_
          refine stT rfl rfl (fun hg => have hg' := BP.t hg; OK1.eqB (du := un4) rfl (Has.g rfl hg) (Has.g rfl hg)) rfl ?_
          refine st (OK1.pickAnd (Has.t rfl) (fun h => Has.g rfl h)) rfl ?_
          refine st (OK1.as (Has.t rfl)) rfl ?_
          refine nl ?_
          refine At.thn (hK25 _ _ ?_); clear hK25
          refine Tri.cv (Cv.wk (.cons (t := 6) (Has.t rfl) .nil)) ?_
          refine Tri.ret ?_
          refine rtX1D (.cons _ (.cons _ (.cons _ (.cons _ (.cons _ .slnil))))) (.inl rfl) Try.results3 rfl (.tmp (Has.t rfl) .nil) ?_
          exact isB_eq (by rw [show decide (e2 = 1) = !hm from by cases hm with | true => exact decide_eq_false fun h => (by have := he2.1 h; rw [← hhm] at this; cases this) | false => exact decide_eq_true (he2.2 hhm.symm)]; cases hm <;> rfl)
theorem c_HnfCoordinates (r c : Int) (xs cs vs : List (Bool × List Nat)) (hvb : ∀ p ∈ vs, p.2.length ≤ 1048576) : Ctr Try.prog 3 [isM r c xs, SlK 2 zc cs, SlK 2 zc vs] (isB true) := by
  cases h : formB r c xs.length with
  | true =>
    obtain ⟨R, C, rfl, rfl, h1, h2, h3⟩ := formB_iff.1 h
    by_cases h4 : vs.length = C
    · exact (c_HnfCoordinates_ok R C xs cs vs h1 h2 h3 hvb h4).toCtr fun S' M' hh => hh
    · exact (c_HnfCoordinates_len R C xs cs vs h1 h2 h3 hvb h4).toCtr fun S' M' hh => hh
  | false => exact c_HnfCoordinates_bad r c xs cs vs h
end Go.Proofs.Ytcfobfedliajdaa
/- Slices of whole numbers that a law is handed. -/
namespace Go.En
open Go.RowKit Go.ChangeShapes Go.WideShapes Go.ChangeAt
set_option linter.unusedVariables false
theorem pair_get {α β : Type} (g h : α → β) : ∀ (l : List α) (j : Nat), (l.flatMap fun a => [g a, h a])[j]? = (l[j / 2]?).map (fun a => if j % 2 = 0 then g a else h a)
  | [], j => by simp
  | a :: l, 0 => by simp
  | a :: l, 1 => by simp
  | a :: l, j + 2 => by
    have := pair_get g h l j
    rw [show (j + 2) / 2 = j / 2 + 1 by omega, show (j + 2) % 2 = j % 2 by omega]
    simpa using this
section
variable {H : Type} {enc : TypeId × Value → H} {P : Program}
/-- a slice of signs with words -/
theorem open_Zs {W : World} {base : Nat} {T e tb ts T' : TypeId} {v : Value} {d : DataW H} {ps : List MemPlace} (hT : P.underlying T = some (.slice e)) (hfs : fsB P e = some [(tb, 0), (ts, 1)]) (hub : P.underlying tb = some .bool) (hu : P.underlying ts = some (.slice T')) (hu' : P.underlying T' = some (.int .u64)) (hc : P.cellsOf T' = 1) (hcb : P.cellsOf tb = 1) (hcs : P.cellsOf ts = 1) (hce : P.cellsOf e = 2)
    (hv : Value.okWide P W .any base T v) (h : DataW.Trod enc P W 0 (fun _ => true) true T v d ps) (hps : ∀ x ∈ ps, x.block < W.heap.size) : ∃ xs : List (Bool × List Nat), (isZs xs).h W (fun b => b < W.heap.size) v := by
  obtain ⟨a0, n0, c0, rfl⟩ := okWide_slice hT hv
  obtain ⟨fuel, hf⟩ := h
  obtain ⟨fs, hue, hsz, hget⟩ := fsB_spec hfs
  obtain ⟨f0, g0, rfl, e0⟩ := hget 0 tb 0 rfl
  obtain ⟨f1, g1, rfl, e1⟩ := hget 1 ts 1 rfl
  have hfs2 : fs = #[f0, f1] := by
    apply Array.ext'
    have hl : fs.toList.length = 2 := by simpa using hsz
    match hq : fs.toList, hl with
    | [p, q], _ =>
      have a0 : fs.toList[0]? = some f0 := by simpa using g0
      have a1 : fs.toList[1]? = some f1 := by simpa using g1
      rw [hq] at a0 a1
      simp at a0 a1
      rw [a0, a1]
  subst hfs2
  rcases Deep.open_slice_pairs hT hue hce e0 e1 hcb hcs hf with ⟨h1, _⟩ | ⟨a, len, cap, m, n, V0, V1, D0, D1, P0, P1, h1, _, hlc, hcm, hm, hx, hel⟩
  · have e : Value.slice a0 n0 c0 = .slice none 0 0 := by simpa [Value.cells] using h1
    rw [e]; exact ⟨[], nilK⟩
  · have e : Value.slice a0 n0 c0 = .slice (some a) len cap := by simpa [Value.cells] using h1
    rw [e]
    simp only [if_true] at hm
    subst m
    have hps' : ∀ i, i < cap → ∀ y ∈ P1 i, y.block < W.heap.size := fun i hi y hy => hps y (by
      have := (Prod.mk.inj hx).2
      rw [this]
      exact List.mem_append_right _ (List.mem_flatMap.2 ⟨i, List.mem_range.2 hi, List.mem_append_right _ hy⟩))
    obtain ⟨l, hl, hgl⟩ := list_of_get (p := fun i (x : Bool × List Nat) => V0 i = .bool x.1 ∧ (isWords x.2).h W (fun b => b < W.heap.size) (V1 i)) len (fun i hi => by
      obtain ⟨_, _, q0, q1⟩ := hel i (by omega)
      obtain ⟨b, hb, _⟩ := DataW.trod_bool hub q0
      obtain ⟨v, ws, hv1, hw⟩ := rd_row hu hu' hc word_of q1 (hps' i (by omega))
      obtain rfl : V1 i = v := by simpa using hv1
      exact ⟨(b, ws), by simpa using hb, hw⟩)
    refine ⟨l, some a, cap, by rw [hl], by rw [hl]; exact hlc, hcm, flat_len zc_len l, ?_⟩
    rcases Nat.eq_zero_or_pos len with h0 | h0
    · exact .inl (by omega)
    · have hc0 := (hel 0 (by omega)).1
      have hs : a.spot = none := by
        cases hsp : a.spot with
        | none => rfl
        | some s =>
          simp only [Addr.add, Nat.zero_mul, if_true] at hc0
          unfold World.cell? at hc0
          rw [hsp] at hc0
          split at hc0 <;> simp at hc0
      obtain ⟨b, off, sp⟩ := a
      simp only at hs
      subst hs
      right
      refine ⟨b, off, rfl, ?_, (List.range len).flatMap (fun i => [V0 i, V1 i]), ?_, fun j u hj => ?_⟩
      · have : MemPlace.cell b (off + 0) ∈ ps := by
          have := (Prod.mk.inj hx).2
          rw [this]
          exact List.mem_append_left _ (List.mem_map.2 ⟨0, by simp; omega, rfl⟩)
        exact hps _ this
      · have hlen2 : ((List.range len).flatMap fun i => [V0 i, V1 i]).length = len * 2 := by
          have := flat_len (fk := fun (i : Nat) => [isB true, isB true]) (k := 2) (fun _ => rfl) (List.range len)
          rw [List.length_flatMap] at this ⊢
          simpa using this
        refine all2_of_get (by rw [flat_len zc_len, hlen2, hl]) (fun j S v hS hv => ?_)
        have hz := pair_get (fun p : Bool × List Nat => isB p.1) (fun p => isWords p.2) l j
        rw [show (l.flatMap fun a => [isB a.1, isWords a.2]) = l.flatMap zc from rfl, hS] at hz
        have hw := pair_get V0 V1 (List.range len) j
        rw [hv] at hw
        have hj : j / 2 < l.length := by
          rcases Nat.lt_or_ge (j / 2) l.length with h | h
          · exact h
          · rw [List.getElem?_eq_none h] at hz; cases hz
        rw [List.getElem?_eq_getElem hj] at hz
        rw [List.getElem?_range (by omega)] at hw
        simp only [Option.map_some, Option.some.injEq] at hz hw
        obtain ⟨k1, k2⟩ := hgl (j / 2) hj
        subst hz; subst hw
        by_cases hp : j % 2 = 0
        · rw [if_pos hp, if_pos hp, k1]; rfl
        · rw [if_neg hp, if_neg hp]; exact k2
      · have hw := pair_get V0 V1 (List.range len) j
        rw [hj] at hw
        have hjl : j / 2 < len := by
          rcases Nat.lt_or_ge (j / 2) len with h | h
          · exact h
          · rw [List.getElem?_eq_none (by simpa using h)] at hw; cases hw
        rw [List.getElem?_range hjl] at hw
        simp only [Option.map_some, Option.some.injEq] at hw
        obtain ⟨q0, q1, _, _⟩ := hel (j / 2) (by omega)
        rw [add_mk] at q0
        rw [add_mk] at q1
        by_cases hp : j % 2 = 0
        · rw [if_pos hp] at hw; subst hw
          rw [show off + j = off + j / 2 * 2 by omega]; exact q0
        · rw [if_neg hp] at hw; subst hw
          rw [show off + j = off + (j / 2 * 2 + 1) by omega]; exact q1
end
end Go.En
/- Matrices of whole numbers that a law is handed. -/
namespace Go.En
open Go.RowKit Go.ChangeShapes Go.WideShapes Go.ChangeAt
set_option linter.unusedVariables false
section
variable {H : Type} {enc : TypeId × Value → H} {P : Program}
theorem rd_Zs {W : World} {T e tb ts T' : TypeId} {fuel : Nat} {cs : List Value} {x : DataW H × List MemPlace} (hT : P.underlying T = some (.slice e)) (hfs : fsB P e = some [(tb, 0), (ts, 1)]) (hub : P.underlying tb = some .bool) (hu : P.underlying ts = some (.slice T')) (hu' : P.underlying T' = some (.int .u64)) (hc : P.cellsOf T' = 1) (hcb : P.cellsOf tb = 1) (hcs : P.cellsOf ts = 1) (hce : P.cellsOf e = 2)
    (hf : DataW.trod enc P W 0 (fun _ => true) true fuel T cs = some x) (hps : ∀ y ∈ x.2, y.block < W.heap.size) : ∃ (v : Value) (xs : List (Bool × List Nat)), cs = [v] ∧ (isZs xs).h W (fun b => b < W.heap.size) v := by
  obtain ⟨d, ps⟩ := x
  obtain ⟨fs, hue, hsz, hget⟩ := fsB_spec hfs
  obtain ⟨f0, g0, rfl, e0⟩ := hget 0 tb 0 rfl
  obtain ⟨f1, g1, rfl, e1⟩ := hget 1 ts 1 rfl
  have hfs2 : fs = #[f0, f1] := by
    apply Array.ext'
    have hl : fs.toList.length = 2 := by simpa using hsz
    match hq : fs.toList, hl with
    | [p, q], _ =>
      have a0 : fs.toList[0]? = some f0 := by simpa using g0
      have a1 : fs.toList[1]? = some f1 := by simpa using g1
      rw [hq] at a0 a1
      simp at a0 a1
      rw [a0, a1]
  subst hfs2
  rcases Deep.open_slice_pairs hT hue hce e0 e1 hcb hcs hf with ⟨h1, _⟩ | ⟨a, len, cap, m, n, V0, V1, D0, D1, P0, P1, h1, _, hlc, hcm, hm, hx, hel⟩
  · exact ⟨_, [], h1, nilK⟩
  · simp only [if_true] at hm
    subst m
    have hps' : ∀ i, i < cap → ∀ y ∈ P1 i, y.block < W.heap.size := fun i hi y hy => hps y (by
      have := (Prod.mk.inj hx).2
      rw [this]
      exact List.mem_append_right _ (List.mem_flatMap.2 ⟨i, List.mem_range.2 hi, List.mem_append_right _ hy⟩))
    obtain ⟨l, hl, hgl⟩ := list_of_get (p := fun i (x : Bool × List Nat) => V0 i = .bool x.1 ∧ (isWords x.2).h W (fun b => b < W.heap.size) (V1 i)) len (fun i hi => by
      obtain ⟨_, _, q0, q1⟩ := hel i (by omega)
      obtain ⟨b, hb, _⟩ := DataW.trod_bool hub q0
      obtain ⟨v, ws, hv1, hw⟩ := rd_row hu hu' hc word_of q1 (hps' i (by omega))
      obtain rfl : V1 i = v := by simpa using hv1
      exact ⟨(b, ws), by simpa using hb, hw⟩)
    refine ⟨_, l, h1, some a, cap, by rw [hl], by rw [hl]; exact hlc, hcm, flat_len zc_len l, ?_⟩
    rcases Nat.eq_zero_or_pos len with h0 | h0
    · exact .inl (by omega)
    · have hc0 := (hel 0 (by omega)).1
      have hs : a.spot = none := by
        cases hsp : a.spot with
        | none => rfl
        | some s =>
          simp only [Addr.add, Nat.zero_mul, if_true] at hc0
          unfold World.cell? at hc0
          rw [hsp] at hc0
          split at hc0 <;> simp at hc0
      obtain ⟨b, off, sp⟩ := a
      simp only at hs
      subst hs
      right
      refine ⟨b, off, rfl, ?_, (List.range len).flatMap (fun i => [V0 i, V1 i]), ?_, fun j u hj => ?_⟩
      · have : MemPlace.cell b (off + 0) ∈ ps := by
          have := (Prod.mk.inj hx).2
          rw [this]
          exact List.mem_append_left _ (List.mem_map.2 ⟨0, by simp; omega, rfl⟩)
        exact hps _ this
      · have hlen2 : ((List.range len).flatMap fun i => [V0 i, V1 i]).length = len * 2 := by
          have := flat_len (fk := fun (i : Nat) => [isB true, isB true]) (k := 2) (fun _ => rfl) (List.range len)
          rw [List.length_flatMap] at this ⊢
          simpa using this
        refine all2_of_get (by rw [flat_len zc_len, hlen2, hl]) (fun j S v hS hv => ?_)
        have hz := pair_get (fun p : Bool × List Nat => isB p.1) (fun p => isWords p.2) l j
        rw [show (l.flatMap fun a => [isB a.1, isWords a.2]) = l.flatMap zc from rfl, hS] at hz
        have hw := pair_get V0 V1 (List.range len) j
        rw [hv] at hw
        have hj : j / 2 < l.length := by
          rcases Nat.lt_or_ge (j / 2) l.length with h | h
          · exact h
          · rw [List.getElem?_eq_none h] at hz; cases hz
        rw [List.getElem?_eq_getElem hj] at hz
        rw [List.getElem?_range (by omega)] at hw
        simp only [Option.map_some, Option.some.injEq] at hz hw
        obtain ⟨k1, k2⟩ := hgl (j / 2) hj
        subst hz; subst hw
        by_cases hp : j % 2 = 0
        · rw [if_pos hp, if_pos hp, k1]; rfl
        · rw [if_neg hp, if_neg hp]; exact k2
      · have hw := pair_get V0 V1 (List.range len) j
        rw [hj] at hw
        have hjl : j / 2 < len := by
          rcases Nat.lt_or_ge (j / 2) len with h | h
          · exact h
          · rw [List.getElem?_eq_none (by simpa using h)] at hw; cases hw
        rw [List.getElem?_range hjl] at hw
        simp only [Option.map_some, Option.some.injEq] at hw
        obtain ⟨q0, q1, _, _⟩ := hel (j / 2) (by omega)
        rw [add_mk] at q0
        rw [add_mk] at q1
        by_cases hp : j % 2 = 0
        · rw [if_pos hp] at hw; subst hw
          rw [show off + j = off + j / 2 * 2 by omega]; exact q0
        · rw [if_neg hp] at hw; subst hw
          rw [show off + j = off + (j / 2 * 2 + 1) by omega]; exact q1
/-- two sides and numbers -/
theorem open_M {W : World} {base : Nat} {T ti tm e tb ts T' : TypeId} {v : Value} {d : DataW H} {ps : List MemPlace} (hfM : fsB P T = some [(ti, 0), (ti, 1), (tm, 2)]) (hui : P.underlying ti = some (.int .i64)) (hT : P.underlying tm = some (.slice e)) (hfs : fsB P e = some [(tb, 0), (ts, 1)]) (hub : P.underlying tb = some .bool) (hu : P.underlying ts = some (.slice T')) (hu' : P.underlying T' = some (.int .u64)) (hc : P.cellsOf T' = 1) (hcb : P.cellsOf tb = 1) (hcs : P.cellsOf ts = 1) (hce : P.cellsOf e = 2)
    (hci : P.cellsOf ti = 1) (hcm : P.cellsOf tm = 1) (hcT : P.cellsOf T = 3) (hv : Value.okWide P W .any base T v) (h : DataW.Trod enc P W 0 (fun _ => true) true T v d ps) (hps : ∀ x ∈ ps, x.block < W.heap.size) : ∃ x : Int × Int × List (Bool × List Nat), (isM x.1 x.2.1 x.2.2).h W (fun b => b < W.heap.size) v := by
  obtain ⟨fs, huT, hsz, hget⟩ := fsB_spec hfM
  have hv' := hv
  simp only [Value.okWide, huT] at hv'
  obtain ⟨cs, rfl, _, _⟩ := hv'
  obtain ⟨fuel, hf⟩ := h
  obtain ⟨xs, m, _, hx, hl, hxl, hfe⟩ := DataW.trod_struct huT hf
  simp [Value.cells] at hl hx
  obtain ⟨f0, g0, rfl, e0⟩ := hget 0 ti 0 rfl
  obtain ⟨f1, g1, k1, e1⟩ := hget 1 _ 1 rfl
  obtain ⟨f2, g2, rfl, e2⟩ := hget 2 tm 2 rfl
  have h0 := hfe 0 f0 g0
  have h1 := hfe 1 f1 g1
  have h2 := hfe 2 f2 g2
  rw [List.getElem?_eq_getElem (by rw [hxl, hsz]; simp)] at h0 h1 h2
  rw [e0, hci] at h0
  rw [e1, k1, hci] at h1
  rw [e2, hcm] at h2
  obtain ⟨r, hr, hr1, hr2⟩ := rd_I hui h0
  obtain ⟨c, hc1, hc2, hc3⟩ := rd_I hui h1
  obtain ⟨u, ws, hu1, hw⟩ := rd_Zs hT hfs hub hu hu' hc hcb hcs hce h2 (fun y hy => hps y (by
    rw [hx.2]
    exact List.mem_flatMap.2 ⟨_, List.getElem_mem _, hy⟩))
  refine ⟨(r, c, ws), cs.toList, by simp, ?_⟩
  have hcs2 : cs.toList = [.int .i64 r, .int .i64 c, u] := by
    have hlen : cs.toList.length = 3 := by rw [← hcT]; simpa using hl
    match hq : cs.toList, hlen with
    | [p, q, t], _ =>
      have a1 : [p] = [Value.int .i64 r] := by have := hr; simpa [Value.cells, hq] using this
      have a2 : [q] = [Value.int .i64 c] := by have := hc1; simpa [Value.cells, hq] using this
      have a3 : [t] = [u] := by have := hu1; simpa [Value.cells, hq] using this
      rw [List.cons.inj a1 |>.1, List.cons.inj a2 |>.1, List.cons.inj a3 |>.1]
  rw [hcs2]
  exact ⟨⟨rfl, hr1, hr2⟩, ⟨rfl, hc2, hc3⟩, hw, trivial⟩
end
end Go.En
/- A law where what comes in is of bounded bulk: the arguments' words are as few. -/
namespace Go.Proofs.Ytcfobfedliajdaa
open Go.En Go.RowKit Go.ChangeShapes Go.WideShapes Go.ChangeAt
set_option linter.unusedVariables false
theorem bulk_one {H : Type} (d : DataW H) : 1 ≤ Rows.uptoBulk d := by
  cases d with
  | lit l => cases l <;> simp [Rows.uptoBulk]
  | nil => simp [Rows.uptoBulk]
  | ptr d => simp [Rows.uptoBulk]
  | slice elems spare => simp [Rows.uptoBulk]
  | agg parts => simp [Rows.uptoBulk]
  | iface t d => simp [Rows.uptoBulk]
  | map entries => simp [Rows.uptoBulk]
  | held h => simp [Rows.uptoBulk]
theorem bulk_mem {H : Type} {d : DataW H} {l : List (DataW H)} (h : d ∈ l) : Rows.uptoBulk d ≤ Rows.uptoBulkAll l := by
  induction l with
  | nil => cases h
  | cons x r ih =>
    simp only [Rows.uptoBulkAll]
    rcases List.mem_cons.1 h with e | e
    · subst e; omega
    · have := ih e; omega
theorem bulk_len {H : Type} (l : List (DataW H)) : l.length ≤ Rows.uptoBulkAll l := by
  induction l with
  | nil => simp [Rows.uptoBulkAll]
  | cons x r ih => have := bulk_one x; simp only [Rows.uptoBulkAll, List.length_cons]; omega
section
variable {H : Type} {enc : TypeId × Value → H} {P : Program}
/-- what a law's arguments are, where they are of bounded bulk -/
def OpensU (P : Program) (fn : Func) (f : FuncId) : Prop := ∀ (H : Type) (enc : TypeId × Value → H) (W : World) (base : Nat) (args : Array Value) (ds : List (DataW H)) (ps : List MemPlace),
  (∀ (j : Nat) t v, fn.params[j]? = some t → args[j]? = some v → Value.okWide P W .any base t v) → DataW.TrodAll enc P W 0 (fun _ => true) true fn.params.toList args.toList ds ps →
  (∀ x ∈ ps, x.block < W.heap.size) → Rows.uptoSmall H ds = true → ∃ Ss, All2 Ss W (fun b => b < W.heap.size) args.toList ∧ Ctr P f Ss (isB true)
theorem lift_upto {C : Checked} {os : Os} {f : FuncId} {fn : Func} {s : ChangeSpec} {conds : List PathCond} {tb : TypeId} {F : Stop.Interp}
    (own : ownKnob C.prog.godebug = none) (started : os.Started) (noInit : C.prog.inits.idxOf? f = none) (hfn : C.prog.funcs[f]? = some fn)
    (witness : ∃ (w : World) (tape : Tape) (i : Input), w.os = os ∧ (w.forCall tape i).Shaped C.prog ∧ i.vars = [] ∧ Input.okWide C.prog (w.forCall tape i) .any w.heap.size f i ∧
      (Rows.OpenSpec.upto s).pre6 enc C.prog fn conds false (w.forCall tape i).memory i.args ∧ ({} : Assume).holds C.prog (lone (Frame.enter C.prog f i.args .normal) [] (w.forCall tape i)))
    (hl : laidOutB C.prog = true) (hpar : (fn.params.toList.all fun t => C.prog.readableRec t && decide (t < C.prog.types.size)) = true) (hvars : s.vars = [])
    (hres : fn.resultTypes = #[tb]) (htb : C.prog.underlying tb = some .bool)
    (hs : ∀ ds : List (DataW H), ds.length = fn.params.toList.length → s.fn H ds = { results := [.lit (.bool true)], args := ds }) (hopen : OpensU C.prog fn f) :
    ReturnsInHanded {} C os f .any ((Rows.OpenSpec.upto s).pre6 enc C.prog fn conds false) (((Rows.OpenSpec.upto s).at F).post enc C.prog fn false true false false) := by
  refine returnsInHanded_of_cond (C := C) (k := Rows.uptoSmall) rfl own started noInit hfn witness ?_
  intro W base args ds gs before hval hW hcnd hk _
  have hW' := hW
  obtain ⟨p, q, hA0, hV, rfl, hfz, hnd⟩ := hW
  have hA : DataW.TrodAll enc C.prog W 0 (fun _ => true) true fn.params.toList args.toList ds p := hA0
  have hv2 : (Rows.OpenSpec.upto s).vars = [] := hvars
  rw [hv2] at hV
  obtain ⟨rfl, rfl⟩ := trodVars_none hV
  have hlt : ∀ x ∈ p, x.block < W.heap.size := fun x hx => hW'.lt x (by simp [hx])
  rw [List.append_nil] at hk
  obtain ⟨Ss, h1, h2⟩ := hopen H enc W base args ds p hval hA hlt hk
  have hlen := trodAll_len hA
  refine (h2.2 W _ args.toList (fun _ h => h) h1).mono fun e W' => ?_
  rintro ⟨v, rfl, hk, hv⟩
  obtain rfl : v = .bool true := hv
  have bel := hk.below
  show ∃ v, _ = _ ∧ s.post enc C.prog fn false true false false W args v W'
  refine ⟨_, rfl, _, _, _, [], p, [], hW', ?_, ?_, ?_, ?_, fun h => by cases h⟩
  · rw [List.append_nil, hs ds hlen.2, hres]
    exact trodAll_mk1 (shut_bool htb _)
  · rw [List.append_nil, hs ds hlen.2]
    exact trodAll_below hl bel hpar hA hlt
  · rw [List.append_nil, hs ds hlen.2, hvars]; exact hV
  · exact bel.frame _
theorem bulk_row {W : World} {ts T' : TypeId} {fuel : Nat} {v : Value} {x : DataW H × List MemPlace} {F : Blk} {ws : List Nat} (hu : P.underlying ts = some (.slice T')) (h : DataW.trod enc P W 0 (fun _ => true) true fuel ts [v] = some x) (hw : (isWords ws).h W F v) : ws.length ≤ Rows.uptoBulk x.1 := by
  obtain ⟨a, cap, e, _⟩ := hw
  rcases Deep.open_slice hu h with ⟨h1, _⟩ | ⟨a', len, cap', m, n, D, Pl, h1, _, _, _, _, hx, _⟩
  · have h2 : v = .slice none 0 0 := by simpa using h1
    rw [e] at h2
    simp at h2
    have := h2.2.1
    rw [this]; exact Nat.zero_le _
  · have h2 : v = .slice (some a') len cap' := by simpa using h1
    rw [e] at h2
    simp at h2
    have h3 := h2.2.1
    rw [hx]
    simp only [Rows.uptoBulk]
    have := bulk_len ((List.range len).map D)
    rw [List.length_map, List.length_range] at this
    omega
/-- a slice of signs with words, of bounded bulk -/
theorem open_ZsB {W : World} {base : Nat} {T e tb ts T' : TypeId} {v : Value} {d : DataW H} {ps : List MemPlace} (hT : P.underlying T = some (.slice e)) (hfs : fsB P e = some [(tb, 0), (ts, 1)]) (hub : P.underlying tb = some .bool) (hu : P.underlying ts = some (.slice T')) (hu' : P.underlying T' = some (.int .u64)) (hc : P.cellsOf T' = 1) (hcb : P.cellsOf tb = 1) (hcs : P.cellsOf ts = 1) (hce : P.cellsOf e = 2)
    (hv : Value.okWide P W .any base T v) (h : DataW.Trod enc P W 0 (fun _ => true) true T v d ps) (hps : ∀ x ∈ ps, x.block < W.heap.size) : ∃ xs : List (Bool × List Nat), (isZs xs).h W (fun b => b < W.heap.size) v ∧ ∀ p ∈ xs, p.2.length ≤ Rows.uptoBulk d := by
  obtain ⟨xs, hxs⟩ := open_Zs hT hfs hub hu hu' hc hcb hcs hce hv h hps
  refine ⟨xs, hxs, ?_⟩
  obtain ⟨a0, cap0, e0, g1, g2, g3, g4⟩ := hxs
  obtain ⟨fuel, hf⟩ := h
  obtain ⟨fs, hue, hsz, hget⟩ := fsB_spec hfs
  obtain ⟨f0, k0, rfl, e0'⟩ := hget 0 tb 0 rfl
  obtain ⟨f1, k1, rfl, e1'⟩ := hget 1 ts 1 rfl
  have hfs2 : fs = #[f0, f1] := by
    apply Array.ext'
    have hl : fs.toList.length = 2 := by simpa using hsz
    match hq : fs.toList, hl with
    | [p, q], _ =>
      have a0 : fs.toList[0]? = some f0 := by simpa using k0
      have a1 : fs.toList[1]? = some f1 := by simpa using k1
      rw [hq] at a0 a1
      simp at a0 a1
      rw [a0, a1]
  subst hfs2
  intro p hp
  obtain ⟨i, hi, rfl⟩ := List.mem_iff_getElem.1 hp
  rcases g4 with g4 | ⟨b, off, e4, _, vs, hvs, hcell⟩
  · omega
  subst e4
  rcases Deep.open_slice_pairs hT hue hce e0' e1' hcb hcs hf with ⟨h1, _⟩ | ⟨a, len, cap, m, n, V0, V1, D0, D1, P0, P1, h1, _, hlc, hcm, hm, hx, hel⟩
  · rw [e0] at h1
    simp [Value.cells] at h1
  · rw [e0] at h1
    have h2 : Value.slice (some ⟨b, off, none⟩) xs.length cap0 = .slice (some a) len cap := by simpa [Value.cells] using h1
    simp at h2
    obtain ⟨ha, hlen, _⟩ := h2
    subst ha
    simp only [if_true] at hm
    subst m
    obtain ⟨_, q1, _, q3⟩ := hel i (by omega)
    have hlv := hvs.len
    rw [flat_len zc_len xs] at hlv
    obtain ⟨u, hu1, hu2⟩ := hvs.get (i * 2 + 1) (isWords xs[i].2) (by
      have := pair_get (fun p : Bool × List Nat => isB p.1) (fun p => isWords p.2) xs (i * 2 + 1)
      rw [show (xs.flatMap fun a => [isB a.1, isWords a.2]) = xs.flatMap zc from rfl] at this
      rw [this, show (i * 2 + 1) / 2 = i by omega, show (i * 2 + 1) % 2 = 1 by omega, List.getElem?_eq_getElem hi]; rfl)
    have hc2 := hcell (i * 2 + 1) u hu1
    rw [add_mk] at q1
    rw [q1] at hc2
    obtain rfl : V1 i = u := Option.some.inj hc2
    have hb := bulk_row hu q3 hu2
    have hd : d = .slice ((List.range len).map fun i => .agg [D0 i, D1 i]) ((List.range (cap - len)).map fun j => .agg [D0 (len + j), D1 (len + j)]) := (Prod.mk.inj hx).1
    rw [hd]
    simp only [Rows.uptoBulk]
    have hmem : DataW.agg [D0 i, D1 i] ∈ (List.range len).map fun i => DataW.agg [D0 i, D1 i] := List.mem_map.2 ⟨i, List.mem_range.2 (by omega), rfl⟩
    have h5 := bulk_mem hmem
    simp only [Rows.uptoBulk, Rows.uptoBulkAll] at h5
    simp only at hb
    omega
end
end Go.Proofs.Ytcfobfedliajdaa
/- A law of layer 14, as it is stated, where what comes in is of bounded bulk. -/
namespace Go.Proofs.Ytcfobfedliajdaa
open Go.En Go.RowKit
set_option linter.unusedVariables false
set_option maxRecDepth 10000
open Go.ChangeShapes
open Go.WideShapes
open Go.ChangeAt
open Go.Nt
open Go.Pz
open Go.Mz
theorem opens_HnfCoordinates : OpensU Try.prog Try.f3 3 := by
  intro H enc W base args ds ps hval hA hlt hbk
  rw [Try.params3] at hA hval
  obtain ⟨v0, vs0, d0, ds0, p0, q0, hargs, rfl, rfl, h0, r0⟩ := trodAll_cons hA
  obtain ⟨v1, vs1, d1, ds1, p1, q1, rfl, rfl, rfl, h1, r1⟩ := trodAll_cons r0
  obtain ⟨v2, vs2, d2, ds2, p2, q2, rfl, rfl, rfl, h2, r2⟩ := trodAll_cons r1
  obtain ⟨rfl, rfl, rfl⟩ := trodAll_nil r2
  obtain rfl : args = #[v0, v1, v2] := by cases args; simp_all
  have hbq : Rows.uptoBulkAll [d0, d1, d2] ≤ 1048576 := of_decide_eq_true hbk
  simp only [Rows.uptoBulkAll] at hbq
  obtain ⟨x0, o0⟩ := open_M fs24 un3 un22 fs37 un4 un35 un66 (by kernel_rfl) (by kernel_rfl) (by kernel_rfl) (by kernel_rfl) (by kernel_rfl) (by kernel_rfl) (by kernel_rfl) (hval 0 24 v0 rfl rfl) h0 (fun x hx => hlt x (by simp [hx]))
  obtain ⟨x1, o1⟩ := open_Zs un22 fs37 un4 un35 un66 (by kernel_rfl) (by kernel_rfl) (by kernel_rfl) (by kernel_rfl) (hval 1 22 v1 rfl rfl) h1 (fun x hx => hlt x (by simp [hx]))
  obtain ⟨x2, o2, w2⟩ := open_ZsB un22 fs37 un4 un35 un66 (by kernel_rfl) (by kernel_rfl) (by kernel_rfl) (by kernel_rfl) (hval 2 22 v2 rfl rfl) h2 (fun x hx => hlt x (by simp [hx]))
  have u2 : ∀ p ∈ x2, p.2.length ≤ 1048576 := fun p hp => Nat.le_trans (w2 p hp) (by omega)
  refine ⟨_, ?_, c_HnfCoordinates x0.1 x0.2.1 x0.2.2 x1 x2 u2⟩
  exact ⟨o0, o1, o2, trivial⟩
theorem jn_HnfCoordinates : Try.pinned.checked.prog.funcNamed Rows.hnfCoordinatesUptoRow.func = some 3 := by kernel_rfl
theorem jf_HnfCoordinates : joinedFacts Try.pinned.checked.prog 3 Try.f3 (Rows.OpenSpec.upto Rows.hnfCoordinatesSpec).bare Rows.hnfCoordinatesUptoRow = true := by kernel_rfl
theorem jl_HnfCoordinates : laidOutB Try.checked.prog = true := by kernel_rfl
theorem hnfCoordinates_said : Rows.HnfCoordinatesUptoSaid :=
  OpenClaim.holds_of_cond 3 Try.f3 rfl rfl rfl rfl rfl rfl rfl ⟨rfl, rfl, rfl, rfl, rfl⟩ rfl rfl rfl rfl rfl jn_HnfCoordinates Try.func3 jf_HnfCoordinates
    (of_decide_eq_true (by kernel_rfl)) (by unfold Func.isWrapper; first | (rw [if_pos (by decide +kernel)]; kernel_rfl) | (rw [if_neg (by decide +kernel)]; exact ⟨rfl, rfl⟩))
    (fun os started H enc _ F => lift_upto (F := F) (C := Try.checked) (s := Rows.hnfCoordinatesSpec) (by kernel_rfl) started (by kernel_rfl) Try.func3
      (OpenSpec.witness (enc := enc) (C := Try.checked) (s := (Rows.OpenSpec.upto Rows.hnfCoordinatesSpec)) (k := Rows.uptoSmall) rfl false ⟨#[], #[.agg #[.int .i64 0, .int .i64 0, .slice none 0 0], .slice none 0 0, .slice none 0 0], []⟩ 8 (by kernel_rfl) (by kernel_rfl) (by kernel_rfl) (x := ([.agg [.lit (.int .i64 0), .lit (.int .i64 0), .nil], .nil, .nil], [], [])) (by kernel_rfl) rfl (by kernel_rfl))
      jl_HnfCoordinates (by kernel_rfl) rfl rfl un4 (fun ds h => by match ds, h with | [d0, d1, d2], _ => rfl) opens_HnfCoordinates)
#print axioms hnfCoordinates_said
end Go.Proofs.Ytcfobfedliajdaa
