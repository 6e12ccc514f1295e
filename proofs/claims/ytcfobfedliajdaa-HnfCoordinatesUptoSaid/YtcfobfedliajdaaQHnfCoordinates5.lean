/- Rules and contracts, part 5 of 6. -/
import Derived.Test.YtcfobfedliajdaaQHnfCoordinates4
/- Contracts: is it a form? -/
namespace Go.Proofs.Ytcfobfedliajdaa
open Go.En Go.RowKit
set_option linter.unusedVariables false
set_option maxRecDepth 10000
open Go.Nt
open Go.Pz
open Go.Mz
open Go.Hn
open Go.Hp
open Go.Dt
set_option maxHeartbeats 4000000 in
theorem hnf_Is {R C K : Nat} {xs : List (Bool × List Nat)} (hx : Bd (vals xs) K) (hK : K ≤ 400000000) (hR : R ≤ 64) (hC : C ≤ 64) (hl : xs.length = R * C) : Ctr Try.prog 22 [isM (R : Int) (C : Int) xs] (isB (hermB R C (mf C (vals xs)))) := by
  refine Ctr.intro Try.func22 rfl (by kernel_rfl) Try.ntmps22 rfl fun w0 F0 => ?_
  refine Tri.cv (Cv.wk (.cons (t := 0) (Has.t rfl) .nil)) ?_
  have hRC := side_le hR hC
  have hfo := formB_true hR hC hl
  refine Tri.seq fun K1 hK1 => ?_
  refine Tri.region ?_
  refine Ops.box (Has.t rfl) rfl fun b1 => ?_
  refine st (OK1.as (Has.cB false)) rfl ?_
  refine nl ?_
  refine At.thn (hK1 _ _ ?_); clear hK1
  refine Tri.seq fun K2 hK2 => ?_
  refine Tri.seq fun K3 hK3 => ?_
  refine Tri.region ?_
  refine st (OK1.load (Has.t rfl) (i := 0) rfl ty24 rfl (Ss' := [_, _, _]) rfl) rfl ?_
  refine st (OK1.eq (OK1.call (zmat_Formed) (.cons (Has.t rfl) .nil)) ((show isB _ = isB true from isB_eq (hfo)))) rfl ?_
  refine st (OK1.not (Has.t rfl)) rfl ?_
  refine nl ?_
  refine At.thn (hK3 _ _ ?_); clear hK3
  refine Tri.cond (Has.t rfl) (fun hc1 => ?_) (fun hc1 => ?_)
  · have hc1 := BP.t hc1
    exfalso; simp at hc1
  · have hc1 := BP.f hc1
    refine Tri.skip ?_
    refine At.thn (hK2 _ _ ?_); clear hK2
    refine Tri.seq fun K4 hK4 => ?_
    refine Tri.region ?_
    refine st (OK1.as (Has.cI (-1) rfl)) rfl ?_
    refine st (OK1.as (Has.cB false)) rfl ?_
    refine nl ?_
    refine At.thn (hK4 _ _ ?_); clear hK4
    refine Tri.seq fun K5 hK5 => ?_
    refine Tri.seq fun K6 hK6 => ?_
    refine Tri.region ?_
    refine st (OK1.fieldAddr (Has.t rfl) fld24_0 ty3) rfl ?_
    refine st (OK1.load1 (Has.t rfl) (i := 0) rfl ty3 rfl) rfl ?_
    refine st (OK1.mv (Has.cI 0 rfl)) rfl ?_
    refine nl ?_
    refine At.thn (hK6 _ _ ?_); clear hK6
    refine Tri.cv (Cv.wk (.cons (t := 1) (Has.t rfl) (.cons (t := 2) (Has.t rfl) (.cons (t := 3) (Has.t rfl) (.cons (t := 4) (Has.t rfl) (.cons (t := 14) (Has.t rfl) (.cons (t := 15) (Has.t rfl) .nil))))))) ?_
    refine Tri.block ?_
    refine Tri.loopF [1, 14] (fun (z : { z : Nat × Int × Bool // z.1 ≤ R ∧ HermF z.1 C (mf C (vals xs)) ∧ (z.2.2 = true → 0 < z.1 ∧ fc C ((mf C (vals xs)) (z.1 - 1)) = C) ∧ (z.2.2 = false → z.2.1 = if z.1 = 0 then -1 else ((fc C ((mf C (vals xs)) (z.1 - 1)) : Nat) : Int)) }) => match z with | ⟨(i, last, ended), hI⟩ => [(15, isI (i : Int)), (3, isI last), (4, isB ended)]) (fun M => fun (z : { z : Nat × Int × Bool // z.1 ≤ R ∧ HermF z.1 C (mf C (vals xs)) ∧ (z.2.2 = true → 0 < z.1 ∧ fc C ((mf C (vals xs)) (z.1 - 1)) = C) ∧ (z.2.2 = false → z.2.1 = if z.1 = 0 then -1 else ((fc C ((mf C (vals xs)) (z.1 - 1)) : Nat) : Int)) }) => match z with | ⟨(i, last, ended), hI⟩ => M) (fun (z : { z : Nat × Int × Bool // z.1 ≤ R ∧ HermF z.1 C (mf C (vals xs)) ∧ (z.2.2 = true → 0 < z.1 ∧ fc C ((mf C (vals xs)) (z.1 - 1)) = C) ∧ (z.2.2 = false → z.2.1 = if z.1 = 0 then -1 else ((fc C ((mf C (vals xs)) (z.1 - 1)) : Nat) : Int)) }) => match z with | ⟨(i, last, ended), hI⟩ => R - i) (⟨(0, -1, false), Nat.zero_le _, fun i hi => absurd hi (Nat.not_lt_zero _), fun h => (by cases h), fun _ => rfl⟩) (Cv.mem (.cons (t := 15) (Has.t' rfl ?_) (.cons (t := 3) (Has.t' rfl ?_) (.cons (t := 4) (Has.t' rfl ?_) (.cons (t := 1) (Has.t rfl) (.cons (t := 14) (Has.t rfl) .nil))))) ?_) ?_
    · rfl
    · rfl
    · rfl
    · rfl
    rintro ⟨⟨i, last, ended⟩, hI⟩ K7 hK7
    refine Tri.cv (Cv.wk (.cons (t := 15) (Has.t rfl) (.cons (t := 3) (Has.t rfl) (.cons (t := 4) (Has.t rfl) (.cons (t := 1) (Has.t rfl) (.cons (t := 14) (Has.t rfl) .nil)))))) ?_
    simp only [] at hI
    obtain ⟨hi, hF, hE1, hE2⟩ := hI
    refine Tri.seq fun K8 hK8 => ?_
    refine Tri.region ?_
    refine st (OK1.ltI (Has.t rfl) (Has.t rfl)) rfl ?_
    refine nl ?_
    refine At.thn (hK8 _ _ ?_); clear hK8
    refine Tri.seq fun K9 hK9 => ?_
    refine Tri.cond (Has.t rfl) (fun hc2 => ?_) (fun hc2 => ?_)
    · have hc2 := BP.t hc2
      refine Tri.skip ?_
      refine At.thn (hK9 _ _ ?_); clear hK9
      refine Tri.seq fun K10 hK10 => ?_
      refine Tri.block ?_
      refine Tri.seq fun K11 hK11 => ?_
      refine Tri.region ?_
      refine st (OK1.mv (Has.t rfl)) rfl ?_
      refine st (OK1.as (Has.t rfl)) rfl ?_
      refine nl ?_
      refine At.thn (hK11 _ _ ?_); clear hK11
      refine Tri.seq fun K12 hK12 => ?_
      refine Tri.region ?_
      refine st (OK1.load (Has.t rfl) (i := 0) rfl ty24 rfl (Ss' := [_, _, _]) rfl) rfl ?_
      refine st (OK1.mv (Has.t rfl)) rfl ?_
      refine st (OK1.call (hnf_first (i := i) hx hK hR hC hl (by omega)) (.cons (Has.t rfl) (.cons (Has.t rfl) .nil))) rfl ?_
      refine st (OK1.as (Has.t rfl)) rfl ?_
      refine nl ?_
      refine At.thn (hK12 _ _ ?_); clear hK12
      refine Tri.seq fun K13 hK13 => ?_
      refine Tri.seq fun K14 hK14 => ?_
      refine Tri.region ?_
      refine st (OK1.mv (Has.t rfl)) rfl ?_
      refine st (OK1.ltI (Has.t rfl) (Has.cI 0 rfl)) rfl ?_
      refine nl ?_
      refine At.thn (hK14 _ _ ?_); clear hK14
      refine Tri.cond (Has.t rfl) (fun hc3 => ?_) (fun hc3 => ?_)
      · have hc3 := BP.t hc3
        have hfk := fir_no (by omega)
        refine Tri.seq fun K15 hK15 => ?_
        refine Tri.region ?_
        refine st (OK1.as (Has.cB true)) rfl ?_
        refine nl ?_
        refine At.thn (hK15 _ _ ?_); clear hK15
        refine Tri.exit ?_
        refine At.the ?_
        refine At.blh ?_
        refine At.thn (hK10 _ _ ?_); clear hK10
        refine Tri.region ?_
        refine st (OK1.addI (Has.t rfl) (Has.cI 1 rfl) (by first | omega | assumption) (by first | omega | assumption)) rfl ?_
        refine st (OK1.mv (Has.t rfl)) rfl ?_
        refine nl ?_
        refine At.thn ?_
        refine hK7 (⟨(i + 1, last, true), by show i + 1 ≤ R; omega, hF.snoc (fun hc => absurd hc hfk), fun _ => ⟨Nat.succ_pos _, by have := fc_le ((mf C (vals xs)) i) C; show (fc C ((mf C (vals xs)) i)) = C; omega⟩, fun h => (by cases h)⟩) _ _ ?_ (Cv.mem (.cons (t := 15) (Has.t' rfl ?_) (.cons (t := 3) (Has.t' rfl ?_) (.cons (t := 4) (Has.t' rfl ?_) (.cons (t := 1) (Has.t rfl) (.cons (t := 14) (Has.t rfl) .nil))))) ?_)
        · show R - (i + 1) < R - i; omega
        · exact isI_eq (by omega)
        · rfl
        · rfl
        · rfl
      · have hc3 := BP.f hc3
        have hfk := fir_lt (by omega)
        have hbx : (List.length (words ((mf C (vals xs)) i (fc C ((mf C (vals xs)) i))).natAbs)) ≤ K := hx _
        have hne := fc_ne hfk
        refine Tri.skip ?_
        refine At.thn (hK13 _ _ ?_); clear hK13
        refine Tri.seq fun K16 hK16 => ?_
        refine Tri.region ?_
        refine st (OK1.load (Has.t rfl) (i := 0) rfl ty24 rfl (Ss' := [_, _, _]) rfl) rfl ?_
        refine st (OK1.mv (Has.t rfl)) rfl ?_
        refine st (OK1.eq (OK1.mv (Has.t rfl)) ((show _ = isI ((fc C ((mf C (vals xs)) i)) : Int) from isI_eq (if_pos hfk)))) rfl ?_
        refine st (OK1.eq (OK1.call (zmat_At (i := i) (k := (fc C ((mf C (vals xs)) i))) hx (by omega) hR hC hl (by omega) hfk) (.cons (Has.t rfl) (.cons (Has.t rfl) (.cons (Has.t rfl) .nil)))) ((show _ = isZ ((mf C (vals xs)) i (fc C ((mf C (vals xs)) i))) from rfl))) rfl ?_
        refine Ops.alloc [isB false, SlM isU []] zero37 (fun _ _ => ⟨rfl, nilM _ _, trivial⟩) rfl fun b2 => ?_
        refine Ops.store (Has.t rfl) (Has.t rfl) (i := 0) rfl ty37 rfl rfl (Ss' := [_, _]) rfl (M' := [(some _, cellM [_, _]), _]) rfl ?_
        refine nl ?_
        refine At.thn (hK16 _ _ ?_); clear hK16
        refine Tri.seq fun K17 hK17 => ?_
        refine Tri.seq fun K18 hK18 => ?_
        refine Tri.region ?_
        refine st (OK1.mv (Has.t rfl)) rfl ?_
        refine st (OK1.mv (Has.t rfl)) rfl ?_
        refine stF rfl rfl (fun hg => have hg' := BP.t hg; OK1.eq (OK1.mv (Has.t rfl)) ((show _ = isI ((fc C ((mf C (vals xs)) i)) : Int) from isI_eq (if_pos hfk)))) rfl ?_
        refine stF rfl rfl (fun hg => have hg' := BP.t hg; OK1.mv (Has.t rfl)) rfl ?_
        refine stF rfl rfl (fun hg => have hg' := BP.t hg; OK1.leI (Has.g rfl hg) (Has.g rfl hg)) rfl ?_
        refine st (OK1.pickOr (Has.t rfl) (fun h => Has.g rfl (ng h))) rfl ?_
        refine st (OK1.mv (Has.t rfl)) rfl ?_
        refine stF rfl rfl (fun hg => have hg' := BP.t hg; OK1.load (Has.t rfl) (i := 0) rfl ty37 rfl (Ss' := [_, _]) rfl) rfl ?_
        refine stF rfl rfl (fun hg => have hg' := BP.t hg; OK1.eq (OK1.call (zint_Sign (by rw [val_words]; omega)) (.cons (Has.g rfl hg) .nil)) ((show _ = isI (sgn ((mf C (vals xs)) i (fc C ((mf C (vals xs)) i)))) from isI_eq (by rw [zv_nf])))) rfl ?_
        refine stF rfl rfl (fun hg => have hg' := BP.t hg; OK1.ltI (Has.g rfl hg) (Has.cI 0 rfl)) rfl ?_
        refine st (OK1.pickOr (Has.t rfl) (fun h => Has.g rfl (ng h))) rfl ?_
        refine nl ?_
        refine At.thn (hK18 _ _ ?_); clear hK18
        refine Tri.cond (Has.t rfl) (fun hc4 => ?_) (fun hc4 => ?_)
        · have hc4 := BP.t hc4
          have HX131 := hc4
          refine Tri.seq fun K19 hK19 => ?_
          refine Tri.region ?_
          refine st (OK1.as (Has.cB false)) rfl ?_
          refine nl ?_
          refine At.thn (hK19 _ _ ?_); clear hK19
          refine Tri.ret ?_
          refine At.thr ?_
          refine At.blr ?_
          refine At.thr ?_
          refine At.thr ?_
          refine At.blr ?_
          refine At.thr ?_
          refine rt1 (.inl rfl) Try.results22 rfl (.tmp (Has.t' rfl ?_) .nil)
          all_goals (exact isB_eq (hermB_no fun hh => is_dead131 (by omega) hfk hh hE1 hE2 (by simpa [or_assoc] using HX131)))
        · have hc4 := BP.f hc4
          have hen : ended = false := by simpa using hc4.1.1
          have hpos : 0 < (mf C (vals xs)) i (fc C ((mf C (vals xs)) i)) := by
            have h2 := mt (sgn_lt ((mf C (vals xs)) i (fc C ((mf C (vals xs)) i)))).2
            omega
          refine Tri.skip ?_
          refine At.thn (hK17 _ _ ?_); clear hK17
          refine Tri.seq fun K20 hK20 => ?_
          refine Tri.seq fun K21 hK21 => ?_
          refine Tri.region ?_
          refine st (OK1.mv (Has.t rfl)) rfl ?_
          refine st (OK1.mv (Has.cI 0 rfl)) rfl ?_
          refine nl ?_
          refine At.thn (hK21 _ _ ?_); clear hK21
          refine Tri.block ?_
          refine Tri.loopF [1, 14, 15, 3, 4, 16, 17, 5, 18, 19, 20, 6, 21, 22, 23, 24, 25, 26, 7, 27, 28, 29, 30, 31, 32, 33, 34, 35, 36, 37, 38] (fun (z : { r : Nat // r ≤ i ∧ ∀ j, j < r → 0 ≤ (mf C (vals xs)) j (fc C ((mf C (vals xs)) i)) ∧ (mf C (vals xs)) j (fc C ((mf C (vals xs)) i)) < (mf C (vals xs)) i (fc C ((mf C (vals xs)) i)) }) => match z with | ⟨r, hI2⟩ => [(39, isI (r : Int))]) (fun M => fun (z : { r : Nat // r ≤ i ∧ ∀ j, j < r → 0 ≤ (mf C (vals xs)) j (fc C ((mf C (vals xs)) i)) ∧ (mf C (vals xs)) j (fc C ((mf C (vals xs)) i)) < (mf C (vals xs)) i (fc C ((mf C (vals xs)) i)) }) => match z with | ⟨r, hI2⟩ => M) (fun (z : { r : Nat // r ≤ i ∧ ∀ j, j < r → 0 ≤ (mf C (vals xs)) j (fc C ((mf C (vals xs)) i)) ∧ (mf C (vals xs)) j (fc C ((mf C (vals xs)) i)) < (mf C (vals xs)) i (fc C ((mf C (vals xs)) i)) }) => match z with | ⟨r, hI2⟩ => i - r) (⟨0, Nat.zero_le _, fun j hj => absurd hj (Nat.not_lt_zero _)⟩) (Cv.mem (.cons (t := 39) (Has.t' rfl ?_) (.cons (t := 1) (Has.t rfl) (.cons (t := 14) (Has.t rfl) (.cons (t := 15) (Has.t rfl) (.cons (t := 3) (Has.t rfl) (.cons (t := 4) (Has.t rfl) (.cons (t := 16) (Has.t rfl) (.cons (t := 17) (Has.t rfl) (.cons (t := 5) (Has.t rfl) (.cons (t := 18) (Has.t rfl) (.cons (t := 19) (Has.t rfl) (.cons (t := 20) (Has.t rfl) (.cons (t := 6) (Has.t rfl) (.cons (t := 21) (Has.t rfl) (.cons (t := 22) (Has.t rfl) (.cons (t := 23) (Has.t rfl) (.cons (t := 24) (Has.t rfl) (.cons (t := 25) (Has.t rfl) (.cons (t := 26) (Has.t rfl) (.cons (t := 7) (Has.t rfl) (.cons (t := 27) (Has.t rfl) (.cons (t := 28) (Has.t rfl) (.cons (t := 29) (Has.t rfl) (.cons (t := 30) (Has.t rfl) (.cons (t := 31) (Has.t rfl) (.cons (t := 32) (Has.t rfl) (.cons (t := 33) (Has.t rfl) (.cons (t := 34) (Has.t rfl) (.cons (t := 35) (Has.t rfl) (.cons (t := 36) (Has.t rfl) (.cons (t := 37) (Has.t rfl) (.cons (t := 38) (Has.t rfl) .nil)))))))))))))))))))))))))))))))) ?_) ?_
          · rfl
          · rfl
          rintro ⟨r, hr, hI2⟩ K22 hK22
          refine Tri.cv (Cv.wk (.cons (t := 39) (Has.t rfl) (.cons (t := 1) (Has.t rfl) (.cons (t := 14) (Has.t rfl) (.cons (t := 15) (Has.t rfl) (.cons (t := 3) (Has.t rfl) (.cons (t := 4) (Has.t rfl) (.cons (t := 16) (Has.t rfl) (.cons (t := 17) (Has.t rfl) (.cons (t := 5) (Has.t rfl) (.cons (t := 18) (Has.t rfl) (.cons (t := 19) (Has.t rfl) (.cons (t := 20) (Has.t rfl) (.cons (t := 6) (Has.t rfl) (.cons (t := 21) (Has.t rfl) (.cons (t := 22) (Has.t rfl) (.cons (t := 23) (Has.t rfl) (.cons (t := 24) (Has.t rfl) (.cons (t := 25) (Has.t rfl) (.cons (t := 26) (Has.t rfl) (.cons (t := 7) (Has.t rfl) (.cons (t := 27) (Has.t rfl) (.cons (t := 28) (Has.t rfl) (.cons (t := 29) (Has.t rfl) (.cons (t := 30) (Has.t rfl) (.cons (t := 31) (Has.t rfl) (.cons (t := 32) (Has.t rfl) (.cons (t := 33) (Has.t rfl) (.cons (t := 34) (Has.t rfl) (.cons (t := 35) (Has.t rfl) (.cons (t := 36) (Has.t rfl) (.cons (t := 37) (Has.t rfl) (.cons (t := 38) (Has.t rfl) .nil))))))))))))))))))))))))))))))))) ?_
          refine Tri.seq fun K23 hK23 => ?_
          refine Tri.region ?_
          refine st (OK1.ltI (Has.t rfl) (Has.t rfl)) rfl ?_
          refine nl ?_
          refine At.thn (hK23 _ _ ?_); clear hK23
          refine Tri.seq fun K24 hK24 => ?_
          refine Tri.cond (Has.t rfl) (fun hc5 => ?_) (fun hc5 => ?_)
          · have hc5 := BP.t hc5
            have hbr : (List.length (words ((mf C (vals xs)) r (fc C ((mf C (vals xs)) i))).natAbs)) ≤ K := hx _
            refine Tri.skip ?_
            refine At.thn (hK24 _ _ ?_); clear hK24
            refine Tri.seq fun K25 hK25 => ?_
            refine Tri.block ?_
            refine Tri.seq fun K26 hK26 => ?_
            refine Tri.region ?_
            refine st (OK1.mv (Has.t rfl)) rfl ?_
            refine st (OK1.as (Has.t rfl)) rfl ?_
            refine nl ?_
            refine At.thn (hK26 _ _ ?_); clear hK26
            refine Tri.seq fun K27 hK27 => ?_
            refine Tri.region ?_
            refine st (OK1.load (Has.t rfl) (i := 1) rfl ty24 rfl (Ss' := [_, _, _]) rfl) rfl ?_
            refine st (OK1.mv (Has.t rfl)) rfl ?_
            refine st (OK1.eq (OK1.mv (Has.t rfl)) ((show _ = isI ((fc C ((mf C (vals xs)) i)) : Int) from isI_eq (if_pos hfk)))) rfl ?_
            refine st (OK1.eq (OK1.call (zmat_At (i := r) (k := (fc C ((mf C (vals xs)) i))) hx (by omega) hR hC hl (by omega) hfk) (.cons (Has.t rfl) (.cons (Has.t rfl) (.cons (Has.t rfl) .nil)))) ((show _ = isZ ((mf C (vals xs)) r (fc C ((mf C (vals xs)) i))) from rfl))) rfl ?_
            refine Ops.alloc [isB false, SlM isU []] zero37 (fun _ _ => ⟨rfl, nilM _ _, trivial⟩) rfl fun b3 => ?_
            refine Ops.store (Has.t rfl) (Has.t rfl) (i := 0) rfl ty37 rfl rfl (Ss' := [_, _]) rfl (M' := [(some _, cellM [_, _]), _, _]) rfl ?_
            refine nl ?_
            refine At.thn (hK27 _ _ ?_); clear hK27
            refine Tri.seq fun K28 hK28 => ?_
            refine Tri.region ?_
            refine st (OK1.load (Has.t rfl) (i := 0) rfl ty37 rfl (Ss' := [_, _]) rfl) rfl ?_
            refine st (OK1.eq (OK1.call (zint_Sign (by rw [val_words]; omega)) (.cons (Has.t rfl) .nil)) ((show _ = isI (sgn ((mf C (vals xs)) r (fc C ((mf C (vals xs)) i)))) from isI_eq (by rw [zv_nf])))) rfl ?_
            refine st (OK1.ltI (Has.t rfl) (Has.cI 0 rfl)) rfl ?_
            refine st (OK1.mv (Has.t rfl)) rfl ?_
            refine stF rfl rfl (fun hg => have hg' := BP.t hg; OK1.load (Has.t rfl) (i := 0) rfl ty37 rfl (Ss' := [_, _]) rfl) rfl ?_
            refine stF rfl rfl (fun hg => have hg' := BP.t hg; OK1.load (Has.t rfl) (i := 1) rfl ty37 rfl (Ss' := [_, _]) rfl) rfl ?_
            refine stF rfl rfl (fun hg => have hg' := BP.t hg; OK1.eq (OK1.call (zint_Cmp (by rw [val_words]; omega) (by rw [val_words]; omega)) (.cons (Has.g rfl hg) (.cons (Has.g rfl hg) .nil))) ((show _ = isI (cmpZ ((mf C (vals xs)) r (fc C ((mf C (vals xs)) i))) ((mf C (vals xs)) i (fc C ((mf C (vals xs)) i)))) from isI_eq (by rw [zv_nf, zv_nf])))) rfl ?_
            refine stF rfl rfl (fun hg => have hg' := BP.t hg; OK1.geI (Has.g rfl hg) (Has.cI 0 rfl)) rfl ?_
            refine st (OK1.pickOr (Has.t rfl) (fun h => Has.g rfl (ng h))) rfl ?_
            refine nl ?_
            refine At.thn (hK28 _ _ ?_); clear hK28
            refine Tri.cond (Has.t rfl) (fun hc6 => ?_) (fun hc6 => ?_)
            · have hc6 := BP.t hc6
              skip
              refine Tri.seq fun K29 hK29 => ?_
              refine Tri.region ?_
              refine st (OK1.as (Has.cB false)) rfl ?_
              refine nl ?_
              refine At.thn (hK29 _ _ ?_); clear hK29
              refine Tri.ret ?_
              refine At.blr ?_
              refine At.thr ?_
              refine At.thr ?_
              refine At.blr ?_
              refine At.thr ?_
              refine At.blr ?_
              refine At.thr ?_
              refine At.thr ?_
              refine At.blr ?_
              refine At.thr ?_
              refine rt1 (.inl rfl) Try.results22 rfl (.tmp (Has.t' rfl ?_) .nil)
              all_goals (exact isB_eq (hermB_no fun hh => by have hsl := sgn_lt ((mf C (vals xs)) r (fc C ((mf C (vals xs)) i))); have hcz := cmpZ_cases ((mf C (vals xs)) r (fc C ((mf C (vals xs)) i))) ((mf C (vals xs)) i (fc C ((mf C (vals xs)) i))); have hx1 := (hh i (by omega) hfk).2.2 r (by omega); omega))
            · have hc6 := BP.f hc6
              have hrow : 0 ≤ (mf C (vals xs)) r (fc C ((mf C (vals xs)) i)) ∧ (mf C (vals xs)) r (fc C ((mf C (vals xs)) i)) < (mf C (vals xs)) i (fc C ((mf C (vals xs)) i)) := by
                have h1 := mt (sgn_lt ((mf C (vals xs)) r (fc C ((mf C (vals xs)) i)))).2
                have h2 := cmpZ_cases ((mf C (vals xs)) r (fc C ((mf C (vals xs)) i))) ((mf C (vals xs)) i (fc C ((mf C (vals xs)) i)))
                omega
              refine Tri.skip ?_
              refine At.bln ?_
              refine At.thn (hK25 _ _ ?_); clear hK25
              refine Tri.region ?_
              refine st (OK1.addI (Has.t rfl) (Has.cI 1 rfl) (by first | omega | assumption) (by first | omega | assumption)) rfl ?_
              refine st (OK1.mv (Has.t rfl)) rfl ?_
              refine nl ?_
              refine At.thn ?_
              refine hK22 (⟨r + 1, by omega, fun j hj => by rcases Nat.lt_or_ge j r with h | h; exact hI2 j h; obtain rfl : j = r := (by omega); exact hrow⟩) _ _ ?_ (Cv.trans (Cv.drop ((.cons _ (.cons_cons _ (.cons_cons _ .slnil))))) (Cv.mem (.cons (t := 39) (Has.t' rfl ?_) (.cons (t := 1) (Has.t rfl) (.cons (t := 14) (Has.t rfl) (.cons (t := 15) (Has.t rfl) (.cons (t := 3) (Has.t rfl) (.cons (t := 4) (Has.t rfl) (.cons (t := 16) (Has.t rfl) (.cons (t := 17) (Has.t rfl) (.cons (t := 5) (Has.t rfl) (.cons (t := 18) (Has.t rfl) (.cons (t := 19) (Has.t rfl) (.cons (t := 20) (Has.t rfl) (.cons (t := 6) (Has.t rfl) (.cons (t := 21) (Has.t rfl) (.cons (t := 22) (Has.t rfl) (.cons (t := 23) (Has.t rfl) (.cons (t := 24) (Has.t rfl) (.cons (t := 25) (Has.t rfl) (.cons (t := 26) (Has.t rfl) (.cons (t := 7) (Has.t rfl) (.cons (t := 27) (Has.t rfl) (.cons (t := 28) (Has.t rfl) (.cons (t := 29) (Has.t rfl) (.cons (t := 30) (Has.t rfl) (.cons (t := 31) (Has.t rfl) (.cons (t := 32) (Has.t rfl) (.cons (t := 33) (Has.t rfl) (.cons (t := 34) (Has.t rfl) (.cons (t := 35) (Has.t rfl) (.cons (t := 36) (Has.t rfl) (.cons (t := 37) (Has.t rfl) (.cons (t := 38) (Has.t rfl) .nil)))))))))))))))))))))))))))))))) ?_))
              · show i - (r + 1) < i - r; omega
              · exact isI_eq (by omega)
              · rfl
          · have hc5 := BP.f hc5
            skip
            refine Tri.exit ?_
            refine At.the ?_
            refine At.the ?_
            refine At.blh ?_
            refine At.thn (hK20 _ _ ?_); clear hK20
            refine Tri.region ?_
            refine st (OK1.eq (OK1.mv (Has.t rfl)) ((show _ = isI ((fc C ((mf C (vals xs)) i)) : Int) from isI_eq (if_pos hfk)))) rfl ?_
            refine st (OK1.as (Has.t rfl)) rfl ?_
            refine nl ?_
            refine At.bln ?_
            refine At.thn (hK10 _ _ ?_); clear hK10
            refine Tri.region ?_
            refine st (OK1.addI (Has.t rfl) (Has.cI 1 rfl) (by first | omega | assumption) (by first | omega | assumption)) rfl ?_
            refine st (OK1.mv (Has.t rfl)) rfl ?_
            refine nl ?_
            refine At.thn ?_
            refine hK7 (⟨(i + 1, ((fc C ((mf C (vals xs)) i)) : Int), ended), by show i + 1 ≤ R; omega, hF.snoc (fun _ => ⟨fun h0 => by have := hE2 hen; rw [if_neg (by omega)] at this; omega, hpos, fun r' hr' => hI2 r' (by omega)⟩), fun h => (by subst hen; cases h), fun _ => by show ((fc C ((mf C (vals xs)) i)) : Int) = if i + 1 = 0 then -1 else _; rw [if_neg (by omega)]; rfl⟩) _ _ ?_ (Cv.trans (Cv.drop ((.cons _ (.cons_cons _ .slnil)))) (Cv.mem (.cons (t := 15) (Has.t' rfl ?_) (.cons (t := 3) (Has.t' rfl ?_) (.cons (t := 4) (Has.t' rfl ?_) (.cons (t := 1) (Has.t rfl) (.cons (t := 14) (Has.t rfl) .nil))))) ?_))
            · show R - (i + 1) < R - i; omega
            · exact isI_eq (by omega)
            · rfl
            · rfl
            · rfl
    · have hc2 := BP.f hc2
      refine Tri.exit ?_
      refine At.the ?_
      refine At.the ?_
      refine At.blh ?_
      refine At.thn (hK5 _ _ ?_); clear hK5
      refine Tri.cv (Cv.wk .nil) ?_
      refine Tri.seq fun K30 hK30 => ?_
      refine Tri.region ?_
      refine st (OK1.as (Has.cB true)) rfl ?_
      refine nl ?_
      refine At.thn (hK30 _ _ ?_); clear hK30
      refine Tri.ret ?_
      refine rt1 (.inl rfl) Try.results22 rfl (.tmp (Has.t' rfl ?_) .nil)
      all_goals (exact isB_eq (hermB_yes (by rw [show R = i by omega]; exact hF)))
end Go.Proofs.Ytcfobfedliajdaa
/- The multiples of a form's rows that make a row; lattices that are the same. No program here. -/
namespace Go.Hp
open Go.Dt Go.Hn Go.Pz Go.Nt Go.Mz Go.En
def rowL (C : Nat) (L : List Int) (i : Nat) : List Int := (List.range C).map fun k => cf L (i * C + k)
theorem rowL_len (C : Nat) (L : List Int) (i : Nat) : (rowL C L i).length = C := by unfold rowL; rw [List.length_map, List.length_range]
theorem cf_rowL {C i k : Nat} {L : List Int} (h : k < C) : cf (rowL C L i) k = mf C L i k := by unfold rowL; rw [cf_tab, if_pos h]; rfl
theorem rowL_of {C i : Nat} {xs : List (Bool × List Nat)} (h : (i + 1) * C ≤ xs.length) : vals ((xs.take ((i + 1) * C)).drop (i * C)) = rowL C (vals xs) i := by
  have h2 : (i + 1) * C = i * C + C := Nat.succ_mul _ _
  have hl : (vals ((xs.take ((i + 1) * C)).drop (i * C))).length = C := by rw [vals_len, List.length_drop, List.length_take]; omega
  refine ext_cf (by rw [hl, rowL_len]) fun j hj => ?_
  rw [hl] at hj
  rw [cf_part_row (by omega), cf_rowL hj]; rfl
/-- what is left of a row -/
def crs (C : Nat) (L v : List Int) : Nat → List Int
  | 0 => v
  | n + 1 => mx2 1 (crs C L v n) (-(cf (crs C L v n) (fc C (mf C L n)) / mf C L n (fc C (mf C L n)))) (rowL C L n)
def crn (C : Nat) (L v : List Int) (n : Nat) : Int := cf (crs C L v n) (fc C (mf C L n)) / mf C L n (fc C (mf C L n))
theorem crs_len {C : Nat} {L v : List Int} (hv : v.length = C) : ∀ n, (crs C L v n).length = C
  | 0 => hv
  | n + 1 => (mx2_len _ _ _ _).trans (crs_len hv n)
theorem crs_at {C n k : Nat} {L v : List Int} (hv : v.length = C) (hk : k < C) : cf (crs C L v (n + 1)) k = cf (crs C L v n) k - crn C L v n * mf C L n k := by
  show cf (mx2 _ _ _ _) k = _
  rw [cf_mx2 (by rw [rowL_len, crs_len hv]), cf_rowL hk]
  show 1 * cf (crs C L v n) k + (-(crn C L v n)) * mf C L n k = _
  grind
theorem crs_bd {C K Kv : Nat} {L v : List Int} (hL : Bd L K) (hv : Bd v Kv) : ∀ n, (∀ i, i < n → 0 < mf C L i (fc C (mf C L i))) → Bd (crs C L v n) (Kv + n * (K + 2))
  | 0, _ => hv.mono (by omega)
  | n + 1, h => by
    have ih := crs_bd hL hv n fun i hi => h i (by omega)
    have h1 : (List.length (words (1 : Int).natAbs)) ≤ 1 := nw_small' (by decide)
    have hr : Bd (rowL C L n) K := fun k => by
      unfold rowL
      rw [cf_tab]
      split
      · exact hL _
      · rw [Int.natAbs_zero, words_zero]; exact Nat.zero_le _
    exact Bd_mx2 (A := 1) (B := Kv + n * (K + 2)) h1 ih (by rw [Int.natAbs_neg]; exact div_nw (h n (by omega)) (ih _)) hr (by rw [Nat.succ_mul]; omega) (by rw [Nat.succ_mul]; omega)
theorem HermF.sub {R C n : Nat} {A : MatF} (h : HermF R C A) (hn : n ≤ R) : HermF n C A := fun i hi hc => h i (by omega) hc
/-- the rows that aren't noughts come first -/
theorem herm_piv {C : Nat} {A : MatF} : ∀ {R : Nat}, HermF R C A → ∃ P, P ≤ R ∧ (∀ i, i < P → fc C (A i) < C) ∧ (∀ i, P ≤ i → i < R → ¬ fc C (A i) < C) ∧ pivL C A R = (List.range P).map fun i => fc C (A i)
  | 0, _ => ⟨0, Nat.le_refl _, fun i h => absurd h (Nat.not_lt_zero _), fun i _ h => absurd h (Nat.not_lt_zero _), rfl⟩
  | n + 1, h => by
    obtain ⟨P, h1, h2, h3, h4⟩ := herm_piv (h.sub (Nat.le_succ n))
    by_cases hf : fc C (A n) < C
    · have hP : P = n := by
        rcases Nat.lt_or_ge P n with h5 | h5
        · have h6 := (h n (by omega) hf).1 (by omega)
          exact absurd (by omega) (h3 (n - 1) (by omega) (by omega))
        · omega
      subst hP
      refine ⟨P + 1, Nat.le_refl _, fun i hi => ?_, fun i g1 g2 => by omega, ?_⟩
      · rcases Nat.lt_or_ge i P with h5 | h5
        · exact h2 i h5
        · rw [show i = P by omega]; exact hf
      · rw [pivL_yes hf, h4, List.range_succ, List.map_append]; rfl
    · refine ⟨P, by omega, h2, fun i g1 g2 => ?_, by rw [pivL_no hf]; exact h4⟩
      rcases Nat.lt_or_ge i n with h5 | h5
      · exact h3 i g1 h5
      · rw [show i = n by omega]; exact hf
/-- is it spanned? -/
noncomputable def spB (R C : Nat) (A : MatF) (v : Nat → Int) : Bool := @decide (SpZ R C A v) (Classical.propDecidable _)
theorem spB_iff {R C : Nat} {A : MatF} {v : Nat → Int} : spB R C A v = true ↔ SpZ R C A v := by unfold spB; exact @decide_eq_true_iff _ (Classical.propDecidable _)
theorem sm_less {P R : Nat} {f : Nat → Int} (hP : P ≤ R) (h : ∀ i, P ≤ i → i < R → f i = 0) : sm R f = sm P f := by
  induction R with
  | zero => rw [show P = 0 by omega]
  | succ n ih =>
    rcases Nat.lt_or_ge n P with h1 | h1
    · rw [show P = n + 1 by omega]
    · show sm n f + f n = _
      rw [h n h1 (by omega), Int.add_zero]
      exact ih h1 fun i g1 g2 => h i g1 (by omega)
theorem crs_sum {C : Nat} {L v : List Int} (hv : v.length = C) {k : Nat} (hk : k < C) : ∀ n, cf v k = (sm n fun i => crn C L v i * mf C L i k) + cf (crs C L v n) k
  | 0 => by show _ = 0 + _; rw [Int.zero_add]; rfl
  | n + 1 => by
    rw [crs_sum (L := L) hv hk n, crs_at hv hk]
    show _ = ((sm n fun i => crn C L v i * mf C L i k) + crn C L v n * mf C L n k) + _
    omega
theorem crs_in {R C P : Nat} {L v : List Int} (hv : v.length = C) (hP : P ≤ R) (h : ∀ k, k < C → cf (crs C L v P) k = 0) : SpZ R C (mf C L) (cf v) := by
  refine ⟨fun i => if i < P then crn C L v i else 0, fun k hk => ?_⟩
  rw [crs_sum (L := L) hv hk P, h k hk, Int.add_zero, sm_less hP fun i g1 g2 => by show (if i < P then crn C L v i else 0) * _ = 0; rw [if_neg (by omega), Int.zero_mul]]
  exact sm_congr fun i hi => by show _ = (if i < P then crn C L v i else 0) * _; rw [if_pos hi]
theorem crs_out {R C P : Nat} {L v : List Int} (hF : HermF R C (mf C L)) (hv : v.length = C) (hP : P ≤ R) (h1 : ∀ i, i < P → fc C (mf C L i) < C) (h2 : ∀ i, P ≤ i → i < R → ¬ fc C (mf C L i) < C) (hs : SpZ R C (mf C L) (cf v)) : ∀ k, k < C → cf (crs C L v P) k = 0 := by
  obtain ⟨a, ha⟩ := hs
  have key : ∀ n, n ≤ P → ∃ a : Nat → Int, (∀ i, i < n → a i = 0) ∧ ∀ k, k < C → cf (crs C L v n) k = sm R fun i => a i * mf C L i k := by
    intro n
    induction n with
    | zero => intro _; exact ⟨a, fun i hi => absurd hi (Nat.not_lt_zero _), ha⟩
    | succ n ih =>
      intro hn
      obtain ⟨a, ha0, ha1⟩ := ih (by omega)
      have hfn := h1 n (by omega)
      have hp := (hF n (by omega) hfn).2.1
      have hpv : cf (crs C L v n) (fc C (mf C L n)) = a n * mf C L n (fc C (mf C L n)) := by
        rw [ha1 _ hfn]
        refine sm_one (by omega) fun i hi hne => ?_
        rcases Nat.lt_or_ge i n with h3 | h3
        · rw [ha0 i h3, Int.zero_mul]
        · rw [hF.later (show n < i by omega) hi hfn (Nat.le_refl _), Int.mul_zero]
      have hc : crn C L v n = a n := by
        unfold crn
        rw [hpv, Int.mul_ediv_cancel _ (by omega)]
      refine ⟨fun i => if i = n then 0 else a i, fun i hi => ?_, fun k hk => ?_⟩
      · show (if i = n then 0 else a i) = 0
        split
        · rfl
        · exact ha0 i (by omega)
      · show cf (crs C L v (n + 1)) k = sm R fun i => (if i = n then 0 else a i) * mf C L i k
        rw [crs_at hv hk, hc, ha1 k hk]
        have e1 : (sm R fun i => a i * mf C L i k) = sm R fun i => 1 * ((if i = n then 0 else a i) * mf C L i k) + a n * ((if i = n then 1 else 0) * mf C L i k) := sm_congr fun i _ => by
          by_cases h3 : i = n
          · subst h3; simp
          · simp [h3]
        rw [e1, sm_lin, sm_pick1 (fun i => mf C L i k) (show n < R by omega)]
        omega
  intro k hk
  obtain ⟨a, ha0, ha1⟩ := key P (Nat.le_refl _)
  rw [ha1 k hk]
  refine sm_zero fun i hi => ?_
  rcases Nat.lt_or_ge i P with h3 | h3
  · rw [ha0 i h3, Int.zero_mul]
  · have h4 := h2 i h3 hi
    rw [fc_zero (f := mf C L i) (C := C) (k := k) (by omega), Int.mul_zero]
def coL (R C P : Nat) (L v : List Int) : List Int := (List.range R).map fun i => if i < P then crn C L v i else 0
theorem coL_len (R C P : Nat) (L v : List Int) : (coL R C P L v).length = R := by unfold coL; rw [List.length_map, List.length_range]
theorem coL_at {R C P n : Nat} {L v : List Int} (h : n < P) (hP : P ≤ R) : ((coL R C P L v).map nz)[n]? = some (nz (crn C L v n)) := by
  rw [List.getElem?_map]
  unfold coL
  rw [List.getElem?_map, List.getElem?_range (by omega)]
  show some (nz (if n < P then _ else _)) = _
  rw [if_pos h]
theorem coL_fill {R C P n m : Nat} {L v : List Int} (hP : P ≤ R) (hn : n = P) (hm : m = R) : (fill ((coL R C P L v).map nz) n (false, [])).take m = (coL R C P L v).map nz := by
  subst hn; subst hm
  have hl : ((coL m C n L v).map nz).length = m := by rw [List.length_map, coL_len]
  refine List.ext_getElem? fun j => ?_
  rcases Nat.lt_or_ge j m with hj | hj
  · rw [List.getElem?_take_of_lt hj]
    unfold fill
    by_cases h2 : j < n
    · rw [List.getElem?_append_left (by rw [List.length_take]; omega), List.getElem?_take_of_lt h2]
    · rw [List.getElem?_append_right (by rw [List.length_take]; omega), List.length_take, List.getElem?_replicate, if_pos (by omega), List.getElem?_map]
      unfold coL
      rw [List.getElem?_map, List.getElem?_range hj]
      show some (false, []) = some (nz (if j < n then _ else 0))
      rw [if_neg h2, nz_zero]
  · rw [List.getElem?_eq_none (by rw [List.length_take]; omega), List.getElem?_eq_none (by omega)]
/-- what is told: is something left? -/
theorem left_sp {R C P : Nat} {L v : List Int} (hF : HermF R C (mf C L)) (hv : v.length = C) (hP : P ≤ R) (h1 : ∀ i, i < P → fc C (mf C L i) < C) (h2 : ∀ i, P ≤ i → i < R → ¬ fc C (mf C L i) < C) : decide (0 ≤ fir C (cf (crs C L v P))) = !spB R C (mf C L) (cf v) := by
  by_cases hs : SpZ R C (mf C L) (cf v)
  · rw [spB_iff.2 hs, fir_all (crs_out hF hv hP h1 h2 hs)]; rfl
  · have hb : spB R C (mf C L) (cf v) = false := by
      cases e : spB R C (mf C L) (cf v) with
      | false => rfl
      | true => exact absurd (spB_iff.1 e) hs
    rw [hb]
    refine decide_eq_true ?_
    refine Classical.byContradiction fun h => hs (crs_in hv hP fun k hk => ?_)
    have := fir_no (by omega : fir C (cf (crs C L v P)) < 0)
    exact fc_zero (f := cf (crs C L v P)) (C := C) (by have := fc_le (cf (crs C L v P)) C; omega)
/-! ### rows within others -/
end Go.Hp
namespace Go.Hp
open Go.Dt Go.Hn Go.Pz Go.Nt Go.Mz Go.En
end Go.Hp
/- Contracts: the multiples that make a row. -/
namespace Go.Proofs.Ytcfobfedliajdaa
open Go.En Go.RowKit
set_option linter.unusedVariables false
set_option maxRecDepth 10000
open Go.Nt
open Go.Pz
open Go.Mz
open Go.Hn
open Go.Hp
open Go.Dt
set_option maxHeartbeats 4000000 in
theorem clone_Zs {xs : List (Bool × List Nat)} (hx : xs.length ≤ 4294967296) : Ctr Try.prog 23 [SlK 2 zc xs] (SlK 2 zc xs) := by
  refine Ctr.intro Try.func23 rfl (by kernel_rfl) Try.ntmps23 rfl fun w0 F0 => ?_
  refine Tri.cv (Cv.wk (.cons (t := 0) (Has.t rfl) .nil)) ?_
  refine Tri.fact (Has.lenLt (Has.t (t := 0) rfl)) fun lt0 => ?_
  refine Tri.seq fun K1 hK1 => ?_
  refine Tri.region ?_
  refine st (OK1.as (Has.cWK (k := 2) (fk := zc))) rfl ?_
  refine nl ?_
  refine At.thn (hK1 _ _ ?_); clear hK1
  refine Tri.seq fun K2 hK2 => ?_
  refine Tri.seq fun K3 hK3 => ?_
  refine Tri.region ?_
  refine st (OK1.mv (Has.t rfl)) rfl ?_
  refine Ops.eqNilK sl22 (Has.t rfl) rfl fun bn1 hn1 => ?_
  refine nl ?_
  refine At.thn (hK3 _ _ ?_); clear hK3
  refine Tri.cond (Has.t rfl) (fun hc2 => ?_) (fun hc2 => ?_)
  · have hc2 := BP.t hc2
    refine Tri.seq fun K4 hK4 => ?_
    refine Tri.region ?_
    refine st (OK1.as (Has.cWK (k := 2) (fk := zc))) rfl ?_
    refine nl ?_
    refine At.thn (hK4 _ _ ?_); clear hK4
    refine Tri.ret ?_
    refine At.thr ?_
    refine rt1 (.inl rfl) Try.results23 rfl (.tmp (Has.t' rfl ?_) .nil)
    all_goals (rw [hn1 hc2])
  · have hc2 := BP.f hc2
    refine Tri.skip ?_
    refine At.thn (hK2 _ _ ?_); clear hK2
    refine Tri.seq fun K5 hK5 => ?_
    refine Tri.region ?_
    refine Ops.buildS0 sl22 ty37 rfl ?_
    refine st (OK1.mv (Has.t rfl)) rfl ?_
    refine st (OK1.appendZK sl22 ty37 zero37 by37 (Has.t rfl) (Has.t rfl) (by first | omega | assumption)) rfl ?_
    refine st (OK1.as (Has.t rfl)) rfl ?_
    refine nl ?_
    refine At.thn (hK5 _ _ ?_); clear hK5
    refine Tri.cv (Cv.wk (.cons (t := 2) (Has.t rfl) .nil)) ?_
    refine Tri.ret ?_
    refine rt1 (.inl rfl) Try.results23 rfl (.tmp (Has.t' rfl ?_) .nil)
    all_goals (rfl)
set_option maxHeartbeats 4000000 in
theorem sl_ContainsFuncZ {xs : List (Bool × List Nat)} {K : Nat} (hx : Bd (vals xs) K) : Ctr Try.prog 28 [SlK 2 zc xs, isFun (ι := { p : Bool × List Nat // (List.length (words (val p.2))) ≤ K }) Try.prog (fun p => [Flat (zc p.1)]) (fun p => isB (decide (zv p.1.1 p.1.2 ≠ 0)))] (isB (decide (0 ≤ fir xs.length (cf (vals xs))))) := by
  refine Ctr.intro Try.func28 rfl (by kernel_rfl) Try.ntmps28 rfl fun w0 F0 => ?_
  refine Tri.cv (Cv.wk (.cons (t := 0) (Has.t rfl) (.cons (t := 1) (Has.t rfl) .nil))) ?_
  refine Tri.fact (Has.lenLt (Has.t (t := 0) rfl)) fun lt0 => ?_
  refine Tri.seq fun K1 hK1 => ?_
  refine Tri.region ?_
  refine st (OK1.as (Has.cB false)) rfl ?_
  refine nl ?_
  refine At.thn (hK1 _ _ ?_); clear hK1
  refine Tri.seq fun K2 hK2 => ?_
  refine Tri.region ?_
  refine st (OK1.mv (Has.t rfl)) rfl ?_
  refine st (OK1.mv (Has.t rfl)) rfl ?_
  refine st (OK1.call (sl_IndexFuncZ hx) (.cons (Has.t rfl) (.cons (Has.t rfl) .nil))) rfl ?_
  refine st (OK1.geI (Has.t rfl) (Has.cI 0 rfl)) rfl ?_
  refine st (OK1.as (Has.t rfl)) rfl ?_
  refine nl ?_
  refine At.thn (hK2 _ _ ?_); clear hK2
  refine Tri.cv (Cv.wk (.cons (t := 4) (Has.t rfl) .nil)) ?_
  refine Tri.ret ?_
  refine rt1 (.inl rfl) Try.results28 rfl (.tmp (Has.t' rfl ?_) .nil)
  all_goals (rfl)
set_option maxHeartbeats 4000000 in
theorem hnf_Coordinates_1 {m : Bool} {xs : List Nat} (hx : (List.length (words (val xs))) < 4294700000) : Ctr Try.prog 29 [Flat [isB m, isWords xs]] (isB (decide (zv m xs ≠ 0))) := by
  refine Ctr.intro Try.func29 rfl (by kernel_rfl) Try.ntmps29 rfl fun w0 F0 => ?_
  refine Tri.cv (Cv.wk (.cons (t := 0) (Has.t rfl) .nil)) ?_
  refine Tri.fact (Has.okZ (Has.t (t := 0) rfl)) fun okz0 => ?_
  refine Tri.seq fun K1 hK1 => ?_
  refine Tri.region ?_
  refine Ops.box (Has.t rfl) rfl fun b1 => ?_
  refine st (OK1.as (Has.cB false)) rfl ?_
  refine nl ?_
  refine At.thn (hK1 _ _ ?_); clear hK1
  refine Tri.seq fun K2 hK2 => ?_
  refine Tri.region ?_
  refine st (OK1.load (Has.t rfl) (i := 0) rfl ty37 rfl (Ss' := [_, _]) rfl) rfl ?_
  refine st (OK1.call (zint_Sign (by omega)) (.cons (Has.t rfl) .nil)) rfl ?_
  refine st (OK1.neI (Has.t rfl) (Has.cI 0 rfl)) rfl ?_
  refine st (OK1.as (Has.t rfl)) rfl ?_
  refine nl ?_
  refine At.thn (hK2 _ _ ?_); clear hK2
  refine Tri.cv (Cv.wk (.cons (t := 2) (Has.t rfl) .nil)) ?_
  refine Tri.ret ?_
  refine rt1 (.inl rfl) Try.results29 rfl (.tmp (Has.t' rfl ?_) .nil)
  all_goals (exact isB_eq (by simp [sgn_eq0]))
set_option maxHeartbeats 4000000 in
theorem hnf_Coordinates {R C K Kv : Nat} {xs vs : List (Bool × List Nat)} (hx : Bd (vals xs) K) (hR : R ≤ 64) (hC : C ≤ 64) (hl : xs.length = R * C) (hv : Bd (vals vs) Kv) (hvl : vs.length = C) (hK : Kv + (R + 1) * (K + 2) ≤ 100000000) (hF : HermF R C (mf C (vals xs))) : Ctr Try.prog 8 [isM (R : Int) (C : Int) xs, SlK 2 zc vs] (isTup [isP (if spB R C (mf C (vals xs)) (cf (vals vs)) = true then coL R C (pivL C (mf C (vals xs)) R).length (vals xs) (vals vs) else []), isI (if spB R C (mf C (vals xs)) (cf (vals vs)) = true then 0 else 10)]) := by
  refine Ctr.intro Try.func8 rfl (by kernel_rfl) Try.ntmps8 rfl fun w0 F0 => ?_
  refine Tri.cv (Cv.wk (.cons (t := 0) (Has.t rfl) (.cons (t := 1) (Has.t rfl) .nil))) ?_
  refine Tri.fact (Has.lenLt (Has.t (t := 1) rfl)) fun lt1 => ?_
  have hRC := side_le hR hC
  have hK1 : K + 2 ≤ (R + 1) * (K + 2) := Nat.le_mul_of_pos_left _ (Nat.succ_pos R)
  have hfo := formB_true hR hC hl
  obtain ⟨P, hP, hp1, hp2, hpl⟩ := herm_piv hF
  have hPl : (pivL C (mf C (vals xs)) R).length = P := by rw [hpl, List.length_map, List.length_range]
  rw [hPl]
  have hpv := pv_len ((List.range P).map fun i => fc C ((mf C (vals xs)) i))
  rw [List.length_map, List.length_range] at hpv
  have hvv : (vals vs).length = C := by rw [vals_len]; exact hvl
  have hpos : ∀ i, i < P → 0 < (mf C (vals xs)) i (fc C ((mf C (vals xs)) i)) := fun i hi => (hF i (by omega) (hp1 i hi)).2.1
  refine Tri.seq fun K1 hK1 => ?_
  refine Tri.region ?_
  refine Ops.box (Has.t rfl) rfl fun b1 => ?_
  refine st (OK1.as (Has.cWK (k := 2) (fk := zc))) rfl ?_
  refine st (OK1.as (Has.cI 0 rfl)) rfl ?_
  refine nl ?_
  refine At.thn (hK1 _ _ ?_); clear hK1
  refine Tri.seq fun K2 hK2 => ?_
  refine Tri.block ?_
  refine Tri.seq fun K3 hK3 => ?_
  refine Tri.region ?_
  refine st (OK1.load (Has.t rfl) (i := 0) rfl ty24 rfl (Ss' := [_, _, _]) rfl) rfl ?_
  refine st (OK1.eq (OK1.call (zmat_Formed) (.cons (Has.t rfl) .nil)) ((show isB _ = isB true from isB_eq (hfo)))) rfl ?_
  refine st (OK1.not (Has.t rfl)) rfl ?_
  refine st (OK1.mv (Has.t rfl)) rfl ?_
  refine stF rfl rfl (fun hg => have hg' := BP.t hg; OK1.mv (Has.t rfl)) rfl ?_
  refine stF rfl rfl (fun hg => have hg' := BP.t hg; OK1.len sl22 (Has.g rfl hg)) rfl ?_
  refine stF rfl rfl (fun hg => have hg' := BP.t hg; OK1.fieldAddr (Has.t rfl) fld24_1 ty3) rfl ?_
  refine stF rfl rfl (fun hg => have hg' := BP.t hg; OK1.load1 (Has.g rfl hg) (i := 0) rfl ty3 rfl) rfl ?_
  refine stF rfl rfl (fun hg => have hg' := BP.t hg; OK1.neI (Has.g rfl hg) (Has.g rfl hg)) rfl ?_
  refine st (OK1.pickOr (Has.t rfl) (fun h => Has.g rfl (ng h))) rfl ?_
  refine st (OK1.as (Has.t rfl)) rfl ?_
  refine nl ?_
  refine At.thn (hK3 _ _ ?_); clear hK3
  refine Tri.cv (Cv.wk (.cons (t := 1) (Has.t rfl) (.cons (t := 2) (Has.t rfl) (.cons (t := 4) (Has.t rfl) (.cons (t := 5) (Has.t rfl) (.cons (t := 14) (Has.t rfl) .nil)))))) ?_
  refine Tri.cond (Has.t rfl) (fun hc1 => ?_) (fun hc1 => ?_)
  · have hc1 := BP.t hc1
    exfalso; omega
  · have hc1 := BP.f hc1
    refine Tri.seq fun K4 hK4 => ?_
    refine Tri.region ?_
    refine st (OK1.load (Has.t rfl) (i := 0) rfl ty24 rfl (Ss' := [_, _, _]) rfl) rfl ?_
    refine st (OK1.eq (OK1.call (hnf_Is (K := K) hx (by omega) hR hC hl) (.cons (Has.t rfl) .nil)) ((show isB _ = isB true from isB_eq (hermB_iff.2 hF)))) rfl ?_
    refine st (OK1.not (Has.t rfl)) rfl ?_
    refine st (OK1.as (Has.t rfl)) rfl ?_
    refine nl ?_
    refine At.thn (hK4 _ _ ?_); clear hK4
    refine Tri.cond (Has.t rfl) (fun hc2 => ?_) (fun hc2 => ?_)
    · have hc2 := BP.t hc2
      exfalso; simp at hc2
    · have hc2 := BP.f hc2
      refine Tri.skip ?_
      refine At.bln ?_
      refine At.thn (hK2 _ _ ?_); clear hK2
      refine Tri.cv (Cv.wk (.cons (t := 1) (Has.t rfl) (.cons (t := 2) (Has.t rfl) (.cons (t := 4) (Has.t rfl) (.cons (t := 5) (Has.t rfl) .nil))))) ?_
      refine Tri.seq fun K5 hK5 => ?_
      refine Tri.region ?_
      refine st (OK1.mv (Has.t rfl)) rfl ?_
      refine st (OK1.call (clone_Zs (by omega)) (.cons (Has.t rfl) .nil)) rfl ?_
      refine st (OK1.as (Has.t rfl)) rfl ?_
      refine nl ?_
      refine At.thn (hK5 _ _ ?_); clear hK5
      refine Tri.seq fun K6 hK6 => ?_
      refine Tri.region ?_
      refine st (OK1.fieldAddr (Has.t rfl) fld24_0 ty3) rfl ?_
      refine st (OK1.load1 (Has.t rfl) (i := 0) rfl ty3 rfl) rfl ?_
      refine Ops.makeK (fk := zc) (u := (false, [])) (n := R) (c := R) sl22 ty37 zero37 (fun _ _ => ⟨rfl, nilM _ _, trivial⟩) zc_len by37 (Has.t' rfl rfl) (Has.t' rfl rfl) ⟨by omega, by omega⟩ rfl fun b2 => ?_
      refine st (OK1.as (Has.t rfl)) rfl ?_
      refine nl ?_
      refine At.thn (hK6 _ _ ?_); clear hK6
      refine Tri.cv (Cv.wk (.cons (t := 2) (Has.t rfl) (.cons (t := 4) (Has.t rfl) (.cons (t := 5) (Has.t rfl) (.cons (t := 6) (Has.t rfl) (.cons (t := 7) (Has.t rfl) .nil)))))) ?_
      refine Tri.seq fun K7 hK7 => ?_
      refine Tri.seq fun K8 hK8 => ?_
      refine Tri.region ?_
      refine st (OK1.load (Has.t rfl) (i := 1) rfl ty24 rfl (Ss' := [_, _, _]) rfl) rfl ?_
      refine st (OK1.eq (OK1.call (hnf_Pivots (K := K) hx (by omega) hR hC hl) (.cons (Has.t rfl) .nil)) ((show _ = SlM isI (pv ((List.range P).map fun i => fc C ((mf C (vals xs)) i))) from by rw [hpl]))) rfl ?_
      refine st (OK1.eq (OK1.len sl54 (Has.t rfl)) ((show isI _ = isI (P : Int) from isI_eq (by rw [hpv])))) rfl ?_
      refine st (OK1.mv (Has.cI 0 rfl)) rfl ?_
      refine nl ?_
      refine At.thn (hK8 _ _ ?_); clear hK8
      refine Tri.block ?_
      refine Tri.loopF [2, 4, 5, 7, 35, 36] (fun (z : { z : Nat × List (Bool × List Nat) // z.1 ≤ P ∧ vals z.2 = crs C (vals xs) (vals vs) z.1 }) => match z with | ⟨(n, ys), hI⟩ => [(37, isI (n : Int)), (6, SlK 2 zc ys)]) (fun M => fun (z : { z : Nat × List (Bool × List Nat) // z.1 ≤ P ∧ vals z.2 = crs C (vals xs) (vals vs) z.1 }) => match z with | ⟨(n, ys), hI⟩ => [(some b2, cellM ((fill ((coL R C P (vals xs) (vals vs)).map nz) n (false, [])).flatMap zc)), (some b1, cellM [isI (R : Int), isI (C : Int), SlK 2 zc xs])]) (fun (z : { z : Nat × List (Bool × List Nat) // z.1 ≤ P ∧ vals z.2 = crs C (vals xs) (vals vs) z.1 }) => match z with | ⟨(n, ys), hI⟩ => P - n) (⟨(0, vs), Nat.zero_le _, rfl⟩) (Cv.mem (.cons (t := 37) (Has.t' rfl ?_) (.cons (t := 6) (Has.t' rfl ?_) (.cons (t := 2) (Has.t rfl) (.cons (t := 4) (Has.t rfl) (.cons (t := 5) (Has.t rfl) (.cons (t := 7) (Has.t rfl) (.cons (t := 35) (Has.t rfl) (.cons (t := 36) (Has.t rfl) .nil)))))))) ?_) ?_
      · rfl
      · rfl
      · exact memZ_eq (by rw [fill_zero, List.length_map, coL_len])
      rintro ⟨⟨n, ys⟩, hI⟩ K9 hK9
      refine Tri.cv (Cv.wk (.cons (t := 37) (Has.t rfl) (.cons (t := 6) (Has.t rfl) (.cons (t := 2) (Has.t rfl) (.cons (t := 4) (Has.t rfl) (.cons (t := 5) (Has.t rfl) (.cons (t := 7) (Has.t rfl) (.cons (t := 35) (Has.t rfl) (.cons (t := 36) (Has.t rfl) .nil))))))))) ?_
      refine Tri.memEq (M' := [(some b2, cellM ((fill ((coL R C P (vals xs) (vals vs)).map nz) n (false, [])).flatMap zc)), (some b1, cellM [isI (R : Int), isI (C : Int), SlK 2 zc xs])]) rfl ?_
      simp only [] at hI
      obtain ⟨hn, hyv⟩ := hI
      have hyl : ys.length = C := by rw [← vals_len, hyv]; exact crs_len hvv n
      have hnK : n * (K + 2) ≤ (R + 1) * (K + 2) := Nat.mul_le_mul_right _ (by omega)
      have hyb : Bd (vals ys) (Kv + n * (K + 2)) := by rw [hyv]; exact crs_bd hx hv n fun i hi => hpos i (by omega)
      refine Tri.seq fun K10 hK10 => ?_
      refine Tri.region ?_
      refine st (OK1.ltI (Has.t rfl) (Has.t rfl)) rfl ?_
      refine nl ?_
      refine At.thn (hK10 _ _ ?_); clear hK10
      refine Tri.seq fun K11 hK11 => ?_
      refine Tri.cond (Has.t rfl) (fun hc3 => ?_) (fun hc3 => ?_)
      · have hc3 := BP.t hc3
        have hnP : n < P := (by omega)
        have hfn := hp1 n hnP
        have hpl1 : (n + 1) * C ≤ R * C := Nat.mul_le_mul_right _ (show n + 1 ≤ R by omega)
        have hpl2 : (n + 1) * C = n * C + C := Nat.succ_mul _ _
        have hc1 : ((n : Int) * (C : Int)) = ((n * C : Nat) : Int) := (Int.natCast_mul n C).symm
        have hc2 : (((n : Int) + 1) * (C : Int)) = (((n + 1) * C : Nat) : Int) := by rw [Int.natCast_mul]; rfl
        obtain ⟨rw', hrw'⟩ : ∃ r, r = (xs.take ((n + 1) * C)).drop (n * C) := ⟨_, rfl⟩
        have hrv : vals rw' = Go.Hp.rowL C (vals xs) n := by rw [hrw']; exact rowL_of (by omega)
        have hrl : rw'.length = C := by rw [← vals_len, hrv, Go.Hp.rowL_len]
        have hrc : ∀ k, k < C → cf (vals rw') k = (mf C (vals xs)) n k := fun k hk => by rw [hrv]; exact cf_rowL hk
        have hrb : Bd (vals rw') K := fun k => by
          rcases Nat.lt_or_ge k C with h | h
          · rw [hrc k h]; exact hx _
          · rw [cf_high (by rw [vals_len]; omega), Int.natAbs_zero, words_zero]; exact Nat.zero_le _
        have hpn : (pv ((List.range P).map fun i => fc C ((mf C (vals xs)) i)))[n]? = some (((fc C ((mf C (vals xs)) n)) : Nat) : Int) := by unfold pv; rw [List.getElem?_map, List.getElem?_map, List.getElem?_range hnP]; rfl
        have hcn : (List.length (words (crn C (vals xs) (vals vs) n).natAbs)) ≤ Kv + n * (K + 2) := by unfold crn; rw [← hyv]; exact div_nw (hpos n hnP) (hyb _)
        refine Tri.skip ?_
        refine At.thn (hK11 _ _ ?_); clear hK11
        refine Tri.seq fun K12 hK12 => ?_
        refine Tri.block ?_
        refine Tri.seq fun K13 hK13 => ?_
        refine Tri.region ?_
        refine st (OK1.mv (Has.t rfl)) rfl ?_
        refine st (OK1.ixP sl54 ty3 (Has.t rfl) (Has.t rfl) ⟨by omega, by omega⟩ hpn) rfl ?_
        refine st (OK1.loadP1 (Has.t rfl) ty3) rfl ?_
        refine st (OK1.as (Has.t rfl)) rfl ?_
        refine st (OK1.as (Has.t rfl)) rfl ?_
        refine nl ?_
        refine At.thn (hK13 _ _ ?_); clear hK13
        refine Tri.seq fun K14 hK14 => ?_
        refine Tri.region ?_
        refine st (OK1.fieldAddr (Has.t rfl) fld24_2 ty22) rfl ?_
        refine st (OK1.load1 (Has.t rfl) (i := 1) rfl ty22 rfl) rfl ?_
        refine st (OK1.mv (Has.t rfl)) rfl ?_
        refine st (OK1.fieldAddr (Has.t rfl) fld24_1 ty3) rfl ?_
        refine st (OK1.load1 (Has.t rfl) (i := 1) rfl ty3 rfl) rfl ?_
        refine st (OK1.eq (OK1.mulI (Has.t rfl) (Has.t rfl) (by first | omega | (rw [hc1]; omega) | (rw [hc2]; omega)) (by first | omega | (rw [hc1]; omega) | (rw [hc2]; omega))) ((show isI _ = isI ((n * C : Nat) : Int) from isI_eq hc1))) rfl ?_
        refine st (OK1.mv (Has.t rfl)) rfl ?_
        refine st (OK1.addI (Has.t rfl) (Has.cI 1 rfl) (by first | omega | (rw [hc1]; omega) | (rw [hc2]; omega)) (by first | omega | (rw [hc1]; omega) | (rw [hc2]; omega))) rfl ?_
        refine st (OK1.fieldAddr (Has.t rfl) fld24_1 ty3) rfl ?_
        refine st (OK1.load1 (Has.t rfl) (i := 1) rfl ty3 rfl) rfl ?_
        refine st (OK1.eq (OK1.mulI (Has.t rfl) (Has.t rfl) (by first | omega | (rw [hc1]; omega) | (rw [hc2]; omega)) (by first | omega | (rw [hc1]; omega) | (rw [hc2]; omega))) ((show isI _ = isI (((n + 1) * C : Nat) : Int) from isI_eq hc2))) rfl ?_
        refine st (OK1.eq (OK1.slLHK sl22 ty37 zc_len (Has.t rfl) (Has.t rfl) (Has.t rfl) ⟨by omega, by omega, by omega⟩) ((show _ = SlK 2 zc rw' from SlK_eq (by rw [hrw']; rfl)))) rfl ?_
        refine st (OK1.as (Has.t rfl)) rfl ?_
        refine nl ?_
        refine At.thn (hK14 _ _ ?_); clear hK14
        refine Tri.seq fun K15 hK15 => ?_
        refine Tri.drh [true, true] (Ms := [_, _]) rfl ?_
        refine DrH.st (i := 0) [] rfl rfl rfl (by kernel_rfl) (OKG.o rfl (OK1.mv (Has.t rfl))) ?_
        refine DrH.st (i := 1) [] rfl rfl rfl (by kernel_rfl) (OKG.o rfl (OK1.mv (Has.t rfl))) ?_
        refine DrH.st (i := 2) [55, 56] rfl rfl rfl (by kernel_rfl) (OKG.o rfl (OK1.ixK sl22 ty37 (Has.t rfl) (Has.t rfl) zc_len ⟨by omega, by omega⟩ (getD_some (d := (false, [])) (by first | omega | (simp only [Int.toNat_natCast, List.length_set]; omega))))) ?_
        refine DrH.st (i := 3) [57] rfl rfl rfl (by kernel_rfl) (OKG.o rfl (OK1.loadP (Has.t rfl) ty37 rfl (Ss' := [_, _]) rfl)) ?_
        refine DrH.st (i := 4) [] rfl rfl rfl (by kernel_rfl) (OKG.o rfl (OK1.mv (Has.t rfl))) ?_
        refine DrH.st (i := 5) [] rfl rfl rfl (by kernel_rfl) (OKG.o rfl (OK1.mv (Has.t rfl))) ?_
        refine DrH.st (i := 6) [59, 60] rfl rfl rfl (by kernel_rfl) (OKG.o rfl (OK1.ixK sl22 ty37 (Has.t rfl) (Has.t rfl) zc_len ⟨by omega, by omega⟩ (getD_some (d := (false, [])) (by first | omega | (simp only [Int.toNat_natCast, List.length_set]; omega))))) ?_
        refine DrH.st (i := 7) [61] rfl rfl rfl (by kernel_rfl) (OKG.o rfl (OK1.loadP (Has.t rfl) ty37 rfl (Ss' := [_, _]) rfl)) ?_
        refine DrH.st (i := 8) [58, 62] rfl rfl rfl (by kernel_rfl) (OKG.o rfl (OK1.eq (OK1.call (zint_Floor (by show (List.length (words (val (ys.getD (fc C ((mf C (vals xs)) n)) (false, [])).2))) < _; have := hyb.raw (fc C ((mf C (vals xs)) n)); omega) (by show (List.length (words (val (rw'.getD (fc C ((mf C (vals xs)) n)) (false, [])).2))) < _; have := hrb.raw (fc C ((mf C (vals xs)) n)); omega) (by show 0 < zv (rw'.getD (fc C ((mf C (vals xs)) n)) (false, [])).1 (rw'.getD (fc C ((mf C (vals xs)) n)) (false, [])).2; rw [← cf_vals, hrc _ hfn]; exact hpos n hnP)) (.cons (Has.t rfl) (.cons (Has.t rfl) .nil))) ((show _ = isTup [isZ (crn C (vals xs) (vals vs) n), isZ (cf (crs C (vals xs) (vals vs) n) (fc C ((mf C (vals xs)) n)) % (mf C (vals xs)) n (fc C ((mf C (vals xs)) n))), isB true] from by rw [show (mf C (vals xs)) n (fc C ((mf C (vals xs)) n)) = cf (vals rw') (fc C ((mf C (vals xs)) n)) from (hrc _ hfn).symm, show (crn C (vals xs) (vals vs) n) = cf (vals ys) (fc C ((mf C (vals xs)) n)) / cf (vals rw') (fc C ((mf C (vals xs)) n)) from by unfold crn; rw [hyv, hrc _ hfn], ← hyv, cf_vals, cf_vals]; rfl)))) ?_
        refine DrH.st (i := 9) [63] rfl rfl rfl (by kernel_rfl) (OKG.o rfl (OK1.mv (Has.t rfl))) ?_
        refine DrH.st (i := 10) [54] rfl rfl rfl (by kernel_rfl) (OKG.o rfl (OK1.ext (Has.t rfl) rfl)) ?_
        refine DrH.st (i := 11) [54] rfl rfl rfl (by kernel_rfl) (OKG.o rfl (OK1.ext (Has.t rfl) rfl)) ?_
        refine DrH.st (i := 12) [54] rfl rfl rfl (by kernel_rfl) (OKG.o rfl (OK1.ext (Has.t rfl) rfl)) ?_
        refine DrH.als (n1 := 15) (ds := [11, 12]) (zs := [[isB false, SlM isU []], [isB false, SlM isU []]]) rfl (.cons rfl rfl zero37 (fun _ _ => ⟨rfl, nilM _ _, trivial⟩) (.cons rfl rfl zero37 (fun _ _ => ⟨rfl, nilM _ _, trivial⟩) .nil)) (.cons_cons _ (.cons_cons _ .slnil)) (Cs := [_, _]) rfl ?_
        refine DrN.new [64] 0 (Ss' := [_, _]) (Cs' := [cellM [_, _], _]) rfl (by kernel_rfl) (by kernel_rfl) rfl rfl rfl (by kernel_rfl) rfl (Has.t rfl) ty37 rfl rfl rfl rfl ?_
        refine DrN.new [65] 1 (Ss' := [_, _]) (Cs' := [_, cellM [_, _]]) rfl (by kernel_rfl) (by kernel_rfl) rfl rfl rfl (by kernel_rfl) rfl (Has.t rfl) ty37 rfl rfl rfl rfl ?_
        refine DrN.fin (n := 17) mixed rfl (by kernel_rfl) (by kernel_rfl) (by kernel_rfl) (fun bs hbs => ?_)
        obtain ⟨b3, b4, rfl⟩ := len2 hbs
        refine Ops.memEq (M' := [_, _, _, _]) rfl ?_
        refine Ops.cv (Cv.wk (.cons (t := 2) (Has.t rfl) (.cons (t := 4) (Has.t rfl) (.cons (t := 5) (Has.t rfl) (.cons (t := 7) (Has.t rfl) (.cons (t := 35) (Has.t rfl) (.cons (t := 36) (Has.t rfl) (.cons (t := 37) (Has.t rfl) (.cons (t := 6) (Has.t rfl) (.cons (t := 38) (Has.t rfl) (.cons (t := 39) (Has.t rfl) (.cons (t := 40) (Has.t rfl) (.cons (t := 41) (Has.t rfl) (.cons (t := 8) (Has.t rfl) (.cons (t := 9) (Has.t rfl) (.cons (t := 42) (Has.t rfl) (.cons (t := 43) (Has.t rfl) (.cons (t := 44) (Has.t rfl) (.cons (t := 45) (Has.t rfl) (.cons (t := 46) (Has.t rfl) (.cons (t := 47) (Has.t rfl) (.cons (t := 48) (Has.t rfl) (.cons (t := 49) (Has.t rfl) (.cons (t := 50) (Has.t rfl) (.cons (t := 51) (Has.t rfl) (.cons (t := 52) (Has.t rfl) (.cons (t := 53) (Has.t rfl) (.cons (t := 10) (Has.t rfl) (.cons (t := 55) (Has.t rfl) (.cons (t := 56) (Has.t rfl) (.cons (t := 57) (Has.t rfl) (.cons (t := 58) (Has.t rfl) (.cons (t := 59) (Has.t rfl) (.cons (t := 60) (Has.t rfl) (.cons (t := 61) (Has.t rfl) (.cons (t := 62) (Has.t rfl) (.cons (t := 63) (Has.t rfl) (.cons (t := 54) (Has.t rfl) (.cons (t := 64) (Has.t rfl) (.cons (t := 65) (Has.t rfl) (.cons (t := 66) (Has.t rfl) (.cons (t := 11) (Has.op rfl) (.cons (t := 12) (Has.op rfl) .nil))))))))))))))))))))))))))))))))))))))))))) ?_
        refine st (OK1.as (Has.t rfl)) rfl ?_
        refine nl ?_
        refine At.thn (hK15 _ _ ?_); clear hK15
        refine Tri.dry mixed ?_
        refine DrB.take (i := 0) rfl rfl rfl rfl (by kernel_rfl) (by kernel_rfl) (by kernel_rfl) (by kernel_rfl) (fun _ _ _ _ h => h) (OKY.mv (Has.t rfl)) ?_
        refine DrB.take (i := 1) rfl rfl rfl rfl (by kernel_rfl) (by kernel_rfl) (by kernel_rfl) (by kernel_rfl) (fun _ _ _ _ h => h) (OKY.mv (Has.t rfl)) ?_
        refine DrB.take (i := 3) rfl rfl rfl rfl (by kernel_rfl) (by kernel_rfl) (by kernel_rfl) (by kernel_rfl) (fun _ _ _ _ h => h) (OKY.mv (Has.t rfl)) ?_
        refine DrB.take (i := 6) rfl rfl rfl rfl (by kernel_rfl) (by kernel_rfl) (by kernel_rfl) (by kernel_rfl) (fun _ _ _ _ h => h) (OKY.mv (Has.t rfl)) ?_
        refine DrB.cv (Cv.wk (.cons (t := 2) (Has.t rfl) (.cons (t := 4) (Has.t rfl) (.cons (t := 5) (Has.t rfl) (.cons (t := 7) (Has.t rfl) (.cons (t := 35) (Has.t rfl) (.cons (t := 36) (Has.t rfl) (.cons (t := 37) (Has.t rfl) (.cons (t := 38) (Has.t rfl) (.cons (t := 39) (Has.t rfl) (.cons (t := 40) (Has.t rfl) (.cons (t := 41) (Has.t rfl) (.cons (t := 8) (Has.t rfl) (.cons (t := 9) (Has.t rfl) (.cons (t := 42) (Has.t rfl) (.cons (t := 43) (Has.t rfl) (.cons (t := 44) (Has.t rfl) (.cons (t := 45) (Has.t rfl) (.cons (t := 46) (Has.t rfl) (.cons (t := 47) (Has.t rfl) (.cons (t := 48) (Has.t rfl) (.cons (t := 49) (Has.t rfl) (.cons (t := 50) (Has.t rfl) (.cons (t := 51) (Has.t rfl) (.cons (t := 52) (Has.t rfl) (.cons (t := 53) (Has.t rfl) (.cons (t := 10) (Has.t rfl) (.cons (t := 55) (Has.t rfl) (.cons (t := 56) (Has.t rfl) (.cons (t := 57) (Has.t rfl) (.cons (t := 58) (Has.t rfl) (.cons (t := 59) (Has.t rfl) (.cons (t := 60) (Has.t rfl) (.cons (t := 61) (Has.t rfl) (.cons (t := 62) (Has.t rfl) (.cons (t := 63) (Has.t rfl) (.cons (t := 54) (Has.t rfl) (.cons (t := 64) (Has.t rfl) (.cons (t := 65) (Has.t rfl) (.cons (t := 66) (Has.t rfl) (.cons (t := 11) (Has.t rfl) (.cons (t := 12) (Has.t rfl) (.cons (t := 13) (Has.t rfl) (.cons (t := 67) (Has.t rfl) (.cons (t := 68) (Has.t rfl) (.cons (t := 70) (Has.t rfl) (.cons (t := 73) (Has.t rfl) .nil))))))))))))))))))))))))))))))))))))))))))))))) ?_
        refine DrB.go [] ?_
        refine DrC.st (i := 2) [] rfl rfl rfl (by kernel_rfl) (by kernel_rfl) (OKG.o rfl (OK1.call (zint_Of) (.cons (Has.cI 1 rfl) .nil))) ?_
        refine DrC.st (i := 4) [] rfl rfl rfl (by kernel_rfl) (by kernel_rfl) (OKG.o rfl (OK1.load (Has.t rfl) (i := 0) rfl ty37 rfl (Ss' := [_, _]) rfl)) ?_
        refine DrC.st (i := 5) [71] rfl rfl rfl (by kernel_rfl) (by kernel_rfl) (OKG.o rfl (OK1.call (zint_Neg (by rw [val_words]; omega)) (.cons (Has.t rfl) .nil))) ?_
        refine DrC.st (i := 7) [69, 72] rfl rfl rfl (by kernel_rfl) (by kernel_rfl) (OKG.o rfl (OK1.eq (OK1.call (hnf_mixed (A := 1) (B := Kv + n * (K + 2)) (K := Kv + n * (K + 2)) (L := K) (by rw [val_words]; exact nw_small' (by decide)) hyb (by rw [val_words, zv_nf, Int.natAbs_neg]; exact hcn) hrb (by omega) (by omega) (by omega) (by omega)) (.cons (Has.t rfl) (.cons (Has.t rfl) (.cons (Has.t rfl) (.cons (Has.t rfl) .nil))))) ((show _ = isP (crs C (vals xs) (vals vs) (n + 1)) from isPl_eq (by simp only [zv_nf]; rw [hyv, hrv]; rfl))))) ?_
        refine DrC.st (i := 8) [] rfl rfl rfl (by kernel_rfl) (by kernel_rfl) (OKG.o rfl (OK1.eq (OK1.load (Has.t rfl) (i := 0) rfl ty37 rfl (Ss' := [_, _]) rfl) ((show _ = Flat (zc (nz (crn C (vals xs) (vals vs) n))) from rfl)))) ?_
        refine DrC.st (i := 9) [74] rfl rfl rfl (by kernel_rfl) (by kernel_rfl) (OKG.o rfl (OK1.as (Has.t rfl))) ?_
        refine DrC.fin [10, 11] (by kernel_rfl) (by kernel_rfl) (fun _ _ _ _ _ h => h) (by kernel_rfl) (by kernel_rfl) (by kernel_rfl) (by kernel_rfl) (by kernel_rfl) (by kernel_rfl) (by kernel_rfl) (by kernel_rfl) (by kernel_rfl) ?_
        refine Ops.cv (Cv.wk (.cons (t := 2) (Has.t rfl) (.cons (t := 4) (Has.t rfl) (.cons (t := 5) (Has.t rfl) (.cons (t := 7) (Has.t rfl) (.cons (t := 35) (Has.t rfl) (.cons (t := 36) (Has.t rfl) (.cons (t := 37) (Has.t rfl) (.cons (t := 38) (Has.t rfl) (.cons (t := 39) (Has.t rfl) (.cons (t := 40) (Has.t rfl) (.cons (t := 41) (Has.t rfl) (.cons (t := 8) (Has.t rfl) (.cons (t := 9) (Has.t rfl) (.cons (t := 42) (Has.t rfl) (.cons (t := 43) (Has.t rfl) (.cons (t := 44) (Has.t rfl) (.cons (t := 45) (Has.t rfl) (.cons (t := 46) (Has.t rfl) (.cons (t := 47) (Has.t rfl) (.cons (t := 48) (Has.t rfl) (.cons (t := 49) (Has.t rfl) (.cons (t := 50) (Has.t rfl) (.cons (t := 51) (Has.t rfl) (.cons (t := 52) (Has.t rfl) (.cons (t := 53) (Has.t rfl) (.cons (t := 10) (Has.t rfl) (.cons (t := 55) (Has.t rfl) (.cons (t := 56) (Has.t rfl) (.cons (t := 57) (Has.t rfl) (.cons (t := 58) (Has.t rfl) (.cons (t := 59) (Has.t rfl) (.cons (t := 60) (Has.t rfl) (.cons (t := 61) (Has.t rfl) (.cons (t := 62) (Has.t rfl) (.cons (t := 63) (Has.t rfl) (.cons (t := 54) (Has.t rfl) (.cons (t := 64) (Has.t rfl) (.cons (t := 65) (Has.t rfl) (.cons (t := 66) (Has.t rfl) (.cons (t := 11) (Has.t rfl) (.cons (t := 12) (Has.t rfl) (.cons (t := 67) (Has.t rfl) (.cons (t := 68) (Has.t rfl) (.cons (t := 70) (Has.t rfl) (.cons (t := 73) (Has.t rfl) (.cons (t := 69) (Has.t rfl) (.cons (t := 71) (Has.t rfl) (.cons (t := 72) (Has.t rfl) (.cons (t := 74) (Has.t rfl) (.cons (t := 75) (Has.t rfl) (.cons (t := 6) (Has.t rfl) .nil)))))))))))))))))))))))))))))))))))))))))))))))))))) ?_
        refine st (OK1.eq (OK1.ixWin sl22 ty37 (Has.t rfl) (Has.t rfl) ⟨by omega, by omega⟩) (isPtr_eq (by first | exact ixo0 | exact ixo2 | exact ixo1))) rfl ?_
        refine Ops.storeK (z := nz (crn C (vals xs) (vals vs) n)) zc_len (Has.t rfl) (Has.t rfl) (i := 2) rfl ty37 (by rw [fill_len _ _ _ (by rw [List.length_map, coL_len]; omega), List.length_map, coL_len]; simp only [Int.toNat_natCast]; omega) (M' := [_, _, (_, _), _]) rfl ?_
        refine nl ?_
        refine At.bln ?_
        refine At.thn (hK12 _ _ ?_); clear hK12
        refine Tri.region ?_
        refine st (OK1.addI (Has.t rfl) (Has.cI 1 rfl) (by first | omega | assumption) (by first | omega | assumption)) rfl ?_
        refine st (OK1.mv (Has.t rfl)) rfl ?_
        refine nl ?_
        refine At.thn ?_
        refine hK9 (⟨(n + 1, (crs C (vals xs) (vals vs) (n + 1)).map nz), by show n + 1 ≤ P; omega, vals_nz _⟩) _ _ ?_ (Cv.trans (Cv.drop ((.cons _ (.cons _ (.cons_cons _ (.cons_cons _ .slnil)))))) (Cv.mem (.cons (t := 37) (Has.t' rfl ?_) (.cons (t := 6) (Has.t' rfl ?_) (.cons (t := 2) (Has.t rfl) (.cons (t := 4) (Has.t rfl) (.cons (t := 5) (Has.t rfl) (.cons (t := 7) (Has.t rfl) (.cons (t := 35) (Has.t rfl) (.cons (t := 36) (Has.t rfl) .nil)))))))) ?_))
        · show P - (n + 1) < P - n; omega
        · exact isI_eq (by omega)
        · rfl
        · exact memF_eq (coL_at (by omega) hP)
      · have hc3 := BP.f hc3
        skip
        refine Tri.exit ?_
        refine At.the ?_
        refine At.the ?_
        refine At.blh ?_
        refine At.thn (hK7 _ _ ?_); clear hK7
        refine Tri.cv (Cv.wk (.cons (t := 4) (Has.t rfl) (.cons (t := 5) (Has.t rfl) (.cons (t := 7) (Has.t rfl) (.cons (t := 6) (Has.t rfl) .nil))))) ?_
        refine Tri.seq fun K16 hK16 => ?_
        refine Tri.seq fun K17 hK17 => ?_
        refine Tri.region ?_
        refine st (OK1.mv (Has.t rfl)) rfl ?_
        refine st (OK1.eq (OK1.call (sl_ContainsFuncZ (K := Kv + n * (K + 2)) hyb) (.cons (Has.t rfl) (.cons (Has.fn (fun p => hnf_Coordinates_1 (Nat.lt_of_le_of_lt p.2 (by omega)))) .nil))) ((show _ = isB (!spB R C (mf C (vals xs)) (cf (vals vs))) from isB_eq (by rw [hyl, hyv, show n = P by omega]; exact left_sp hF hvv hP hp1 hp2)))) rfl ?_
        refine nl ?_
        refine At.thn (hK17 _ _ ?_); clear hK17
        refine Tri.cond (Has.t rfl) (fun hc4 => ?_) (fun hc4 => ?_)
        · have hc4 := BP.t hc4
          have hsp : ¬ spB R C (mf C (vals xs)) (cf (vals vs)) = true := by simpa using hc4
          refine Tri.seq fun K18 hK18 => ?_
          refine Tri.region ?_
          refine st (OK1.as (Has.cWK (k := 2) (fk := zc))) rfl ?_
          refine st (OK1.as (Has.cI 10 rfl)) rfl ?_
          refine nl ?_
          refine At.thn (hK18 _ _ ?_); clear hK18
          refine Tri.ret ?_
          refine At.thr ?_
          refine rtN (.inl rfl) Try.results8 rfl rfl (.tmp (Has.t' rfl ?_) (.tmp (Has.t' rfl ?_) .nil))
          · rw [if_neg hsp]; rfl
          · exact isI_eq (by rw [if_neg hsp])
        · have hc4 := BP.f hc4
          have hsp : spB R C (mf C (vals xs)) (cf (vals vs)) = true := by simpa using hc4
          refine Tri.skip ?_
          refine At.thn (hK16 _ _ ?_); clear hK16
          refine Tri.seq fun K19 hK19 => ?_
          refine Tri.cv (Cv.freezeK (t := 7) (i := 0) (ys := (coL R C P (vals xs) (vals vs)).map nz) zc_len rfl rfl rfl (by rw [fill_len _ _ _ (by rw [List.length_map, coL_len]; omega), List.length_map, coL_len]; omega) (coL_fill hP (by omega) rfl)) ?_
          refine Tri.memEq (M' := [_]) rfl ?_
          refine Tri.cv (Cv.wk (.cons (t := 4) (Has.t rfl) (.cons (t := 5) (Has.t rfl) (.cons (t := 7) (Has.t rfl) (.cons (t := 6) (Has.t rfl) (.cons (t := 78) (Has.t rfl) (.cons (t := 79) (Has.t rfl) .nil))))))) ?_
          refine Tri.region ?_
          refine st (OK1.mv (Has.t rfl)) rfl ?_
          refine st (OK1.as (Has.t rfl)) rfl ?_
          refine st (OK1.as (Has.cI 0 rfl)) rfl ?_
          refine nl ?_
          refine At.thn (hK19 _ _ ?_); clear hK19
          refine Tri.cv (Cv.wk (.cons (t := 4) (Has.t rfl) (.cons (t := 5) (Has.t rfl) .nil))) ?_
          refine Tri.ret ?_
          refine rtN (.inl rfl) Try.results8 rfl rfl (.tmp (Has.t' rfl ?_) (.tmp (Has.t' rfl ?_) .nil))
          · exact isPl_eq (by rw [if_pos hsp])
          · exact isI_eq (by rw [if_pos hsp])
end Go.Proofs.Ytcfobfedliajdaa
/- Polynomials over the whole numbers: what the document's answers are. No program here, but the numbers' cells. -/
namespace Go.Pz
open Go.Nt Go.En
theorem same_not {a b : List Int} {i : Nat} (h : ¬ cf a i = cf b i) : decide (psub a b = []) = false := decide_eq_false fun e => h (sub_nil.1 e i)
theorem same_yes {a b : List Int} {n : Nat} (h : ∀ i, i < n → cf a i = cf b i) (ha : a.length ≤ n) (hb : b.length ≤ n) : decide (psub a b = []) = true :=
  decide_eq_true (sub_nil.2 fun i => by
    rcases Nat.lt_or_ge i n with hi | hi
    · exact h i hi
    · rw [cf_high (l := a) (by omega), cf_high (l := b) (by omega)])
/-- lists of a size that is looked at -/
def fewB (xs : List (Bool × List Nat)) (n w : Int) : Bool := (xs.take 100).all (fun p => decide ((p.2.length : Int) ≤ w)) && decide ((xs.length : Int) ≤ n)
theorem fewB_no {xs : List (Bool × List Nat)} {n w : Int} {i : Nat} (hi : i < xs.length) (h1 : i < 100) (h : ¬ ((xs.getD i (false, [])).2.length : Int) ≤ w) : fewB xs n w = false := by
  unfold fewB
  have hm : xs.getD i (false, []) ∈ xs.take 100 := by
    rw [List.getD, List.getElem?_eq_getElem hi]
    exact List.mem_take_iff_getElem.2 ⟨i, by omega, rfl⟩
  have : (xs.take 100).all (fun p => decide ((p.2.length : Int) ≤ w)) = false := by
    rw [List.all_eq_false]
    exact ⟨_, hm, by rw [decide_eq_true_eq]; exact h⟩
  rw [this]; rfl
theorem fewB_yes {xs : List (Bool × List Nat)} {n w : Int} {i : Nat} (hi : xs.length ≤ i ∨ 100 ≤ i) (h : ∀ j, j < i → ((xs.getD j (false, [])).2.length : Int) ≤ w) : fewB xs n w = decide ((xs.length : Int) ≤ n) := by
  unfold fewB
  have : (xs.take 100).all (fun p => decide ((p.2.length : Int) ≤ w)) = true := by
    rw [List.all_eq_true]
    intro p hp
    obtain ⟨j, hj, rfl⟩ := List.mem_take_iff_getElem.1 hp
    have := h j (by omega)
    rw [List.getD, List.getElem?_eq_getElem (by omega)] at this
    exact decide_eq_true this
  rw [this]; rfl
theorem fewB_bd {xs : List (Bool × List Nat)} {n w : Int} {N K : Nat} (ok : ∀ p ∈ xs, (∀ y ∈ p.2, y < 18446744073709551616) ∧ p.2.length ≤ 9223372036854775807) (h : fewB xs n w = true) (hn : n = (N : Int)) (hw : w = (K : Int)) (h1 : N ≤ 100) : xs.length ≤ N ∧ Bd (vals xs) K := by
  unfold fewB at h
  rw [Bool.and_eq_true, decide_eq_true_eq, List.all_eq_true] at h
  subst hn; subst hw
  refine ⟨by omega, fun i => ?_⟩
  rw [cf_vals, zv_nw]
  rcases Nat.lt_or_ge i xs.length with hi | hi
  · rw [List.getD, List.getElem?_eq_getElem hi]
    have h2 := h.1 xs[i] (List.mem_take_iff_getElem.2 ⟨i, by omega, rfl⟩)
    rw [decide_eq_true_eq] at h2
    exact Nat.le_trans (nw_val (ok _ (List.getElem_mem hi)).1) (by show xs[i].2.length ≤ K; omega)
  · rw [List.getD, List.getElem?_eq_none (by omega)]
    show (List.length (words (val []))) ≤ K
    rw [show val [] = 0 from rfl, words_zero]; exact Nat.zero_le _
end Go.Pz
/- Contracts: the document's answers on polynomials. -/
namespace Go.Proofs.Ytcfobfedliajdaa
open Go.En Go.RowKit
set_option linter.unusedVariables false
set_option maxRecDepth 10000
open Go.Nt
open Go.Pz
set_option maxHeartbeats 4000000 in
theorem ref10_at {xs : List (Bool × List Nat)} {i : Nat} : Ctr Try.prog 53 [SlK 2 zc xs, isI (i : Int)] (Flat (zc (xs.getD i (false, [])))) := by
  refine Ctr.intro Try.func53 rfl (by kernel_rfl) Try.ntmps53 rfl fun w0 F0 => ?_
  refine Tri.cv (Cv.wk (.cons (t := 0) (Has.t rfl) (.cons (t := 1) (Has.t rfl) .nil))) ?_
  refine Tri.fact (Has.lenLt (Has.t (t := 0) rfl)) fun lt0 => ?_
  refine Tri.fact (Has.rngI (Has.t (t := 1) rfl)) fun lt1 => ?_
  refine Tri.seq fun K1 hK1 => ?_
  refine Tri.region ?_
  refine Ops.alloc [isB false, SlM isU []] zero37 (fun _ _ => ⟨rfl, nilM _ _, trivial⟩) rfl fun b1 => ?_
  refine nl ?_
  refine At.thn (hK1 _ _ ?_); clear hK1
  refine Tri.seq fun K2 hK2 => ?_
  refine Tri.seq fun K3 hK3 => ?_
  refine Tri.region ?_
  refine st (OK1.mv (Has.t rfl)) rfl ?_
  refine st (OK1.geI (Has.t rfl) (Has.cI 0 rfl)) rfl ?_
  refine st (OK1.mv (Has.t rfl)) rfl ?_
  refine stT rfl rfl (fun hg => have hg' := BP.t hg; OK1.mv (Has.t rfl)) rfl ?_
  refine stT rfl rfl (fun hg => have hg' := BP.t hg; OK1.mv (Has.t rfl)) rfl ?_
  refine stT rfl rfl (fun hg => have hg' := BP.t hg; OK1.len sl22 (Has.g rfl hg)) rfl ?_
  refine stT rfl rfl (fun hg => have hg' := BP.t hg; OK1.ltI (Has.g rfl hg) (Has.g rfl hg)) rfl ?_
  refine st (OK1.pickAnd (Has.t rfl) (fun h => Has.g rfl h)) rfl ?_
  refine nl ?_
  refine At.thn (hK3 _ _ ?_); clear hK3
  refine Tri.cv (Cv.wk (.cons (t := 0) (Has.t rfl) (.cons (t := 1) (Has.t rfl) (.cons (t := 4) (Has.t rfl) (.cons (t := 12) (Has.t rfl) .nil))))) ?_
  refine Tri.cond (Has.t rfl) (fun hc1 => ?_) (fun hc1 => ?_)
  · have hc1 := BP.t hc1
    refine Tri.seq fun K4 hK4 => ?_
    refine Tri.region ?_
    refine st (OK1.mv (Has.t rfl)) rfl ?_
    refine st (OK1.mv (Has.t rfl)) rfl ?_
    refine st (OK1.ixK sl22 ty37 (Has.t rfl) (Has.t rfl) zc_len ⟨by omega, by omega⟩ (getD_some (d := (false, [])) (by first | omega | (simp only [Int.toNat_natCast, List.length_set]; omega)))) rfl ?_
    refine st (OK1.loadP (Has.t rfl) ty37 rfl (Ss' := [_, _]) rfl) rfl ?_
    refine Ops.store (Has.t rfl) (Has.t rfl) (i := 0) rfl ty37 rfl rfl (Ss' := [_, _]) rfl (M' := [(some _, cellM [_, _])]) rfl ?_
    refine nl ?_
    refine At.thn (hK4 _ _ ?_); clear hK4
    refine Tri.cv (Cv.wk (.cons (t := 4) (Has.t rfl) .nil)) ?_
    refine Tri.ret ?_
    refine At.thr ?_
    refine rt1 (.inl rfl) Try.results53 rfl (.cell rfl (i := 0) rfl ty37 rfl ?_ .nil)
    all_goals (rfl)
  · have hc1 := BP.f hc1
    refine Tri.skip ?_
    refine At.thn (hK2 _ _ ?_); clear hK2
    refine Tri.seq fun K5 hK5 => ?_
    refine Tri.region ?_
    refine st (OK1.call (zint_Of) (.cons (Has.cI 0 rfl) .nil)) rfl ?_
    refine Ops.store (Has.t rfl) (Has.t rfl) (i := 0) rfl ty37 rfl rfl (Ss' := [_, _]) rfl (M' := [(some _, cellM [_, _])]) rfl ?_
    refine nl ?_
    refine At.thn (hK5 _ _ ?_); clear hK5
    refine Tri.ret ?_
    refine rt1 (.inl rfl) Try.results53 rfl (.cell rfl (i := 0) rfl ty37 rfl ?_ .nil)
    all_goals (exact isZ0.symm.trans (congrArg Flat (show zc (false, []) = _ by rw [List.getD, List.getElem?_eq_none (by omega)]; rfl)))
set_option maxHeartbeats 4000000 in
theorem ref10_Same {xs ys : List (Bool × List Nat)} {K L : Nat} (hx : Bd (vals xs) K) (hy : Bd (vals ys) L) (hK : K ≤ 400000000) (hL : L ≤ 400000000) (hn : xs.length ≤ 400000) (hm : ys.length ≤ 400000) : Ctr Try.prog 30 [SlK 2 zc xs, SlK 2 zc ys] (isB (decide (psub (vals xs) (vals ys) = []))) := by
  refine Ctr.intro Try.func30 rfl (by kernel_rfl) Try.ntmps30 rfl fun w0 F0 => ?_
  refine Tri.cv (Cv.wk (.cons (t := 0) (Has.t rfl) (.cons (t := 1) (Has.t rfl) .nil))) ?_
  refine Tri.fact (Has.lenLt (Has.t (t := 0) rfl)) fun lt0 => ?_
  refine Tri.fact (Has.lenLt (Has.t (t := 1) rfl)) fun lt1 => ?_
  have hvx := vals_len xs
  have hvy := vals_len ys
  
  refine Tri.seq fun K1 hK1 => ?_
  refine Tri.region ?_
  refine st (OK1.as (Has.cB false)) rfl ?_
  refine nl ?_
  refine At.thn (hK1 _ _ ?_); clear hK1
  refine Tri.seq fun K2 hK2 => ?_
  refine Tri.seq fun K3 hK3 => ?_
  refine Tri.region ?_
  refine st (OK1.as (Has.cI 0 rfl)) rfl ?_
  refine nl ?_
  refine At.thn (hK3 _ _ ?_); clear hK3
  refine Tri.block ?_
  refine Tri.loopF [0, 1] (fun (z : { i : Nat // i ≤ max xs.length ys.length ∧ ∀ j, j < i → cf (vals xs) j = cf (vals ys) j }) => match z with | ⟨i, hi⟩ => [(5, isI (i : Int))]) (fun M => fun (z : { i : Nat // i ≤ max xs.length ys.length ∧ ∀ j, j < i → cf (vals xs) j = cf (vals ys) j }) => match z with | ⟨i, hi⟩ => []) (fun (z : { i : Nat // i ≤ max xs.length ys.length ∧ ∀ j, j < i → cf (vals xs) j = cf (vals ys) j }) => match z with | ⟨i, hi⟩ => max xs.length ys.length - i) (⟨0, Nat.zero_le _, fun j h => absurd h (Nat.not_lt_zero _)⟩) (Cv.mem (.cons (t := 5) (Has.t' rfl ?_) (.cons (t := 0) (Has.t rfl) (.cons (t := 1) (Has.t rfl) .nil))) ?_) ?_
  · rfl
  · rfl
  rintro ⟨i, hi, hj⟩ K4 hK4
  refine Tri.cv (Cv.wk (.cons (t := 5) (Has.t rfl) (.cons (t := 0) (Has.t rfl) (.cons (t := 1) (Has.t rfl) .nil)))) ?_
  refine Tri.memEq (M' := []) rfl ?_
  refine Tri.seq fun K5 hK5 => ?_
  refine Tri.seq fun K6 hK6 => ?_
  refine Tri.region ?_
  refine st (OK1.mv (Has.t rfl)) rfl ?_
  refine st (OK1.mv (Has.t rfl)) rfl ?_
  refine st (OK1.len sl22 (Has.t rfl)) rfl ?_
  refine st (OK1.ltI (Has.t rfl) (Has.t rfl)) rfl ?_
  refine st (OK1.mv (Has.t rfl)) rfl ?_
  refine stF rfl rfl (fun hg => have hg' := BP.t hg; OK1.mv (Has.t rfl)) rfl ?_
  refine stF rfl rfl (fun hg => have hg' := BP.t hg; OK1.mv (Has.t rfl)) rfl ?_
  refine stF rfl rfl (fun hg => have hg' := BP.t hg; OK1.len sl22 (Has.g rfl hg)) rfl ?_
  refine stF rfl rfl (fun hg => have hg' := BP.t hg; OK1.ltI (Has.g rfl hg) (Has.g rfl hg)) rfl ?_
  refine st (OK1.pickOr (Has.t rfl) (fun h => Has.g rfl (ng h))) rfl ?_
  refine nl ?_
  refine At.thn (hK6 _ _ ?_); clear hK6
  refine Tri.cond (Has.t rfl) (fun hc1 => ?_) (fun hc1 => ?_)
  · have hc1 := BP.t hc1
    refine Tri.skip ?_
    refine At.thn (hK5 _ _ ?_); clear hK5
    refine Tri.seq fun K7 hK7 => ?_
    refine Tri.block ?_
    refine Tri.seq fun K8 hK8 => ?_
    refine Tri.region ?_
    refine st (OK1.mv (Has.t rfl)) rfl ?_
    refine st (OK1.mv (Has.t rfl)) rfl ?_
    refine st (OK1.call (ref10_at) (.cons (Has.t rfl) (.cons (Has.t rfl) .nil))) rfl ?_
    refine st (OK1.mv (Has.t rfl)) rfl ?_
    refine st (OK1.mv (Has.t rfl)) rfl ?_
    refine st (OK1.call (ref10_at) (.cons (Has.t rfl) (.cons (Has.t rfl) .nil))) rfl ?_
    refine st (OK1.eq (OK1.call (zint_Same (by have := hx.raw i; omega) (by have := hy.raw i; omega)) (.cons (Has.t rfl) (.cons (Has.t rfl) .nil))) ((show isB _ = isB (decide (cf (vals xs) i = cf (vals ys) i)) from isB_eq (by rw [cf_vals, cf_vals])))) rfl ?_
    refine st (OK1.not (Has.t rfl)) rfl ?_
    refine nl ?_
    refine At.thn (hK8 _ _ ?_); clear hK8
    refine Tri.cond (Has.t rfl) (fun hc2 => ?_) (fun hc2 => ?_)
    · have hc2 := BP.t hc2
      have hNe : ¬ cf (vals xs) i = cf (vals ys) i := (by simpa using hc2)
      refine Tri.seq fun K9 hK9 => ?_
      refine Tri.region ?_
      refine st (OK1.as (Has.cB false)) rfl ?_
      refine nl ?_
      refine At.thn (hK9 _ _ ?_); clear hK9
      refine Tri.ret ?_
      refine At.blr ?_
      refine At.thr ?_
      refine At.thr ?_
      refine At.blr ?_
      refine At.thr ?_
      refine rt1 (.inl rfl) Try.results30 rfl (.tmp (Has.t' rfl ?_) .nil)
      all_goals (exact isB_eq (same_not hNe).symm)
    · have hc2 := BP.f hc2
      have hEq : cf (vals xs) i = cf (vals ys) i := (by simpa using hc2)
      refine Tri.skip ?_
      refine At.bln ?_
      refine At.thn (hK7 _ _ ?_); clear hK7
      refine Tri.region ?_
      refine st (OK1.mv (Has.t rfl)) rfl ?_
      refine st (OK1.addI (Has.t rfl) (Has.cI 1 rfl) (by first | omega | assumption) (by first | omega | assumption)) rfl ?_
      refine st (OK1.as (Has.t rfl)) rfl ?_
      refine nl ?_
      refine At.thn ?_
      refine hK4 (⟨i + 1, by omega, fun j h => by rcases Nat.lt_or_ge j i with h2 | h2; exact hj j h2; rw [show j = i by omega]; exact hEq⟩) _ _ ?_ (Cv.mem (.cons (t := 5) (Has.t' rfl ?_) (.cons (t := 0) (Has.t rfl) (.cons (t := 1) (Has.t rfl) .nil))) ?_)
      · show max xs.length ys.length - (i + 1) < max xs.length ys.length - i; omega
      · exact isI_eq (by omega)
      · rfl
  · have hc1 := BP.f hc1
    refine Tri.exit ?_
    refine At.the ?_
    refine At.the ?_
    refine At.blh ?_
    refine At.thn (hK2 _ _ ?_); clear hK2
    refine Tri.cv (Cv.wk .nil) ?_
    refine Tri.seq fun K10 hK10 => ?_
    refine Tri.region ?_
    refine st (OK1.as (Has.cB true)) rfl ?_
    refine nl ?_
    refine At.thn (hK10 _ _ ?_); clear hK10
    refine Tri.ret ?_
    refine rt1 (.inl rfl) Try.results30 rfl (.tmp (Has.t' rfl ?_) .nil)
    all_goals (exact isB_eq (same_yes hj (by omega) (by omega)).symm)
set_option maxHeartbeats 4000000 in
theorem ref10_Few {xs : List (Bool × List Nat)} {n w : Int} : Ctr Try.prog 17 [SlK 2 zc xs, isI n, isI w] (isB (fewB xs n w)) := by
  refine Ctr.intro Try.func17 rfl (by kernel_rfl) Try.ntmps17 rfl fun w0 F0 => ?_
  refine Tri.cv (Cv.wk (.cons (t := 0) (Has.t rfl) (.cons (t := 1) (Has.t rfl) (.cons (t := 2) (Has.t rfl) .nil)))) ?_
  refine Tri.fact (Has.lenLt (Has.t (t := 0) rfl)) fun lt0 => ?_
  refine Tri.fact (Has.rngI (Has.t (t := 1) rfl)) fun lt1 => ?_
  refine Tri.fact (Has.rngI (Has.t (t := 2) rfl)) fun lt2 => ?_
  refine Tri.seq fun K1 hK1 => ?_
  refine Tri.region ?_
  refine st (OK1.as (Has.cB false)) rfl ?_
  refine nl ?_
  refine At.thn (hK1 _ _ ?_); clear hK1
  refine Tri.seq fun K2 hK2 => ?_
  refine Tri.seq fun K3 hK3 => ?_
  refine Tri.region ?_
  refine st (OK1.as (Has.cI 0 rfl)) rfl ?_
  refine nl ?_
  refine At.thn (hK3 _ _ ?_); clear hK3
  refine Tri.block ?_
  refine Tri.loopF [0, 1, 2] (fun (z : { i : Nat // i ≤ xs.length ∧ i ≤ 100 ∧ ∀ j, j < i → ((xs.getD j (false, [])).2.length : Int) ≤ w }) => match z with | ⟨i, hi⟩ => [(7, isI (i : Int))]) (fun M => fun (z : { i : Nat // i ≤ xs.length ∧ i ≤ 100 ∧ ∀ j, j < i → ((xs.getD j (false, [])).2.length : Int) ≤ w }) => match z with | ⟨i, hi⟩ => []) (fun (z : { i : Nat // i ≤ xs.length ∧ i ≤ 100 ∧ ∀ j, j < i → ((xs.getD j (false, [])).2.length : Int) ≤ w }) => match z with | ⟨i, hi⟩ => xs.length - i) (⟨0, Nat.zero_le _, by omega, fun j h => absurd h (Nat.not_lt_zero _)⟩) (Cv.mem (.cons (t := 7) (Has.t' rfl ?_) (.cons (t := 0) (Has.t rfl) (.cons (t := 1) (Has.t rfl) (.cons (t := 2) (Has.t rfl) .nil)))) ?_) ?_
  · rfl
  · rfl
  rintro ⟨i, hi, h1, hj⟩ K4 hK4
  refine Tri.cv (Cv.wk (.cons (t := 7) (Has.t rfl) (.cons (t := 0) (Has.t rfl) (.cons (t := 1) (Has.t rfl) (.cons (t := 2) (Has.t rfl) .nil))))) ?_
  refine Tri.memEq (M' := []) rfl ?_
  refine Tri.seq fun K5 hK5 => ?_
  refine Tri.seq fun K6 hK6 => ?_
  refine Tri.region ?_
  refine st (OK1.mv (Has.t rfl)) rfl ?_
  refine st (OK1.mv (Has.t rfl)) rfl ?_
  refine st (OK1.len sl22 (Has.t rfl)) rfl ?_
  refine st (OK1.ltI (Has.t rfl) (Has.t rfl)) rfl ?_
  refine st (OK1.mv (Has.t rfl)) rfl ?_
  refine stT rfl rfl (fun hg => have hg' := BP.t hg; OK1.mv (Has.t rfl)) rfl ?_
  refine stT rfl rfl (fun hg => have hg' := BP.t hg; OK1.ltI (Has.g rfl hg) (Has.cI 100 rfl)) rfl ?_
  refine st (OK1.pickAnd (Has.t rfl) (fun h => Has.g rfl h)) rfl ?_
  refine nl ?_
  refine At.thn (hK6 _ _ ?_); clear hK6
  refine Tri.cond (Has.t rfl) (fun hc1 => ?_) (fun hc1 => ?_)
  · have hc1 := BP.t hc1
    refine Tri.skip ?_
    refine At.thn (hK5 _ _ ?_); clear hK5
    refine Tri.seq fun K7 hK7 => ?_
    refine Tri.block ?_
    refine Tri.seq fun K8 hK8 => ?_
    refine Tri.region ?_
    refine st (OK1.mv (Has.t rfl)) rfl ?_
    refine st (OK1.mv (Has.t rfl)) rfl ?_
    refine st (OK1.ixK sl22 ty37 (Has.t rfl) (Has.t rfl) zc_len ⟨by omega, by omega⟩ (getD_some (d := (false, [])) (by first | omega | (simp only [Int.toNat_natCast, List.length_set]; omega)))) rfl ?_
    refine st (OK1.fieldAddrP (Has.t rfl) fld37_1 ty35 (Ss' := [_]) rfl) rfl ?_
    refine st (OK1.loadP1 (Has.t rfl) ty35) rfl ?_
    refine st (OK1.len sl35 (Has.t rfl)) rfl ?_
    refine st (OK1.mv (Has.t rfl)) rfl ?_
    refine st (OK1.gtI (Has.t rfl) (Has.t rfl)) rfl ?_
    refine nl ?_
    refine At.thn (hK8 _ _ ?_); clear hK8
    refine Tri.cond (Has.t rfl) (fun hc2 => ?_) (fun hc2 => ?_)
    · have hc2 := BP.t hc2
      have hNo : ¬ ((xs.getD i (false, [])).2.length : Int) ≤ w := (by simp only [Int.toNat_natCast] at hc2; omega)
      refine Tri.seq fun K9 hK9 => ?_
      refine Tri.region ?_
      refine st (OK1.as (Has.cB false)) rfl ?_
      refine nl ?_
      refine At.thn (hK9 _ _ ?_); clear hK9
      refine Tri.ret ?_
      refine At.blr ?_
      refine At.thr ?_
      refine At.thr ?_
      refine At.blr ?_
      refine At.thr ?_
      refine rt1 (.inl rfl) Try.results17 rfl (.tmp (Has.t' rfl ?_) .nil)
      all_goals (exact isB_eq (fewB_no (by omega) (by omega) hNo).symm)
    · have hc2 := BP.f hc2
      have hLe : ((xs.getD i (false, [])).2.length : Int) ≤ w := (by simp only [Int.toNat_natCast] at hc2; omega)
      refine Tri.skip ?_
      refine At.bln ?_
      refine At.thn (hK7 _ _ ?_); clear hK7
      refine Tri.region ?_
      refine st (OK1.mv (Has.t rfl)) rfl ?_
      refine st (OK1.addI (Has.t rfl) (Has.cI 1 rfl) (by first | omega | assumption) (by first | omega | assumption)) rfl ?_
      refine st (OK1.as (Has.t rfl)) rfl ?_
      refine nl ?_
      refine At.thn ?_
      refine hK4 (⟨i + 1, by omega, by omega, fun j h => by rcases Nat.lt_or_ge j i with h2 | h2; exact hj j h2; rw [show j = i by omega]; exact hLe⟩) _ _ ?_ (Cv.mem (.cons (t := 7) (Has.t' rfl ?_) (.cons (t := 0) (Has.t rfl) (.cons (t := 1) (Has.t rfl) (.cons (t := 2) (Has.t rfl) .nil)))) ?_)
      · show xs.length - (i + 1) < xs.length - i; omega
      · exact isI_eq (by omega)
      · rfl
  · have hc1 := BP.f hc1
    refine Tri.exit ?_
    refine At.the ?_
    refine At.the ?_
    refine At.blh ?_
    refine At.thn (hK2 _ _ ?_); clear hK2
    refine Tri.cv (Cv.wk (.cons (t := 0) (Has.t rfl) (.cons (t := 1) (Has.t rfl) .nil))) ?_
    refine Tri.seq fun K10 hK10 => ?_
    refine Tri.region ?_
    refine st (OK1.mv (Has.t rfl)) rfl ?_
    refine st (OK1.len sl22 (Has.t rfl)) rfl ?_
    refine st (OK1.mv (Has.t rfl)) rfl ?_
    refine st (OK1.leI (Has.t rfl) (Has.t rfl)) rfl ?_
    refine st (OK1.as (Has.t rfl)) rfl ?_
    refine nl ?_
    refine At.thn (hK10 _ _ ?_); clear hK10
    refine Tri.cv (Cv.wk (.cons (t := 6) (Has.t rfl) .nil)) ?_
    refine Tri.ret ?_
    refine rt1 (.inl rfl) Try.results17 rfl (.tmp (Has.t' rfl ?_) .nil)
    all_goals (exact isB_eq (fewB_yes (by omega) hj).symm)
end Go.Proofs.Ytcfobfedliajdaa
/- Contracts: the document's matrices. -/
namespace Go.Proofs.Ytcfobfedliajdaa
open Go.En Go.RowKit
set_option linter.unusedVariables false
set_option maxRecDepth 10000
open Go.Nt
open Go.Pz
open Go.Mz
open Go.Dt
set_option maxHeartbeats 4000000 in
theorem ref11_Formed {r c : Int} {xs : List (Bool × List Nat)} : Ctr Try.prog 6 [isM r c xs] (isB (formB r c xs.length)) := by
  refine Ctr.intro Try.func6 rfl (by kernel_rfl) Try.ntmps6 rfl fun w0 F0 => ?_
  refine Tri.cv (Cv.wk (.cons (t := 0) (Has.t rfl) .nil)) ?_
  refine Tri.seq fun K1 hK1 => ?_
  refine Tri.region ?_
  refine Ops.box (Has.t rfl) rfl fun b1 => ?_
  refine st (OK1.as (Has.cB false)) rfl ?_
  refine nl ?_
  refine At.thn (hK1 _ _ ?_); clear hK1
  refine Tri.seq fun K2 hK2 => ?_
  refine Tri.region ?_
  refine st (OK1.fieldAddr (Has.t rfl) fld24_0 ty3) rfl ?_
  refine st (OK1.load1 (Has.t rfl) (i := 0) rfl ty3 rfl) rfl ?_
  refine st (OK1.geI (Has.t rfl) (Has.cI 0 rfl)) rfl ?_
  refine st (OK1.mv (Has.t rfl)) rfl ?_
  refine stT rfl rfl (fun hg => have hg' := BP.t hg; OK1.fieldAddr (Has.t rfl) fld24_0 ty3) rfl ?_
  refine stT rfl rfl (fun hg => have hg' := BP.t hg; OK1.load1 (Has.g rfl hg) (i := 0) rfl ty3 rfl) rfl ?_
  refine stT rfl rfl (fun hg => have hg' := BP.t hg; OK1.leI (Has.g rfl hg) (Has.cI 64 rfl)) rfl ?_
  refine st (OK1.pickAnd (Has.t rfl) (fun h => Has.g rfl h)) rfl ?_
  refine st (OK1.mv (Has.t rfl)) rfl ?_
  refine stT rfl rfl (fun hg => have hg' := BP.t hg; OK1.fieldAddr (Has.t rfl) fld24_1 ty3) rfl ?_
  refine stT rfl rfl (fun hg => have hg' := BP.t hg; OK1.load1 (Has.g rfl hg) (i := 0) rfl ty3 rfl) rfl ?_
  refine stT rfl rfl (fun hg => have hg' := BP.t hg; OK1.geI (Has.g rfl hg) (Has.cI 0 rfl)) rfl ?_
  refine st (OK1.pickAnd (Has.t rfl) (fun h => Has.g rfl h)) rfl ?_
  refine st (OK1.mv (Has.t rfl)) rfl ?_
  refine stT rfl rfl (fun hg => have hg' := BP.t hg; OK1.fieldAddr (Has.t rfl) fld24_1 ty3) rfl ?_
  refine stT rfl rfl (fun hg => have hg' := BP.t hg; OK1.load1 (Has.g rfl hg) (i := 0) rfl ty3 rfl) rfl ?_
  refine stT rfl rfl (fun hg => have hg' := BP.t hg; OK1.leI (Has.g rfl hg) (Has.cI 64 rfl)) rfl ?_
  refine st (OK1.pickAnd (Has.t rfl) (fun h => Has.g rfl h)) rfl ?_
  refine st (OK1.mv (Has.t rfl)) rfl ?_
  refine stT rfl rfl (fun hg => have hg' := BP.t hg; OK1.fieldAddr (Has.t rfl) fld24_2 ty22) rfl ?_
  refine stT rfl rfl (fun hg => have hg' := BP.t hg; OK1.load1 (Has.g rfl hg) (i := 0) rfl ty22 rfl) rfl ?_
  refine stT rfl rfl (fun hg => have hg' := BP.t hg; OK1.len sl22 (Has.g rfl hg)) rfl ?_
  refine stT rfl rfl (fun hg => have hg' := BP.t hg; OK1.fieldAddr (Has.t rfl) fld24_0 ty3) rfl ?_
  refine stT rfl rfl (fun hg => have hg' := BP.t hg; OK1.load1 (Has.g rfl hg) (i := 0) rfl ty3 rfl) rfl ?_
  refine stT rfl rfl (fun hg => have hg' := BP.t hg; OK1.fieldAddr (Has.t rfl) fld24_1 ty3) rfl ?_
  refine stT rfl rfl (fun hg => have hg' := BP.t hg; OK1.load1 (Has.g rfl hg) (i := 0) rfl ty3 rfl) rfl ?_
  refine stT rfl rfl (fun hg => have hg' := BP.t hg; OK1.mulI (Has.g rfl hg) (Has.g rfl hg) (by have := mul_bnd ⟨⟨hg'.1.1.1, hg'.1.1.2⟩, hg'.1.2, hg'.2⟩; omega) (by have := mul_bnd ⟨⟨hg'.1.1.1, hg'.1.1.2⟩, hg'.1.2, hg'.2⟩; omega)) rfl ?_
  refine stT rfl rfl (fun hg => have hg' := BP.t hg; OK1.eqI (Has.g rfl hg) (Has.g rfl hg)) rfl ?_
  refine st (OK1.pickAnd (Has.t rfl) (fun h => Has.g rfl h)) rfl ?_
  refine st (OK1.as (Has.t rfl)) rfl ?_
  refine nl ?_
  refine At.thn (hK2 _ _ ?_); clear hK2
  refine Tri.cv (Cv.wk (.cons (t := 2) (Has.t rfl) .nil)) ?_
  refine Tri.ret ?_
  refine rt1 (.inl rfl) Try.results6 rfl (.tmp (Has.t' rfl ?_) .nil)
  all_goals (exact isB_eq (by unfold formB; simp only [Bool.and_assoc]))
set_option maxHeartbeats 4000000 in
theorem ref11_At {r : Int} {C i k : Nat} {xs : List (Bool × List Nat)} (hx : xs.length ≤ 4096) (hl : i * C + k < xs.length) : Ctr Try.prog 40 [isM r (C : Int) xs, isI (i : Int), isI (k : Int)] (Flat (zc (xs.getD (i * C + k) (false, [])))) := by
  refine Ctr.intro Try.func40 rfl (by kernel_rfl) Try.ntmps40 rfl fun w0 F0 => ?_
  refine Tri.cv (Cv.wk (.cons (t := 0) (Has.t rfl) (.cons (t := 1) (Has.t rfl) (.cons (t := 2) (Has.t rfl) .nil)))) ?_
  refine Tri.fact (Has.rngI (Has.t (t := 1) rfl)) fun lt1 => ?_
  refine Tri.fact (Has.rngI (Has.t (t := 2) rfl)) fun lt2 => ?_
  have hcp : ((i : Int) * (C : Int)) = ((i * C : Nat) : Int) := (Int.natCast_mul i C).symm
  refine Tri.seq fun K1 hK1 => ?_
  refine Tri.region ?_
  refine Ops.box (Has.t rfl) rfl fun b1 => ?_
  refine Ops.alloc [isB false, SlM isU []] zero37 (fun _ _ => ⟨rfl, nilM _ _, trivial⟩) rfl fun b2 => ?_
  refine nl ?_
  refine At.thn (hK1 _ _ ?_); clear hK1
  refine Tri.seq fun K2 hK2 => ?_
  refine Tri.region ?_
  refine st (OK1.fieldAddr (Has.t rfl) fld24_2 ty22) rfl ?_
  refine st (OK1.load1 (Has.t rfl) (i := 1) rfl ty22 rfl) rfl ?_
  refine st (OK1.mv (Has.t rfl)) rfl ?_
  refine st (OK1.fieldAddr (Has.t rfl) fld24_1 ty3) rfl ?_
  refine st (OK1.load1 (Has.t rfl) (i := 1) rfl ty3 rfl) rfl ?_
  refine st (OK1.eq (OK1.mulI (Has.t rfl) (Has.t rfl) (by first | omega | (rw [hcp]; omega)) (by first | omega | (rw [hcp]; omega))) ((show isI _ = isI ((i * C : Nat) : Int) from isI_eq hcp))) rfl ?_
  refine st (OK1.mv (Has.t rfl)) rfl ?_
  refine st (OK1.eq (OK1.addI (Has.t rfl) (Has.t rfl) (by first | omega | (rw [hcp]; omega)) (by first | omega | (rw [hcp]; omega))) ((show isI _ = isI ((i * C + k : Nat) : Int) from isI_eq (by omega)))) rfl ?_
  refine st (OK1.ixK sl22 ty37 (Has.t rfl) (Has.t rfl) zc_len ⟨by omega, by omega⟩ (getD_some (d := (false, [])) (by first | omega | (simp only [Int.toNat_natCast, List.length_set]; omega)))) rfl ?_
  refine st (OK1.loadP (Has.t rfl) ty37 rfl (Ss' := [_, _]) rfl) rfl ?_
  refine Ops.store (Has.t rfl) (Has.t rfl) (i := 0) rfl ty37 rfl rfl (Ss' := [_, _]) rfl (M' := [(some _, cellM [_, _]), _]) rfl ?_
  refine nl ?_
  refine At.thn (hK2 _ _ ?_); clear hK2
  refine Tri.cv (Cv.wk (.cons (t := 6) (Has.t rfl) .nil)) ?_
  refine Tri.ret ?_
  refine rt1 (.inl rfl) Try.results40 rfl (.cell rfl (i := 0) rfl ty37 rfl ?_ .nil)
  all_goals (rfl)
set_option maxHeartbeats 4000000 in
theorem ref11_Few {r c n w : Int} {xs : List (Bool × List Nat)} : Ctr Try.prog 5 [isM r c xs, isI n, isI w] (isB (decide (r ≤ n) && decide (c ≤ n) && fewB xs 100 w)) := by
  refine Ctr.intro Try.func5 rfl (by kernel_rfl) Try.ntmps5 rfl fun w0 F0 => ?_
  refine Tri.cv (Cv.wk (.cons (t := 0) (Has.t rfl) (.cons (t := 1) (Has.t rfl) (.cons (t := 2) (Has.t rfl) .nil)))) ?_
  refine Tri.fact (Has.rngI (Has.t (t := 1) rfl)) fun lt1 => ?_
  refine Tri.fact (Has.rngI (Has.t (t := 2) rfl)) fun lt2 => ?_
  refine Tri.seq fun K1 hK1 => ?_
  refine Tri.region ?_
  refine Ops.box (Has.t rfl) rfl fun b1 => ?_
  refine st (OK1.as (Has.cB false)) rfl ?_
  refine nl ?_
  refine At.thn (hK1 _ _ ?_); clear hK1
  refine Tri.seq fun K2 hK2 => ?_
  refine Tri.region ?_
  refine st (OK1.fieldAddr (Has.t rfl) fld24_0 ty3) rfl ?_
  refine st (OK1.load1 (Has.t rfl) (i := 0) rfl ty3 rfl) rfl ?_
  refine st (OK1.mv (Has.t rfl)) rfl ?_
  refine st (OK1.leI (Has.t rfl) (Has.t rfl)) rfl ?_
  refine st (OK1.mv (Has.t rfl)) rfl ?_
  refine stT rfl rfl (fun hg => have hg' := BP.t hg; OK1.fieldAddr (Has.t rfl) fld24_1 ty3) rfl ?_
  refine stT rfl rfl (fun hg => have hg' := BP.t hg; OK1.load1 (Has.g rfl hg) (i := 0) rfl ty3 rfl) rfl ?_
  refine stT rfl rfl (fun hg => have hg' := BP.t hg; OK1.mv (Has.t rfl)) rfl ?_
  refine stT rfl rfl (fun hg => have hg' := BP.t hg; OK1.leI (Has.g rfl hg) (Has.g rfl hg)) rfl ?_
  refine st (OK1.pickAnd (Has.t rfl) (fun h => Has.g rfl h)) rfl ?_
  refine st (OK1.mv (Has.t rfl)) rfl ?_
  refine stT rfl rfl (fun hg => have hg' := BP.t hg; OK1.fieldAddr (Has.t rfl) fld24_2 ty22) rfl ?_
  refine stT rfl rfl (fun hg => have hg' := BP.t hg; OK1.load1 (Has.g rfl hg) (i := 0) rfl ty22 rfl) rfl ?_
  refine stT rfl rfl (fun hg => have hg' := BP.t hg; OK1.mv (Has.t rfl)) rfl ?_
  refine stT rfl rfl (fun hg => have hg' := BP.t hg; OK1.call (ref10_Few) (.cons (Has.g rfl hg) (.cons (Has.cI 100 rfl) (.cons (Has.g rfl hg) .nil)))) rfl ?_
  refine st (OK1.pickAnd (Has.t rfl) (fun h => Has.g rfl h)) rfl ?_
  refine st (OK1.as (Has.t rfl)) rfl ?_
  refine nl ?_
  refine At.thn (hK2 _ _ ?_); clear hK2
  refine Tri.cv (Cv.wk (.cons (t := 6) (Has.t rfl) .nil)) ?_
  refine Tri.ret ?_
  refine rt1 (.inl rfl) Try.results5 rfl (.tmp (Has.t' rfl ?_) .nil)
  all_goals (rfl)
end Go.Proofs.Ytcfobfedliajdaa
/- Contracts: the document's answers on matrices. -/
namespace Go.Proofs.Ytcfobfedliajdaa
open Go.En Go.RowKit
set_option linter.unusedVariables false
set_option maxRecDepth 10000
open Go.Nt
open Go.Pz
open Go.Mz
open Go.Hn
open Go.Hp
open Go.Dt
set_option maxHeartbeats 4000000 in
theorem ref11_Mul {R C D K N : Nat} {xs ys : List (Bool × List Nat)} (hx : Bd (vals xs) K) (hy : Bd (vals ys) N) (hK : K + N ≤ 400000000) (hR : R ≤ 64) (hC : C ≤ 64) (hD : D ≤ 64) (hxl : xs.length = R * C) (hyl : ys.length = C * D) : Ctr Try.prog 31 [isM (R : Int) (C : Int) xs, isM (C : Int) (D : Int) ys] (isP (tab (R * D) D fun i k => dotS (fun j => cf (vals xs) (i * C + j)) (fun j => cf (vals ys) (j * D + k)) C)) := by
  refine Ctr.intro Try.func31 rfl (by kernel_rfl) Try.ntmps31 rfl fun w0 F0 => ?_
  refine Tri.cv (Cv.wk (.cons (t := 0) (Has.t rfl) (.cons (t := 1) (Has.t rfl) .nil))) ?_
  have h1 := side_le hR hC
  have h2 := side_le hC hD
  have h3 := side_le hR hD
  obtain ⟨G, hG⟩ : ∃ G : Nat → Nat → Int, G = fun i k => dotS (fun j => cf (vals xs) (i * C + j)) (fun j => cf (vals ys) (j * D + k)) C := ⟨_, rfl⟩
  rw [← hG]
  refine Tri.seq fun K1 hK1 => ?_
  refine Tri.region ?_
  refine Ops.box (Has.t rfl) rfl fun b1 => ?_
  refine Ops.box (Has.t rfl) rfl fun b2 => ?_
  refine st (OK1.as (Has.cWK (k := 2) (fk := zc))) rfl ?_
  refine nl ?_
  refine At.thn (hK1 _ _ ?_); clear hK1
  refine Tri.seq fun K2 hK2 => ?_
  refine Tri.region ?_
  refine Ops.cv (Cv.grow0K (α := Bool × List Nat) zc) ?_
  refine st (OK1.as (Has.cGr (α := Bool × List Nat))) rfl ?_
  refine nl ?_
  refine At.thn (hK2 _ _ ?_); clear hK2
  refine Tri.seq fun K3 hK3 => ?_
  refine Tri.seq fun K4 hK4 => ?_
  refine Tri.region ?_
  refine st (OK1.as (Has.cI 0 rfl)) rfl ?_
  refine nl ?_
  refine At.thn (hK4 _ _ ?_); clear hK4
  refine Tri.block ?_
  refine Tri.loopF [2, 3, 4] (fun (z : { z : Nat × Gr (Bool × List Nat) // z.1 ≤ R }) => match z with | ⟨(i, g), hI⟩ => [(6, isI (i : Int)), (5, isGr g ((tab (i * D + 0) D G).map nz).length)]) (fun M => fun (z : { z : Nat × Gr (Bool × List Nat) // z.1 ≤ R }) => match z with | ⟨(i, g), hI⟩ => [grMK zc g ((tab (i * D + 0) D G).map nz), (some b2, cellM [isI (C : Int), isI (D : Int), SlK 2 zc ys]), (some b1, cellM [isI (R : Int), isI (C : Int), SlK 2 zc xs])]) (fun (z : { z : Nat × Gr (Bool × List Nat) // z.1 ≤ R }) => match z with | ⟨(i, g), hI⟩ => R - i) (⟨(0, Gr.nil), Nat.zero_le _⟩) (Cv.mem (.cons (t := 6) (Has.t' rfl ?_) (.cons (t := 5) (Has.t' rfl ?_) (.cons (t := 2) (Has.t rfl) (.cons (t := 3) (Has.t rfl) (.cons (t := 4) (Has.t rfl) .nil))))) ?_) ?_
  · rfl
  · exact isGr_eq (by rw [List.length_map, tab_len, Nat.zero_mul])
  · exact grMK_eq (show [] = (tab (0 * D + 0) D G).map nz by rw [Nat.zero_mul]; rfl)
  rintro ⟨⟨i, g⟩, hI⟩ K5 hK5
  refine Tri.cv (Cv.wk (.cons (t := 6) (Has.t rfl) (.cons (t := 5) (Has.t rfl) (.cons (t := 2) (Has.t rfl) (.cons (t := 3) (Has.t rfl) (.cons (t := 4) (Has.t rfl) .nil)))))) ?_
  refine Tri.memEq (M' := [grMK zc g ((tab (i * D + 0) D G).map nz), (some b2, cellM [isI (C : Int), isI (D : Int), SlK 2 zc ys]), (some b1, cellM [isI (R : Int), isI (C : Int), SlK 2 zc xs])]) rfl ?_
  simp only [] at hI
  refine Tri.seq fun K6 hK6 => ?_
  refine Tri.seq fun K7 hK7 => ?_
  refine Tri.region ?_
  refine st (OK1.mv (Has.t rfl)) rfl ?_
  refine st (OK1.fieldAddr (Has.t rfl) fld24_0 ty3) rfl ?_
  refine st (OK1.load1 (Has.t rfl) (i := 2) rfl ty3 rfl) rfl ?_
  refine st (OK1.ltI (Has.t rfl) (Has.t rfl)) rfl ?_
  refine nl ?_
  refine At.thn (hK7 _ _ ?_); clear hK7
  refine Tri.cond (Has.t rfl) (fun hc1 => ?_) (fun hc1 => ?_)
  · have hc1 := BP.t hc1
    refine Tri.skip ?_
    refine At.thn (hK6 _ _ ?_); clear hK6
    refine Tri.seq fun K8 hK8 => ?_
    refine Tri.block ?_
    refine Tri.seq fun K9 hK9 => ?_
    refine Tri.region ?_
    refine st (OK1.as (Has.cI 0 rfl)) rfl ?_
    refine nl ?_
    refine At.thn (hK9 _ _ ?_); clear hK9
    refine Tri.block ?_
    refine Tri.loopF [2, 3, 4, 6, 10, 11, 12, 13] (fun (z : { z : Nat × Gr (Bool × List Nat) // z.1 ≤ D }) => match z with | ⟨(k, g2), hK2⟩ => [(7, isI (k : Int)), (5, isGr g2 ((tab (i * D + k) D G).map nz).length)]) (fun M => fun (z : { z : Nat × Gr (Bool × List Nat) // z.1 ≤ D }) => match z with | ⟨(k, g2), hK2⟩ => [grMK zc g2 ((tab (i * D + k) D G).map nz), (some b2, cellM [isI (C : Int), isI (D : Int), SlK 2 zc ys]), (some b1, cellM [isI (R : Int), isI (C : Int), SlK 2 zc xs])]) (fun (z : { z : Nat × Gr (Bool × List Nat) // z.1 ≤ D }) => match z with | ⟨(k, g2), hK2⟩ => D - k) (⟨(0, g), Nat.zero_le _⟩) (Cv.mem (.cons (t := 7) (Has.t' rfl ?_) (.cons (t := 5) (Has.t' rfl ?_) (.cons (t := 2) (Has.t rfl) (.cons (t := 3) (Has.t rfl) (.cons (t := 4) (Has.t rfl) (.cons (t := 6) (Has.t rfl) (.cons (t := 10) (Has.t rfl) (.cons (t := 11) (Has.t rfl) (.cons (t := 12) (Has.t rfl) (.cons (t := 13) (Has.t rfl) .nil)))))))))) ?_) ?_
    · rfl
    · rfl
    · rfl
    rintro ⟨⟨k, g2⟩, hK2⟩ K10 hK10
    refine Tri.cv (Cv.wk (.cons (t := 7) (Has.t rfl) (.cons (t := 5) (Has.t rfl) (.cons (t := 2) (Has.t rfl) (.cons (t := 3) (Has.t rfl) (.cons (t := 4) (Has.t rfl) (.cons (t := 6) (Has.t rfl) (.cons (t := 10) (Has.t rfl) (.cons (t := 11) (Has.t rfl) (.cons (t := 12) (Has.t rfl) (.cons (t := 13) (Has.t rfl) .nil))))))))))) ?_
    refine Tri.memEq (M' := [grMK zc g2 ((tab (i * D + k) D G).map nz), (some b2, cellM [isI (C : Int), isI (D : Int), SlK 2 zc ys]), (some b1, cellM [isI (R : Int), isI (C : Int), SlK 2 zc xs])]) rfl ?_
    simp only [] at hK2
    refine Tri.seq fun K11 hK11 => ?_
    refine Tri.seq fun K12 hK12 => ?_
    refine Tri.region ?_
    refine st (OK1.mv (Has.t rfl)) rfl ?_
    refine st (OK1.fieldAddr (Has.t rfl) fld24_1 ty3) rfl ?_
    refine st (OK1.load1 (Has.t rfl) (i := 1) rfl ty3 rfl) rfl ?_
    refine st (OK1.ltI (Has.t rfl) (Has.t rfl)) rfl ?_
    refine nl ?_
    refine At.thn (hK12 _ _ ?_); clear hK12
    refine Tri.cond (Has.t rfl) (fun hc2 => ?_) (fun hc2 => ?_)
    · have hc2 := BP.t hc2
      refine Tri.skip ?_
      refine At.thn (hK11 _ _ ?_); clear hK11
      refine Tri.seq fun K13 hK13 => ?_
      refine Tri.block ?_
      refine Tri.seq fun K14 hK14 => ?_
      refine Tri.region ?_
      refine st (OK1.call (zint_Of) (.cons (Has.cI 0 rfl) .nil)) rfl ?_
      refine Ops.alloc [isB false, SlM isU []] zero37 (fun _ _ => ⟨rfl, nilM _ _, trivial⟩) rfl fun b3 => ?_
      refine Ops.store (Has.t rfl) (Has.t rfl) (i := 0) rfl ty37 rfl rfl (Ss' := [_, _]) rfl (M' := [(some _, cellM [_, _]), _, _, _]) rfl ?_
      refine nl ?_
      refine At.thn (hK14 _ _ ?_); clear hK14
      refine Tri.seq fun K15 hK15 => ?_
      refine Tri.seq fun K16 hK16 => ?_
      refine Tri.region ?_
      refine st (OK1.as (Has.cI 0 rfl)) rfl ?_
      refine nl ?_
      refine At.thn (hK16 _ _ ?_); clear hK16
      refine Tri.block ?_
      refine Tri.loopF [2, 3, 4, 6, 10, 11, 12, 13, 7, 5, 16, 17, 18, 19, 22, 8] (fun (z : { j : Nat // j ≤ C }) => match z with | ⟨j, hj⟩ => [(9, isI (j : Int))]) (fun M => fun (z : { j : Nat // j ≤ C }) => match z with | ⟨j, hj⟩ => [zM b3 (dotS (fun j => cf (vals xs) (i * C + j)) (fun j => cf (vals ys) (j * D + k)) j), grMK zc g2 ((tab (i * D + k) D G).map nz), (some b2, cellM [isI (C : Int), isI (D : Int), SlK 2 zc ys]), (some b1, cellM [isI (R : Int), isI (C : Int), SlK 2 zc xs])]) (fun (z : { j : Nat // j ≤ C }) => match z with | ⟨j, hj⟩ => C - j) (⟨0, Nat.zero_le _⟩) (Cv.mem (.cons (t := 9) (Has.t' rfl ?_) (.cons (t := 2) (Has.t rfl) (.cons (t := 3) (Has.t rfl) (.cons (t := 4) (Has.t rfl) (.cons (t := 6) (Has.t rfl) (.cons (t := 10) (Has.t rfl) (.cons (t := 11) (Has.t rfl) (.cons (t := 12) (Has.t rfl) (.cons (t := 13) (Has.t rfl) (.cons (t := 7) (Has.t rfl) (.cons (t := 5) (Has.t rfl) (.cons (t := 16) (Has.t rfl) (.cons (t := 17) (Has.t rfl) (.cons (t := 18) (Has.t rfl) (.cons (t := 19) (Has.t rfl) (.cons (t := 22) (Has.t rfl) (.cons (t := 8) (Has.t rfl) .nil))))))))))))))))) ?_) ?_
      · rfl
      · rfl
      rintro ⟨j, hj⟩ K17 hK17
      refine Tri.cv (Cv.wk (.cons (t := 9) (Has.t rfl) (.cons (t := 2) (Has.t rfl) (.cons (t := 3) (Has.t rfl) (.cons (t := 4) (Has.t rfl) (.cons (t := 6) (Has.t rfl) (.cons (t := 10) (Has.t rfl) (.cons (t := 11) (Has.t rfl) (.cons (t := 12) (Has.t rfl) (.cons (t := 13) (Has.t rfl) (.cons (t := 7) (Has.t rfl) (.cons (t := 5) (Has.t rfl) (.cons (t := 16) (Has.t rfl) (.cons (t := 17) (Has.t rfl) (.cons (t := 18) (Has.t rfl) (.cons (t := 19) (Has.t rfl) (.cons (t := 22) (Has.t rfl) (.cons (t := 8) (Has.t rfl) .nil)))))))))))))))))) ?_
      refine Tri.memEq (M' := [zM b3 (dotS (fun j => cf (vals xs) (i * C + j)) (fun j => cf (vals ys) (j * D + k)) j), grMK zc g2 ((tab (i * D + k) D G).map nz), (some b2, cellM [isI (C : Int), isI (D : Int), SlK 2 zc ys]), (some b1, cellM [isI (R : Int), isI (C : Int), SlK 2 zc xs])]) rfl ?_
      have hds := dotS_nw (f := fun j => cf (vals xs) (i * C + j)) (g := fun j => cf (vals ys) (j * D + k)) (K := K) (L := N) (fun j => hx _) (fun j => hy _) j
      obtain ⟨s, hs⟩ : ∃ s, s = dotS (fun j => cf (vals xs) (i * C + j)) (fun j => cf (vals ys) (j * D + k)) j := ⟨_, rfl⟩
      rw [← hs] at hds
      refine Tri.seq fun K18 hK18 => ?_
      refine Tri.seq fun K19 hK19 => ?_
      refine Tri.region ?_
      refine st (OK1.mv (Has.t rfl)) rfl ?_
      refine st (OK1.fieldAddr (Has.t rfl) fld24_1 ty3) rfl ?_
      refine st (OK1.load1 (Has.t rfl) (i := 3) rfl ty3 rfl) rfl ?_
      refine st (OK1.ltI (Has.t rfl) (Has.t rfl)) rfl ?_
      refine nl ?_
      refine At.thn (hK19 _ _ ?_); clear hK19
      refine Tri.cond (Has.t rfl) (fun hc3 => ?_) (fun hc3 => ?_)
      · have hc3 := BP.t hc3
        have hj2 : j < C := (by omega)
        have hp1 := place_lt (show i < R by omega) hj2
        have hp2 := place_lt hj2 (show k < D by omega)
        have hxr := hx.raw (i * C + j)
        have hyr := hy.raw (j * D + k)
        have hfk := hx (i * C + j)
        have hgk := hy (j * D + k)
        have hmm := nz_mul (cf (vals xs) (i * C + j)) (cf (vals ys) (j * D + k))
        refine Tri.skip ?_
        refine At.thn (hK18 _ _ ?_); clear hK18
        refine Tri.seq fun K20 hK20 => ?_
        refine Tri.block ?_
        refine Tri.dr ?_
        refine DrG.st (i := 0) [] rfl rfl rfl (by kernel_rfl) (OKG.o rfl (OK1.load (Has.t rfl) (i := 0) rfl ty37 rfl (Ss' := [_, _]) rfl)) ?_
        refine DrG.st (i := 1) [] rfl rfl rfl (by kernel_rfl) (OKG.o rfl (OK1.load (Has.t rfl) (i := 3) rfl ty24 rfl (Ss' := [_, _, _]) rfl)) ?_
        refine DrG.st (i := 2) [] rfl rfl rfl (by kernel_rfl) (OKG.o rfl (OK1.mv (Has.t rfl))) ?_
        refine DrG.st (i := 3) [] rfl rfl rfl (by kernel_rfl) (OKG.o rfl (OK1.mv (Has.t rfl))) ?_
        refine DrG.st (i := 4) [30, 31, 32] rfl rfl rfl (by kernel_rfl) (OKG.o rfl (OK1.call (ref11_At (i := i) (k := j) (by omega) (by omega)) (.cons (Has.t rfl) (.cons (Has.t rfl) (.cons (Has.t rfl) .nil))))) ?_
        refine DrG.st (i := 5) [] rfl rfl rfl (by kernel_rfl) (OKG.o rfl (OK1.load (Has.t rfl) (i := 2) rfl ty24 rfl (Ss' := [_, _, _]) rfl)) ?_
        refine DrG.st (i := 6) [] rfl rfl rfl (by kernel_rfl) (OKG.o rfl (OK1.mv (Has.t rfl))) ?_
        refine DrG.st (i := 7) [] rfl rfl rfl (by kernel_rfl) (OKG.o rfl (OK1.mv (Has.t rfl))) ?_
        refine DrG.st (i := 8) [34, 35, 36] rfl rfl rfl (by kernel_rfl) (OKG.o rfl (OK1.call (ref11_At (i := j) (k := k) (by omega) (by omega)) (.cons (Has.t rfl) (.cons (Has.t rfl) (.cons (Has.t rfl) .nil))))) ?_
        refine DrG.st (i := 9) [33, 37] rfl rfl rfl (by kernel_rfl) (OKG.o rfl (OK1.eq (OK1.call (zint_Mul (by omega) (by omega)) (.cons (Has.t rfl) (.cons (Has.t rfl) .nil))) ((show isZ _ = isZ (cf (vals xs) (i * C + j) * cf (vals ys) (j * D + k)) from isZ_eq (by rw [cf_vals, cf_vals]))))) ?_
        refine DrG.fin (n := 10) mixed (by kernel_rfl) (by kernel_rfl) (by kernel_rfl) ?_
        refine Ops.cv (Cv.wk (.cons (t := 2) (Has.t rfl) (.cons (t := 3) (Has.t rfl) (.cons (t := 4) (Has.t rfl) (.cons (t := 6) (Has.t rfl) (.cons (t := 10) (Has.t rfl) (.cons (t := 11) (Has.t rfl) (.cons (t := 12) (Has.t rfl) (.cons (t := 13) (Has.t rfl) (.cons (t := 7) (Has.t rfl) (.cons (t := 5) (Has.t rfl) (.cons (t := 16) (Has.t rfl) (.cons (t := 17) (Has.t rfl) (.cons (t := 18) (Has.t rfl) (.cons (t := 19) (Has.t rfl) (.cons (t := 22) (Has.t rfl) (.cons (t := 8) (Has.t rfl) (.cons (t := 9) (Has.t rfl) (.cons (t := 23) (Has.t rfl) (.cons (t := 24) (Has.t rfl) (.cons (t := 25) (Has.t rfl) (.cons (t := 26) (Has.t rfl) (.cons (t := 29) (Has.t rfl) (.cons (t := 30) (Has.t rfl) (.cons (t := 31) (Has.t rfl) (.cons (t := 32) (Has.t rfl) (.cons (t := 33) (Has.t rfl) (.cons (t := 34) (Has.t rfl) (.cons (t := 35) (Has.t rfl) (.cons (t := 36) (Has.t rfl) (.cons (t := 37) (Has.t rfl) (.cons (t := 38) (Has.t rfl) .nil)))))))))))))))))))))))))))))))) ?_
        refine st (OK1.eq (OK1.call (zint_Add (by rw [val_words, ← hs]; omega) (by rw [val_words]; omega)) (.cons (Has.t rfl) (.cons (Has.t rfl) .nil))) ((show isZ _ = isZ (dotS (fun j => cf (vals xs) (i * C + j)) (fun j => cf (vals ys) (j * D + k)) (j + 1)) from isZ_eq (by simp only [zv_nf]; rfl)))) rfl ?_
        refine Ops.store (Has.t rfl) (Has.t rfl) (i := 0) rfl ty37 rfl rfl (Ss' := [_, _]) rfl (M' := [(some _, cellM [_, _]), _, _, _]) rfl ?_
        refine nl ?_
        refine At.bln ?_
        refine At.thn (hK20 _ _ ?_); clear hK20
        refine Tri.region ?_
        refine st (OK1.mv (Has.t rfl)) rfl ?_
        refine st (OK1.addI (Has.t rfl) (Has.cI 1 rfl) (by first | omega | assumption) (by first | omega | assumption)) rfl ?_
        refine st (OK1.as (Has.t rfl)) rfl ?_
        refine nl ?_
        refine At.thn ?_
        refine hK17 (⟨j + 1, by omega⟩) _ _ ?_ (Cv.mem (.cons (t := 9) (Has.t' rfl ?_) (.cons (t := 2) (Has.t rfl) (.cons (t := 3) (Has.t rfl) (.cons (t := 4) (Has.t rfl) (.cons (t := 6) (Has.t rfl) (.cons (t := 10) (Has.t rfl) (.cons (t := 11) (Has.t rfl) (.cons (t := 12) (Has.t rfl) (.cons (t := 13) (Has.t rfl) (.cons (t := 7) (Has.t rfl) (.cons (t := 5) (Has.t rfl) (.cons (t := 16) (Has.t rfl) (.cons (t := 17) (Has.t rfl) (.cons (t := 18) (Has.t rfl) (.cons (t := 19) (Has.t rfl) (.cons (t := 22) (Has.t rfl) (.cons (t := 8) (Has.t rfl) .nil))))))))))))))))) ?_)
        · show C - (j + 1) < C - j; omega
        · exact isI_eq (by omega)
        · rfl
      · have hc3 := BP.f hc3
        have hjC : j = C := (by omega)
        refine Tri.exit ?_
        refine At.the ?_
        refine At.the ?_
        refine At.blh ?_
        refine At.thn (hK15 _ _ ?_); clear hK15
        refine Tri.region ?_
        refine st (OK1.mv (Has.t rfl)) rfl ?_
        refine st (OK1.eq (OK1.load (Has.t rfl) (i := 0) rfl ty37 rfl (Ss' := [_, _]) rfl) ((show _ = Flat (zc (nz (G i k))) from isZ_eq (by rw [hG, hjC])))) rfl ?_
        refine st (OK1.buildS [isB false, SlM isU []] sl22 ty37 zero37 (fun _ _ => ⟨rfl, nilM _ _, trivial⟩) rfl rfl (.cons (Has.t rfl) rfl rfl rfl .nil) rfl (S := SlK 2 zc [nz (G i k)]) rfl) rfl ?_
        refine Ops.appendGK (fk := zc) (u := (false, [])) zc_len (by decide) (fun _ => inferInstance) sl22 ty37 zero37 (fun _ _ => ⟨rfl, nilM _ _, trivial⟩) by37 (Has.t rfl) (i := 1) rfl (Has.t rfl) (by have hpl := place_lt (show i < R by omega) (show k < D by omega); rw [List.length_map, tab_len]; show i * D + k + 1 ≤ _; omega) (by simp) rfl fun gr1 => ?_
        refine Ops.memEq (M' := [_, grMK _ _ _, _, _]) rfl ?_
        refine st (OK1.as (Has.t rfl)) rfl ?_
        refine nl ?_
        refine At.bln ?_
        refine At.thn (hK13 _ _ ?_); clear hK13
        refine Tri.region ?_
        refine st (OK1.mv (Has.t rfl)) rfl ?_
        refine st (OK1.addI (Has.t rfl) (Has.cI 1 rfl) (by first | omega | assumption) (by first | omega | assumption)) rfl ?_
        refine st (OK1.as (Has.t rfl)) rfl ?_
        refine nl ?_
        refine At.thn ?_
        refine hK10 (⟨(k + 1, gr1), by show k + 1 ≤ D; omega⟩) _ _ ?_ (Cv.trans (Cv.drop ((.cons _ (.cons_cons _ (.cons_cons _ (.cons_cons _ .slnil)))))) (Cv.mem (.cons (t := 7) (Has.t' rfl ?_) (.cons (t := 5) (Has.t' rfl ?_) (.cons (t := 2) (Has.t rfl) (.cons (t := 3) (Has.t rfl) (.cons (t := 4) (Has.t rfl) (.cons (t := 6) (Has.t rfl) (.cons (t := 10) (Has.t rfl) (.cons (t := 11) (Has.t rfl) (.cons (t := 12) (Has.t rfl) (.cons (t := 13) (Has.t rfl) .nil)))))))))) ?_))
        · show D - (k + 1) < D - k; omega
        · exact isI_eq (by omega)
        · exact isGr_eq (by rw [← tab_succ G (show k < D by omega), List.map_append, List.length_append]; rfl)
        · exact grMK_eq (by rw [← tab_succ G (show k < D by omega), List.map_append]; rfl)
    · have hc2 := BP.f hc2
      refine Tri.exit ?_
      refine At.the ?_
      refine At.the ?_
      refine At.blh ?_
      refine At.bln ?_
      refine At.thn (hK8 _ _ ?_); clear hK8
      refine Tri.region ?_
      refine st (OK1.mv (Has.t rfl)) rfl ?_
      refine st (OK1.addI (Has.t rfl) (Has.cI 1 rfl) (by first | omega | assumption) (by first | omega | assumption)) rfl ?_
      refine st (OK1.as (Has.t rfl)) rfl ?_
      refine nl ?_
      refine At.thn ?_
      have hkD : k = D := by omega
      refine hK5 (⟨(i + 1, g2), by show i + 1 ≤ R; omega⟩) _ _ ?_ (Cv.mem (.cons (t := 6) (Has.t' rfl ?_) (.cons (t := 5) (Has.t' rfl ?_) (.cons (t := 2) (Has.t rfl) (.cons (t := 3) (Has.t rfl) (.cons (t := 4) (Has.t rfl) .nil))))) ?_)
      · show R - (i + 1) < R - i; omega
      · exact isI_eq (by omega)
      · exact isGr_eq (by rw [hkD, tab_next])
      · exact grMK_eq (by rw [hkD, tab_next])
  · have hc1 := BP.f hc1
    refine Tri.exit ?_
    refine At.the ?_
    refine At.the ?_
    refine At.blh ?_
    refine At.thn (hK3 _ _ ?_); clear hK3
    refine Tri.cv (Cv.wk (.cons (t := 4) (Has.t rfl) (.cons (t := 5) (Has.t rfl) .nil))) ?_
    refine Tri.seq fun K21 hK21 => ?_
    refine Tri.cv (Cv.freezeGK (t := 5) (i := 0) (ys := (tab (i * D + 0) D G).map nz) zc_len rfl rfl rfl) ?_
    refine Tri.memEq (M' := [_, _]) rfl ?_
    refine Tri.cv (Cv.wk (.cons (t := 4) (Has.t rfl) (.cons (t := 5) (Has.t rfl) .nil))) ?_
    refine Tri.region ?_
    refine st (OK1.mv (Has.t rfl)) rfl ?_
    refine st (OK1.as (Has.t rfl)) rfl ?_
    refine nl ?_
    refine At.thn (hK21 _ _ ?_); clear hK21
    refine Tri.ret ?_
    refine rt1 (.inl rfl) Try.results31 rfl (.tmp (Has.t' rfl ?_) .nil)
    all_goals (exact isPl_eq (by rw [Nat.add_zero, show i = R by omega]))
end Go.Proofs.Ytcfobfedliajdaa
/- Contracts: the document's answers on forms. -/
namespace Go.Proofs.Ytcfobfedliajdaa
open Go.En Go.RowKit
set_option linter.unusedVariables false
set_option maxRecDepth 10000
open Go.Nt
open Go.Pz
open Go.Mz
open Go.Hn
open Go.Hp
open Go.Dt
set_option maxHeartbeats 4000000 in
theorem ref14_First {R C i K : Nat} {xs : List (Bool × List Nat)} (hx : Bd (vals xs) K) (hK : K ≤ 400000000) (hR : R ≤ 64) (hC : C ≤ 64) (hl : xs.length = R * C) (hi : i < R) : Ctr Try.prog 39 [isM (R : Int) (C : Int) xs, isI (i : Int)] (isI ((fc C ((mf C (vals xs)) i) : Nat) : Int)) := by
  refine Ctr.intro Try.func39 rfl (by kernel_rfl) Try.ntmps39 rfl fun w0 F0 => ?_
  refine Tri.cv (Cv.wk (.cons (t := 0) (Has.t rfl) (.cons (t := 1) (Has.t rfl) .nil))) ?_
  refine Tri.fact (Has.rngI (Has.t (t := 1) rfl)) fun lt1 => ?_
  have hRC := side_le hR hC
  refine Tri.seq fun K1 hK1 => ?_
  refine Tri.region ?_
  refine Ops.box (Has.t rfl) rfl fun b1 => ?_
  refine st (OK1.as (Has.cI 0 rfl)) rfl ?_
  refine nl ?_
  refine At.thn (hK1 _ _ ?_); clear hK1
  refine Tri.seq fun K2 hK2 => ?_
  refine Tri.region ?_
  refine st (OK1.as (Has.cI 0 rfl)) rfl ?_
  refine nl ?_
  refine At.thn (hK2 _ _ ?_); clear hK2
  refine Tri.seq fun K3 hK3 => ?_
  refine Tri.block ?_
  refine Tri.loopF [1, 2, 4] (fun (z : { k : Nat // k ≤ C ∧ ∀ j, j < k → (mf C (vals xs)) i j = 0 }) => match z with | ⟨k, hI⟩ => [(5, isI (k : Int))]) (fun M => fun (z : { k : Nat // k ≤ C ∧ ∀ j, j < k → (mf C (vals xs)) i j = 0 }) => match z with | ⟨k, hI⟩ => M) (fun (z : { k : Nat // k ≤ C ∧ ∀ j, j < k → (mf C (vals xs)) i j = 0 }) => match z with | ⟨k, hI⟩ => C - k) (⟨0, Nat.zero_le _, fun j hj => absurd hj (Nat.not_lt_zero _)⟩) (Cv.mem (.cons (t := 5) (Has.t' rfl ?_) (.cons (t := 1) (Has.t rfl) (.cons (t := 2) (Has.t rfl) (.cons (t := 4) (Has.t rfl) .nil)))) ?_) ?_
  · rfl
  · rfl
  rintro ⟨k, hk, hz⟩ K4 hK4
  refine Tri.cv (Cv.wk (.cons (t := 5) (Has.t rfl) (.cons (t := 1) (Has.t rfl) (.cons (t := 2) (Has.t rfl) (.cons (t := 4) (Has.t rfl) .nil))))) ?_
  have hxr := hx.raw (i * C + k)
  refine Tri.seq fun K5 hK5 => ?_
  refine Tri.seq fun K6 hK6 => ?_
  refine Tri.region ?_
  refine st (OK1.mv (Has.t rfl)) rfl ?_
  refine st (OK1.fieldAddr (Has.t rfl) fld24_1 ty3) rfl ?_
  refine st (OK1.load1 (Has.t rfl) (i := 0) rfl ty3 rfl) rfl ?_
  refine st (OK1.ltI (Has.t rfl) (Has.t rfl)) rfl ?_
  refine st (OK1.mv (Has.t rfl)) rfl ?_
  refine stT rfl rfl (fun hg => have hg' := BP.t hg; OK1.load (Has.t rfl) (i := 0) rfl ty24 rfl (Ss' := [_, _, _]) rfl) rfl ?_
  refine stT rfl rfl (fun hg => have hg' := BP.t hg; OK1.mv (Has.t rfl)) rfl ?_
  refine stT rfl rfl (fun hg => have hg' := BP.t hg; OK1.mv (Has.t rfl)) rfl ?_
  refine stT rfl rfl (fun hg => have hg' := BP.t hg; OK1.call (ref11_At (i := i) (k := k) (by omega) (by have := place_lt hi (show k < C by omega); omega)) (.cons (Has.g rfl hg) (.cons (Has.g rfl hg) (.cons (Has.g rfl hg) .nil)))) rfl ?_
  refine stT rfl rfl (fun hg => have hg' := BP.t hg; OK1.eq (OK1.call (zint_Sign (by omega)) (.cons (Has.g rfl hg) .nil)) ((show _ = isI (sgn ((mf C (vals xs)) i k)) from isI_eq (by rw [← cf_vals]; rfl)))) rfl ?_
  refine stT rfl rfl (fun hg => have hg' := BP.t hg; OK1.eqI (Has.g rfl hg) (Has.cI 0 rfl)) rfl ?_
  refine st (OK1.pickAnd (Has.t rfl) (fun h => Has.g rfl h)) rfl ?_
  refine nl ?_
  refine At.thn (hK6 _ _ ?_); clear hK6
  refine Tri.cond (Has.t rfl) (fun hc1 => ?_) (fun hc1 => ?_)
  · have hc1 := BP.t hc1
    have hk0 := (sgn_eq0 _).1 hc1.2
    refine Tri.skip ?_
    refine At.thn (hK5 _ _ ?_); clear hK5
    refine Tri.block ?_
    refine Tri.region ?_
    refine st (OK1.mv (Has.t rfl)) rfl ?_
    refine st (OK1.addI (Has.t rfl) (Has.cI 1 rfl) (by first | omega | assumption) (by first | omega | assumption)) rfl ?_
    refine st (OK1.as (Has.t rfl)) rfl ?_
    refine nl ?_
    refine At.bln ?_
    refine At.thn ?_
    refine hK4 (⟨k + 1, by omega, fun j hj => by rcases Nat.lt_or_ge j k with h | h; exact hz j h; obtain rfl : j = k := (by omega); exact hk0⟩) _ _ ?_ (Cv.mem (.cons (t := 5) (Has.t' rfl ?_) (.cons (t := 1) (Has.t rfl) (.cons (t := 2) (Has.t rfl) (.cons (t := 4) (Has.t rfl) .nil)))) ?_)
    · show C - (k + 1) < C - k; omega
    · exact isI_eq (by omega)
    · rfl
  · have hc1 := BP.f hc1
    have hout := hc1
    refine Tri.exit ?_
    refine At.the ?_
    refine At.the ?_
    refine At.blh ?_
    refine At.thn (hK3 _ _ ?_); clear hK3
    refine Tri.cv (Cv.wk (.cons (t := 4) (Has.t rfl) (.cons (t := 5) (Has.t rfl) .nil))) ?_
    refine Tri.seq fun K7 hK7 => ?_
    refine Tri.region ?_
    refine st (OK1.mv (Has.t rfl)) rfl ?_
    refine st (OK1.as (Has.t rfl)) rfl ?_
    refine nl ?_
    refine At.thn (hK7 _ _ ?_); clear hK7
    refine Tri.ret ?_
    refine rt1 (.inl rfl) Try.results39 rfl (.tmp (Has.t' rfl ?_) .nil)
    all_goals (exact isI_eq (fc_out hk hz hout))
set_option maxHeartbeats 4000000 in
theorem ref14_Is {R C K : Nat} {xs : List (Bool × List Nat)} (hx : Bd (vals xs) K) (hK : K ≤ 400000000) (hR : R ≤ 64) (hC : C ≤ 64) (hl : xs.length = R * C) : Ctr Try.prog 12 [isM (R : Int) (C : Int) xs] (isB (hermB R C (mf C (vals xs)))) := by
  refine Ctr.intro Try.func12 rfl (by kernel_rfl) Try.ntmps12 rfl fun w0 F0 => ?_
  refine Tri.cv (Cv.wk (.cons (t := 0) (Has.t rfl) .nil)) ?_
  have hRC := side_le hR hC
  refine Tri.seq fun K1 hK1 => ?_
  refine Tri.region ?_
  refine Ops.box (Has.t rfl) rfl fun b1 => ?_
  refine st (OK1.as (Has.cB false)) rfl ?_
  refine nl ?_
  refine At.thn (hK1 _ _ ?_); clear hK1
  refine Tri.seq fun K2 hK2 => ?_
  refine Tri.seq fun K3 hK3 => ?_
  refine Tri.region ?_
  refine st (OK1.as (Has.cI 0 rfl)) rfl ?_
  refine nl ?_
  refine At.thn (hK3 _ _ ?_); clear hK3
  refine Tri.block ?_
  refine Tri.loopF [1] (fun (z : { i : Nat // i ≤ R ∧ HermF i C (mf C (vals xs)) }) => match z with | ⟨i, hI⟩ => [(3, isI (i : Int))]) (fun M => fun (z : { i : Nat // i ≤ R ∧ HermF i C (mf C (vals xs)) }) => match z with | ⟨i, hI⟩ => M) (fun (z : { i : Nat // i ≤ R ∧ HermF i C (mf C (vals xs)) }) => match z with | ⟨i, hI⟩ => R - i) (⟨0, Nat.zero_le _, fun i hi => absurd hi (Nat.not_lt_zero _)⟩) (Cv.mem (.cons (t := 3) (Has.t' rfl ?_) (.cons (t := 1) (Has.t rfl) .nil)) ?_) ?_
  · rfl
  · rfl
  rintro ⟨i, hi, hF⟩ K4 hK4
  refine Tri.cv (Cv.wk (.cons (t := 3) (Has.t rfl) (.cons (t := 1) (Has.t rfl) .nil))) ?_
  refine Tri.seq fun K5 hK5 => ?_
  refine Tri.seq fun K6 hK6 => ?_
  refine Tri.region ?_
  refine st (OK1.mv (Has.t rfl)) rfl ?_
  refine st (OK1.fieldAddr (Has.t rfl) fld24_0 ty3) rfl ?_
  refine st (OK1.load1 (Has.t rfl) (i := 0) rfl ty3 rfl) rfl ?_
  refine st (OK1.ltI (Has.t rfl) (Has.t rfl)) rfl ?_
  refine nl ?_
  refine At.thn (hK6 _ _ ?_); clear hK6
  refine Tri.cond (Has.t rfl) (fun hc1 => ?_) (fun hc1 => ?_)
  · have hc1 := BP.t hc1
    have hiR : i < R := (by omega)
    have hkC := fc_le ((mf C (vals xs)) i) C
    have hne : (fc C ((mf C (vals xs)) i)) < C → (mf C (vals xs)) i (fc C ((mf C (vals xs)) i)) ≠ 0 := fc_ne
    refine Tri.skip ?_
    refine At.thn (hK5 _ _ ?_); clear hK5
    refine Tri.seq fun K7 hK7 => ?_
    refine Tri.block ?_
    refine Tri.seq fun K8 hK8 => ?_
    refine Tri.region ?_
    refine st (OK1.load (Has.t rfl) (i := 0) rfl ty24 rfl (Ss' := [_, _, _]) rfl) rfl ?_
    refine st (OK1.mv (Has.t rfl)) rfl ?_
    refine st (OK1.call (ref14_First (i := i) hx hK hR hC hl hiR) (.cons (Has.t rfl) (.cons (Has.t rfl) .nil))) rfl ?_
    refine st (OK1.as (Has.t rfl)) rfl ?_
    refine nl ?_
    refine At.thn (hK8 _ _ ?_); clear hK8
    refine Tri.seq fun K9 hK9 => ?_
    refine Tri.seq fun K10 hK10 => ?_
    refine Tri.region ?_
    refine st (OK1.mv (Has.t rfl)) rfl ?_
    refine st (OK1.gtI (Has.t rfl) (Has.cI 0 rfl)) rfl ?_
    refine st (OK1.mv (Has.t rfl)) rfl ?_
    refine stT rfl rfl (fun hg => have hg' := BP.t hg; OK1.mv (Has.t rfl)) rfl ?_
    refine stT rfl rfl (fun hg => have hg' := BP.t hg; OK1.fieldAddr (Has.t rfl) fld24_1 ty3) rfl ?_
    refine stT rfl rfl (fun hg => have hg' := BP.t hg; OK1.load1 (Has.g rfl hg) (i := 0) rfl ty3 rfl) rfl ?_
    refine stT rfl rfl (fun hg => have hg' := BP.t hg; OK1.ltI (Has.g rfl hg) (Has.g rfl hg)) rfl ?_
    refine st (OK1.pickAnd (Has.t rfl) (fun h => Has.g rfl h)) rfl ?_
    refine st (OK1.mv (Has.t rfl)) rfl ?_
    refine stT rfl rfl (fun hg => have hg' := BP.t hg; OK1.load (Has.t rfl) (i := 0) rfl ty24 rfl (Ss' := [_, _, _]) rfl) rfl ?_
    refine stT rfl rfl (fun hg => have hg' := BP.t hg; OK1.mv (Has.t rfl)) rfl ?_
    refine stT rfl rfl (fun hg => have hg' := BP.t hg; OK1.eq (OK1.subI (Has.g rfl hg) (Has.cI 1 rfl) (by first | omega | assumption) (by first | omega | assumption)) ((show isI _ = isI ((i - 1 : Nat) : Int) from isI_eq (by omega)))) rfl ?_
    refine stT rfl rfl (fun hg => have hg' := BP.t hg; OK1.call (ref14_First (i := i - 1) hx hK hR hC hl (by omega)) (.cons (Has.g rfl hg) (.cons (Has.g rfl hg) .nil))) rfl ?_
    refine stT rfl rfl (fun hg => have hg' := BP.t hg; OK1.mv (Has.t rfl)) rfl ?_
    refine stT rfl rfl (fun hg => have hg' := BP.t hg; OK1.geI (Has.g rfl hg) (Has.g rfl hg)) rfl ?_
    refine st (OK1.pickAnd (Has.t rfl) (fun h => Has.g rfl h)) rfl ?_
    refine st (OK1.mv (Has.t rfl)) rfl ?_
    refine stF rfl rfl (fun hg => have hg' := BP.t hg; OK1.mv (Has.t rfl)) rfl ?_
    refine stF rfl rfl (fun hg => have hg' := BP.t hg; OK1.fieldAddr (Has.t rfl) fld24_1 ty3) rfl ?_
    refine stF rfl rfl (fun hg => have hg' := BP.t hg; OK1.load1 (Has.g rfl hg) (i := 0) rfl ty3 rfl) rfl ?_
    refine stF rfl rfl (fun hg => have hg' := BP.t hg; OK1.ltI (Has.g rfl hg) (Has.g rfl hg)) rfl ?_
    refine stF rfl rfl (fun hg => have hg' := BP.t hg; OK1.mv (Has.g rfl hg)) rfl ?_
    refine stGT rfl rfl (fun hg => have hg' := BP.t hg; OK1.load (Has.t rfl) (i := 0) rfl ty24 rfl (Ss' := [_, _, _]) rfl) rfl ?_
    refine stGT rfl rfl (fun hg => have hg' := BP.t hg; OK1.mv (Has.t rfl)) rfl ?_
    refine stGT rfl rfl (fun hg => have hg' := BP.t hg; OK1.mv (Has.t rfl)) rfl ?_
    refine stGT rfl rfl (fun hg => have hg' := BP.t hg; OK1.call (ref11_At (i := i) (k := (fc C ((mf C (vals xs)) i))) (by omega) (by have := place_lt hiR (show (fc C ((mf C (vals xs)) i)) < C by omega); omega)) (.cons (Has.g rfl hg) (.cons (Has.g rfl hg) (.cons (Has.g rfl hg) .nil)))) rfl ?_
    refine stGT rfl rfl (fun hg => have hg' := BP.t hg; OK1.eq (OK1.call (zint_Sign (by have := hx.raw (i * C + (fc C ((mf C (vals xs)) i))); omega)) (.cons (Has.g rfl hg) .nil)) ((show _ = isI (sgn ((mf C (vals xs)) i (fc C ((mf C (vals xs)) i)))) from isI_eq (by rw [← cf_vals]; rfl)))) rfl ?_
    refine stGT rfl rfl (fun hg => have hg' := BP.t hg; OK1.ltI (Has.g rfl hg) (Has.cI 0 rfl)) rfl ?_
    refine stF rfl rfl (fun hg => have hg' := BP.t hg; OK1.pickAnd (Has.g rfl hg) (fun h => Has.g rfl (ga hg h))) rfl ?_
    refine st (OK1.pickOr (Has.t rfl) (fun h => Has.g rfl (ng h))) rfl ?_
    refine nl ?_
    refine At.thn (hK10 _ _ ?_); clear hK10
    refine Tri.cond (Has.t rfl) (fun hc2 => ?_) (fun hc2 => ?_)
    · have hc2 := BP.t hc2
      skip
      refine Tri.seq fun K11 hK11 => ?_
      refine Tri.region ?_
      refine st (OK1.as (Has.cB false)) rfl ?_
      refine nl ?_
      refine At.thn (hK11 _ _ ?_); clear hK11
      refine Tri.ret ?_
      refine At.thr ?_
      refine At.blr ?_
      refine At.thr ?_
      refine At.thr ?_
      refine At.blr ?_
      refine At.thr ?_
      refine rt1 (.inl rfl) Try.results12 rfl (.tmp (Has.t' rfl ?_) .nil)
      all_goals (exact isB_eq (hermB_no fun hh => by have hsl := sgn_lt ((mf C (vals xs)) i (fc C ((mf C (vals xs)) i))); have hx1 := hh i hiR (by omega); have hx2 := hx1.1; have hx3 := hx1.2.1; omega))
    · have hc2 := BP.f hc2
      have hs0 : (fc C ((mf C (vals xs)) i)) < C → 0 < (mf C (vals xs)) i (fc C ((mf C (vals xs)) i)) := fun h => by
        have h1 := hne h
        have h2 := mt (sgn_lt ((mf C (vals xs)) i (fc C ((mf C (vals xs)) i)))).2
        omega
      refine Tri.skip ?_
      refine At.thn (hK9 _ _ ?_); clear hK9
      refine Tri.seq fun K12 hK12 => ?_
      refine Tri.region ?_
      refine st (OK1.as (Has.cI 0 rfl)) rfl ?_
      refine nl ?_
      refine At.thn (hK12 _ _ ?_); clear hK12
      refine Tri.block ?_
      refine Tri.loopF [1, 3, 7, 8, 9, 10, 13, 14, 15, 4, 16, 17, 18, 19, 20, 21, 22, 23, 24, 25, 26, 27, 28, 29, 30, 31, 32, 33, 34, 35, 36, 37, 38, 39, 40, 41, 42, 43, 44, 45] (fun (z : { r : Nat // r ≤ i ∧ ∀ j, j < r → (fc C ((mf C (vals xs)) i)) < C → 0 ≤ (mf C (vals xs)) j (fc C ((mf C (vals xs)) i)) ∧ (mf C (vals xs)) j (fc C ((mf C (vals xs)) i)) < (mf C (vals xs)) i (fc C ((mf C (vals xs)) i)) }) => match z with | ⟨r, hI2⟩ => [(5, isI (r : Int))]) (fun M => fun (z : { r : Nat // r ≤ i ∧ ∀ j, j < r → (fc C ((mf C (vals xs)) i)) < C → 0 ≤ (mf C (vals xs)) j (fc C ((mf C (vals xs)) i)) ∧ (mf C (vals xs)) j (fc C ((mf C (vals xs)) i)) < (mf C (vals xs)) i (fc C ((mf C (vals xs)) i)) }) => match z with | ⟨r, hI2⟩ => M) (fun (z : { r : Nat // r ≤ i ∧ ∀ j, j < r → (fc C ((mf C (vals xs)) i)) < C → 0 ≤ (mf C (vals xs)) j (fc C ((mf C (vals xs)) i)) ∧ (mf C (vals xs)) j (fc C ((mf C (vals xs)) i)) < (mf C (vals xs)) i (fc C ((mf C (vals xs)) i)) }) => match z with | ⟨r, hI2⟩ => i - r) (⟨0, Nat.zero_le _, fun j hj => absurd hj (Nat.not_lt_zero _)⟩) (Cv.mem (.cons (t := 5) (Has.t' rfl ?_) (.cons (t := 1) (Has.t rfl) (.cons (t := 3) (Has.t rfl) (.cons (t := 7) (Has.t rfl) (.cons (t := 8) (Has.t rfl) (.cons (t := 9) (Has.t rfl) (.cons (t := 10) (Has.t rfl) (.cons (t := 13) (Has.t rfl) (.cons (t := 14) (Has.t rfl) (.cons (t := 15) (Has.t rfl) (.cons (t := 4) (Has.t rfl) (.cons (t := 16) (Has.t rfl) (.cons (t := 17) (Has.t rfl) (.cons (t := 18) (Has.t rfl) (.cons (t := 19) (Has.t rfl) (.cons (t := 20) (Has.t rfl) (.cons (t := 21) (Has.t rfl) (.cons (t := 22) (Has.t rfl) (.cons (t := 23) (Has.t rfl) (.cons (t := 24) (Has.t rfl) (.cons (t := 25) (Has.t rfl) (.cons (t := 26) (Has.t rfl) (.cons (t := 27) (Has.t rfl) (.cons (t := 28) (Has.t rfl) (.cons (t := 29) (Has.t rfl) (.cons (t := 30) (Has.t rfl) (.cons (t := 31) (Has.t rfl) (.cons (t := 32) (Has.t rfl) (.cons (t := 33) (Has.t rfl) (.cons (t := 34) (Has.t rfl) (.cons (t := 35) (Has.t rfl) (.cons (t := 36) (Has.t rfl) (.cons (t := 37) (Has.t rfl) (.cons (t := 38) (Has.t rfl) (.cons (t := 39) (Has.t rfl) (.cons (t := 40) (Has.t rfl) (.cons (t := 41) (Has.t rfl) (.cons (t := 42) (Has.t rfl) (.cons (t := 43) (Has.t rfl) (.cons (t := 44) (Has.t rfl) (.cons (t := 45) (Has.t rfl) .nil))))))))))))))))))))))))))))))))))))))))) ?_) ?_
      · rfl
      · rfl
      rintro ⟨r, hr, hI2⟩ K13 hK13
      refine Tri.cv (Cv.wk (.cons (t := 5) (Has.t rfl) (.cons (t := 1) (Has.t rfl) (.cons (t := 3) (Has.t rfl) (.cons (t := 7) (Has.t rfl) (.cons (t := 8) (Has.t rfl) (.cons (t := 9) (Has.t rfl) (.cons (t := 10) (Has.t rfl) (.cons (t := 13) (Has.t rfl) (.cons (t := 14) (Has.t rfl) (.cons (t := 15) (Has.t rfl) (.cons (t := 4) (Has.t rfl) (.cons (t := 16) (Has.t rfl) (.cons (t := 17) (Has.t rfl) (.cons (t := 18) (Has.t rfl) (.cons (t := 19) (Has.t rfl) (.cons (t := 20) (Has.t rfl) (.cons (t := 21) (Has.t rfl) (.cons (t := 22) (Has.t rfl) (.cons (t := 23) (Has.t rfl) (.cons (t := 24) (Has.t rfl) (.cons (t := 25) (Has.t rfl) (.cons (t := 26) (Has.t rfl) (.cons (t := 27) (Has.t rfl) (.cons (t := 28) (Has.t rfl) (.cons (t := 29) (Has.t rfl) (.cons (t := 30) (Has.t rfl) (.cons (t := 31) (Has.t rfl) (.cons (t := 32) (Has.t rfl) (.cons (t := 33) (Has.t rfl) (.cons (t := 34) (Has.t rfl) (.cons (t := 35) (Has.t rfl) (.cons (t := 36) (Has.t rfl) (.cons (t := 37) (Has.t rfl) (.cons (t := 38) (Has.t rfl) (.cons (t := 39) (Has.t rfl) (.cons (t := 40) (Has.t rfl) (.cons (t := 41) (Has.t rfl) (.cons (t := 42) (Has.t rfl) (.cons (t := 43) (Has.t rfl) (.cons (t := 44) (Has.t rfl) (.cons (t := 45) (Has.t rfl) .nil)))))))))))))))))))))))))))))))))))))))))) ?_
      refine Tri.seq fun K14 hK14 => ?_
      refine Tri.seq fun K15 hK15 => ?_
      refine Tri.region ?_
      refine st (OK1.mv (Has.t rfl)) rfl ?_
      refine st (OK1.mv (Has.t rfl)) rfl ?_
      refine st (OK1.ltI (Has.t rfl) (Has.t rfl)) rfl ?_
      refine st (OK1.mv (Has.t rfl)) rfl ?_
      refine stT rfl rfl (fun hg => have hg' := BP.t hg; OK1.mv (Has.t rfl)) rfl ?_
      refine stT rfl rfl (fun hg => have hg' := BP.t hg; OK1.fieldAddr (Has.t rfl) fld24_1 ty3) rfl ?_
      refine stT rfl rfl (fun hg => have hg' := BP.t hg; OK1.load1 (Has.g rfl hg) (i := 0) rfl ty3 rfl) rfl ?_
      refine stT rfl rfl (fun hg => have hg' := BP.t hg; OK1.ltI (Has.g rfl hg) (Has.g rfl hg)) rfl ?_
      refine st (OK1.pickAnd (Has.t rfl) (fun h => Has.g rfl h)) rfl ?_
      refine nl ?_
      refine At.thn (hK15 _ _ ?_); clear hK15
      refine Tri.cond (Has.t rfl) (fun hc3 => ?_) (fun hc3 => ?_)
      · have hc3 := BP.t hc3
        have hpr := place_lt (show r < R by omega) (show (fc C ((mf C (vals xs)) i)) < C by omega)
        have hpi := place_lt hiR (show (fc C ((mf C (vals xs)) i)) < C by omega)
        have hxr := hx.raw (r * C + (fc C ((mf C (vals xs)) i)))
        have hxi := hx.raw (i * C + (fc C ((mf C (vals xs)) i)))
        refine Tri.skip ?_
        refine At.thn (hK14 _ _ ?_); clear hK14
        refine Tri.seq fun K16 hK16 => ?_
        refine Tri.block ?_
        refine Tri.seq fun K17 hK17 => ?_
        refine Tri.region ?_
        refine st (OK1.load (Has.t rfl) (i := 0) rfl ty24 rfl (Ss' := [_, _, _]) rfl) rfl ?_
        refine st (OK1.mv (Has.t rfl)) rfl ?_
        refine st (OK1.mv (Has.t rfl)) rfl ?_
        refine st (OK1.call (ref11_At (i := r) (k := (fc C ((mf C (vals xs)) i))) (by omega) (by omega)) (.cons (Has.t rfl) (.cons (Has.t rfl) (.cons (Has.t rfl) .nil)))) rfl ?_
        refine Ops.alloc [isB false, SlM isU []] zero37 (fun _ _ => ⟨rfl, nilM _ _, trivial⟩) rfl fun b2 => ?_
        refine Ops.store (Has.t rfl) (Has.t rfl) (i := 0) rfl ty37 rfl rfl (Ss' := [_, _]) rfl (M' := [(some _, cellM [_, _]), _]) rfl ?_
        refine nl ?_
        refine At.thn (hK17 _ _ ?_); clear hK17
        refine Tri.seq fun K18 hK18 => ?_
        refine Tri.dr ?_
        refine DrG.st (i := 0) [] rfl rfl rfl (by kernel_rfl) (OKG.o rfl (OK1.load (Has.t rfl) (i := 0) rfl ty37 rfl (Ss' := [_, _]) rfl)) ?_
        refine DrG.st (i := 1) [61] rfl rfl rfl (by kernel_rfl) (OKG.o rfl (OK1.eq (OK1.call (zint_Sign (by omega)) (.cons (Has.t rfl) .nil)) ((show _ = isI (sgn ((mf C (vals xs)) r (fc C ((mf C (vals xs)) i)))) from isI_eq (by rw [← cf_vals]; rfl))))) ?_
        refine DrG.st (i := 2) [62] rfl rfl rfl (by kernel_rfl) (OKG.o rfl (OK1.ltI (Has.t rfl) (Has.cI 0 rfl))) ?_
        refine DrG.st (i := 3) [63] rfl rfl rfl (by kernel_rfl) (OKG.o rfl (OK1.mv (Has.t rfl))) ?_
        refine DrG.st (i := 4) [64] rfl rfl rfl (by kernel_rfl) (OKG.F rfl rfl rfl (fun hg => have hg' := BP.t hg; OK1.load (Has.t rfl) (i := 0) rfl ty37 rfl (Ss' := [_, _]) rfl)) ?_
        refine DrG.st (i := 5) [64] rfl rfl rfl (by kernel_rfl) (OKG.F rfl rfl rfl (fun hg => have hg' := BP.t hg; OK1.load (Has.t rfl) (i := 1) rfl ty24 rfl (Ss' := [_, _, _]) rfl)) ?_
        refine DrG.st (i := 6) [64] rfl rfl rfl (by kernel_rfl) (OKG.F rfl rfl rfl (fun hg => have hg' := BP.t hg; OK1.mv (Has.t rfl))) ?_
        refine DrG.st (i := 7) [64] rfl rfl rfl (by kernel_rfl) (OKG.F rfl rfl rfl (fun hg => have hg' := BP.t hg; OK1.mv (Has.t rfl))) ?_
        refine DrG.st (i := 8) [64, 66, 67, 68] rfl rfl rfl (by kernel_rfl) (OKG.F rfl rfl rfl (fun hg => have hg' := BP.t hg; OK1.call (ref11_At (i := i) (k := (fc C ((mf C (vals xs)) i))) (by omega) (by omega)) (.cons (Has.g rfl hg) (.cons (Has.g rfl hg) (.cons (Has.g rfl hg) .nil))))) ?_
        refine DrG.fin (n := 9) mixed (by kernel_rfl) (by kernel_rfl) (by kernel_rfl) ?_
        refine Ops.cv (Cv.wk (.cons (t := 1) (Has.t rfl) (.cons (t := 3) (Has.t rfl) (.cons (t := 7) (Has.t rfl) (.cons (t := 8) (Has.t rfl) (.cons (t := 9) (Has.t rfl) (.cons (t := 10) (Has.t rfl) (.cons (t := 13) (Has.t rfl) (.cons (t := 14) (Has.t rfl) (.cons (t := 15) (Has.t rfl) (.cons (t := 4) (Has.t rfl) (.cons (t := 16) (Has.t rfl) (.cons (t := 17) (Has.t rfl) (.cons (t := 18) (Has.t rfl) (.cons (t := 19) (Has.t rfl) (.cons (t := 20) (Has.t rfl) (.cons (t := 21) (Has.t rfl) (.cons (t := 22) (Has.t rfl) (.cons (t := 23) (Has.t rfl) (.cons (t := 24) (Has.t rfl) (.cons (t := 25) (Has.t rfl) (.cons (t := 26) (Has.t rfl) (.cons (t := 27) (Has.t rfl) (.cons (t := 28) (Has.t rfl) (.cons (t := 29) (Has.t rfl) (.cons (t := 30) (Has.t rfl) (.cons (t := 31) (Has.t rfl) (.cons (t := 32) (Has.t rfl) (.cons (t := 33) (Has.t rfl) (.cons (t := 34) (Has.t rfl) (.cons (t := 35) (Has.t rfl) (.cons (t := 36) (Has.t rfl) (.cons (t := 37) (Has.t rfl) (.cons (t := 38) (Has.t rfl) (.cons (t := 39) (Has.t rfl) (.cons (t := 40) (Has.t rfl) (.cons (t := 41) (Has.t rfl) (.cons (t := 42) (Has.t rfl) (.cons (t := 43) (Has.t rfl) (.cons (t := 44) (Has.t rfl) (.cons (t := 45) (Has.t rfl) (.cons (t := 5) (Has.t rfl) (.cons (t := 46) (Has.t rfl) (.cons (t := 47) (Has.t rfl) (.cons (t := 48) (Has.t rfl) (.cons (t := 49) (Has.t rfl) (.cons (t := 50) (Has.t rfl) (.cons (t := 51) (Has.t rfl) (.cons (t := 52) (Has.t rfl) (.cons (t := 53) (Has.t rfl) (.cons (t := 54) (Has.t rfl) (.cons (t := 57) (Has.t rfl) (.cons (t := 58) (Has.t rfl) (.cons (t := 59) (Has.t rfl) (.cons (t := 60) (Has.t rfl) (.cons (t := 6) (Has.t rfl) (.cons (t := 61) (Has.t rfl) (.cons (t := 62) (Has.t rfl) (.cons (t := 63) (Has.t rfl) (.cons (t := 64) (Has.t rfl) (.cons (t := 65) (Has.t rfl) (.cons (t := 66) (Has.t rfl) (.cons (t := 67) (Has.t rfl) (.cons (t := 68) (Has.t rfl) (.cons (t := 69) (Has.t rfl) .nil))))))))))))))))))))))))))))))))))))))))))))))))))))))))))))))))) ?_
        refine stF rfl rfl (fun hg => have hg' := BP.t hg; OK1.eq (OK1.call (zint_Cmp (by omega) (by omega)) (.cons (Has.g rfl hg) (.cons (Has.g rfl hg) .nil))) ((show _ = isI (cmpZ ((mf C (vals xs)) r (fc C ((mf C (vals xs)) i))) ((mf C (vals xs)) i (fc C ((mf C (vals xs)) i)))) from isI_eq (by rw [← cf_vals, ← cf_vals]; rfl)))) rfl ?_
        refine stF rfl rfl (fun hg => have hg' := BP.t hg; OK1.geI (Has.g rfl hg) (Has.cI 0 rfl)) rfl ?_
        refine st (OK1.pickOr (Has.t rfl) (fun h => Has.g rfl (ng h))) rfl ?_
        refine nl ?_
        refine At.thn (hK18 _ _ ?_); clear hK18
        refine Tri.cond (Has.t rfl) (fun hc4 => ?_) (fun hc4 => ?_)
        · have hc4 := BP.t hc4
          skip
          refine Tri.seq fun K19 hK19 => ?_
          refine Tri.region ?_
          refine st (OK1.as (Has.cB false)) rfl ?_
          refine nl ?_
          refine At.thn (hK19 _ _ ?_); clear hK19
          refine Tri.ret ?_
          refine At.blr ?_
          refine At.thr ?_
          refine At.thr ?_
          refine At.blr ?_
          refine At.blr ?_
          refine At.thr ?_
          refine At.thr ?_
          refine At.blr ?_
          refine At.thr ?_
          refine rt1 (.inl rfl) Try.results12 rfl (.tmp (Has.t' rfl ?_) .nil)
          all_goals (exact isB_eq (hermB_no fun hh => by have hsl := sgn_lt ((mf C (vals xs)) r (fc C ((mf C (vals xs)) i))); have hcz := cmpZ_cases ((mf C (vals xs)) r (fc C ((mf C (vals xs)) i))) ((mf C (vals xs)) i (fc C ((mf C (vals xs)) i))); have hx1 := (hh i hiR (by omega)).2.2 r (by omega); omega))
        · have hc4 := BP.f hc4
          have hrow : 0 ≤ (mf C (vals xs)) r (fc C ((mf C (vals xs)) i)) ∧ (mf C (vals xs)) r (fc C ((mf C (vals xs)) i)) < (mf C (vals xs)) i (fc C ((mf C (vals xs)) i)) := by
            have h1 := mt (sgn_lt ((mf C (vals xs)) r (fc C ((mf C (vals xs)) i)))).2
            have h2 := cmpZ_cases ((mf C (vals xs)) r (fc C ((mf C (vals xs)) i))) ((mf C (vals xs)) i (fc C ((mf C (vals xs)) i)))
            omega
          refine Tri.skip ?_
          refine At.bln ?_
          refine At.thn (hK16 _ _ ?_); clear hK16
          refine Tri.region ?_
          refine st (OK1.mv (Has.t rfl)) rfl ?_
          refine st (OK1.addI (Has.t rfl) (Has.cI 1 rfl) (by first | omega | assumption) (by first | omega | assumption)) rfl ?_
          refine st (OK1.as (Has.t rfl)) rfl ?_
          refine nl ?_
          refine At.thn ?_
          refine hK13 (⟨r + 1, by omega, fun j hj hc => by rcases Nat.lt_or_ge j r with h | h; exact hI2 j h hc; obtain rfl : j = r := (by omega); exact hrow⟩) _ _ ?_ (Cv.trans (Cv.drop ((.cons _ (.cons_cons _ .slnil)))) (Cv.mem (.cons (t := 5) (Has.t' rfl ?_) (.cons (t := 1) (Has.t rfl) (.cons (t := 3) (Has.t rfl) (.cons (t := 7) (Has.t rfl) (.cons (t := 8) (Has.t rfl) (.cons (t := 9) (Has.t rfl) (.cons (t := 10) (Has.t rfl) (.cons (t := 13) (Has.t rfl) (.cons (t := 14) (Has.t rfl) (.cons (t := 15) (Has.t rfl) (.cons (t := 4) (Has.t rfl) (.cons (t := 16) (Has.t rfl) (.cons (t := 17) (Has.t rfl) (.cons (t := 18) (Has.t rfl) (.cons (t := 19) (Has.t rfl) (.cons (t := 20) (Has.t rfl) (.cons (t := 21) (Has.t rfl) (.cons (t := 22) (Has.t rfl) (.cons (t := 23) (Has.t rfl) (.cons (t := 24) (Has.t rfl) (.cons (t := 25) (Has.t rfl) (.cons (t := 26) (Has.t rfl) (.cons (t := 27) (Has.t rfl) (.cons (t := 28) (Has.t rfl) (.cons (t := 29) (Has.t rfl) (.cons (t := 30) (Has.t rfl) (.cons (t := 31) (Has.t rfl) (.cons (t := 32) (Has.t rfl) (.cons (t := 33) (Has.t rfl) (.cons (t := 34) (Has.t rfl) (.cons (t := 35) (Has.t rfl) (.cons (t := 36) (Has.t rfl) (.cons (t := 37) (Has.t rfl) (.cons (t := 38) (Has.t rfl) (.cons (t := 39) (Has.t rfl) (.cons (t := 40) (Has.t rfl) (.cons (t := 41) (Has.t rfl) (.cons (t := 42) (Has.t rfl) (.cons (t := 43) (Has.t rfl) (.cons (t := 44) (Has.t rfl) (.cons (t := 45) (Has.t rfl) .nil))))))))))))))))))))))))))))))))))))))))) ?_))
          · show i - (r + 1) < i - r; omega
          · exact isI_eq (by omega)
          · rfl
      · have hc3 := BP.f hc3
        skip
        refine Tri.exit ?_
        refine At.the ?_
        refine At.the ?_
        refine At.blh ?_
        refine At.bln ?_
        refine At.thn (hK7 _ _ ?_); clear hK7
        refine Tri.region ?_
        refine st (OK1.mv (Has.t rfl)) rfl ?_
        refine st (OK1.addI (Has.t rfl) (Has.cI 1 rfl) (by first | omega | assumption) (by first | omega | assumption)) rfl ?_
        refine st (OK1.as (Has.t rfl)) rfl ?_
        refine nl ?_
        refine At.thn ?_
        refine hK4 (⟨i + 1, by omega, hF.snoc fun hc => ⟨fun h0 => by omega, by have := hs0 hc; omega, fun r' hr' => hI2 r' (by omega) hc⟩⟩) _ _ ?_ (Cv.mem (.cons (t := 3) (Has.t' rfl ?_) (.cons (t := 1) (Has.t rfl) .nil)) ?_)
        · show R - (i + 1) < R - i; omega
        · exact isI_eq (by omega)
        · rfl
  · have hc1 := BP.f hc1
    skip
    refine Tri.exit ?_
    refine At.the ?_
    refine At.the ?_
    refine At.blh ?_
    refine At.thn (hK2 _ _ ?_); clear hK2
    refine Tri.cv (Cv.wk .nil) ?_
    refine Tri.seq fun K20 hK20 => ?_
    refine Tri.region ?_
    refine st (OK1.as (Has.cB true)) rfl ?_
    refine nl ?_
    refine At.thn (hK20 _ _ ?_); clear hK20
    refine Tri.ret ?_
    refine rt1 (.inl rfl) Try.results12 rfl (.tmp (Has.t' rfl ?_) .nil)
    all_goals (exact isB_eq (hermB_yes (by rw [show R = i by omega]; exact hF)))
end Go.Proofs.Ytcfobfedliajdaa
/- Contracts: the multiples that make a row, whatever the rows are. -/
namespace Go.Proofs.Ytcfobfedliajdaa
open Go.En Go.RowKit
set_option linter.unusedVariables false
set_option maxRecDepth 10000
open Go.Nt
open Go.Pz
open Go.Mz
open Go.Hn
open Go.Hp
open Go.Dt
set_option maxHeartbeats 4000000 in
theorem hnf_Coordinates_len {r : Int} {C : Nat} {xs vs : List (Bool × List Nat)} (hvl : vs.length ≠ C) : Ctr Try.prog 8 [isM r (C : Int) xs, SlK 2 zc vs] (isTup [isP [], isI 2]) := by
  refine Ctr.intro Try.func8 rfl (by kernel_rfl) Try.ntmps8 rfl fun w0 F0 => ?_
  refine Tri.cv (Cv.wk (.cons (t := 0) (Has.t rfl) (.cons (t := 1) (Has.t rfl) .nil))) ?_
  refine Tri.fact (Has.lenLt (Has.t (t := 1) rfl)) fun lt1 => ?_
  refine Tri.seq fun K1 hK1 => ?_
  refine Tri.region ?_
  refine Ops.box (Has.t rfl) rfl fun b1 => ?_
  refine st (OK1.as (Has.cWK (k := 2) (fk := zc))) rfl ?_
  refine st (OK1.as (Has.cI 0 rfl)) rfl ?_
  refine nl ?_
  refine At.thn (hK1 _ _ ?_); clear hK1
  refine Tri.seq fun K2 hK2 => ?_
  refine Tri.block ?_
  refine Tri.seq fun K3 hK3 => ?_
  refine Tri.region ?_
  refine st (OK1.load (Has.t rfl) (i := 0) rfl ty24 rfl (Ss' := [_, _, _]) rfl) rfl ?_
  refine st (OK1.call (zmat_Formed) (.cons (Has.t rfl) .nil)) rfl ?_
  refine st (OK1.not (Has.t rfl)) rfl ?_
  refine st (OK1.mv (Has.t rfl)) rfl ?_
  refine stF rfl rfl (fun hg => have hg' := BP.t hg; OK1.mv (Has.t rfl)) rfl ?_
  refine stF rfl rfl (fun hg => have hg' := BP.t hg; OK1.len sl22 (Has.g rfl hg)) rfl ?_
  refine stF rfl rfl (fun hg => have hg' := BP.t hg; OK1.fieldAddr (Has.t rfl) fld24_1 ty3) rfl ?_
  refine stF rfl rfl (fun hg => have hg' := BP.t hg; OK1.load1 (Has.g rfl hg) (i := 0) rfl ty3 rfl) rfl ?_
  refine stF rfl rfl (fun hg => have hg' := BP.t hg; OK1.neI (Has.g rfl hg) (Has.g rfl hg)) rfl ?_
  refine st (OK1.pickOr (Has.t rfl) (fun h => Has.g rfl (ng h))) rfl ?_
  refine st (OK1.as (Has.t rfl)) rfl ?_
  refine nl ?_
  refine At.thn (hK3 _ _ ?_); clear hK3
  refine Tri.cv (Cv.wk (.cons (t := 1) (Has.t rfl) (.cons (t := 2) (Has.t rfl) (.cons (t := 4) (Has.t rfl) (.cons (t := 5) (Has.t rfl) (.cons (t := 14) (Has.t rfl) .nil)))))) ?_
  refine Tri.cond (Has.t rfl) (fun hc1 => ?_) (fun hc1 => ?_)
  · have hc1 := BP.t hc1
    skip
    refine Tri.seq fun K4 hK4 => ?_
    refine Tri.region ?_
    refine st (OK1.as (Has.cWK (k := 2) (fk := zc))) rfl ?_
    refine st (OK1.as (Has.cI 2 rfl)) rfl ?_
    refine nl ?_
    refine At.thn (hK4 _ _ ?_); clear hK4
    refine Tri.ret ?_
    refine At.blr ?_
    refine At.thr ?_
    refine rtN (.inl rfl) Try.results8 rfl rfl (.tmp (Has.t' rfl ?_) (.tmp (Has.t' rfl ?_) .nil))
    · rfl
    · rfl
  · have hc1 := BP.f hc1
    exfalso; first | omega | (have := hc1.2; omega)
set_option maxHeartbeats 4000000 in
theorem hnf_Coordinates_arg {R C K : Nat} {xs vs : List (Bool × List Nat)} (hx : Bd (vals xs) K) (hK : K ≤ 100000000) (hR : R ≤ 64) (hC : C ≤ 64) (hl : xs.length = R * C) (hvl : vs.length = C) (hF : hermB R C (mf C (vals xs)) = false) : Ctr Try.prog 8 [isM (R : Int) (C : Int) xs, SlK 2 zc vs] (isTup [isP [], isI 1]) := by
  refine Ctr.intro Try.func8 rfl (by kernel_rfl) Try.ntmps8 rfl fun w0 F0 => ?_
  refine Tri.cv (Cv.wk (.cons (t := 0) (Has.t rfl) (.cons (t := 1) (Has.t rfl) .nil))) ?_
  refine Tri.fact (Has.lenLt (Has.t (t := 1) rfl)) fun lt1 => ?_
  have hfo := formB_true hR hC hl
  refine Tri.seq fun K1 hK1 => ?_
  refine Tri.region ?_
  refine Ops.box (Has.t rfl) rfl fun b1 => ?_
  refine st (OK1.as (Has.cWK (k := 2) (fk := zc))) rfl ?_
  refine st (OK1.as (Has.cI 0 rfl)) rfl ?_
  refine nl ?_
  refine At.thn (hK1 _ _ ?_); clear hK1
  refine Tri.seq fun K2 hK2 => ?_
  refine Tri.block ?_
  refine Tri.seq fun K3 hK3 => ?_
  refine Tri.region ?_
  refine st (OK1.load (Has.t rfl) (i := 0) rfl ty24 rfl (Ss' := [_, _, _]) rfl) rfl ?_
  refine st (OK1.eq (OK1.call (zmat_Formed) (.cons (Has.t rfl) .nil)) ((show isB _ = isB true from isB_eq (hfo)))) rfl ?_
  refine st (OK1.not (Has.t rfl)) rfl ?_
  refine st (OK1.mv (Has.t rfl)) rfl ?_
  refine stF rfl rfl (fun hg => have hg' := BP.t hg; OK1.mv (Has.t rfl)) rfl ?_
  refine stF rfl rfl (fun hg => have hg' := BP.t hg; OK1.len sl22 (Has.g rfl hg)) rfl ?_
  refine stF rfl rfl (fun hg => have hg' := BP.t hg; OK1.fieldAddr (Has.t rfl) fld24_1 ty3) rfl ?_
  refine stF rfl rfl (fun hg => have hg' := BP.t hg; OK1.load1 (Has.g rfl hg) (i := 0) rfl ty3 rfl) rfl ?_
  refine stF rfl rfl (fun hg => have hg' := BP.t hg; OK1.neI (Has.g rfl hg) (Has.g rfl hg)) rfl ?_
  refine st (OK1.pickOr (Has.t rfl) (fun h => Has.g rfl (ng h))) rfl ?_
  refine st (OK1.as (Has.t rfl)) rfl ?_
  refine nl ?_
  refine At.thn (hK3 _ _ ?_); clear hK3
  refine Tri.cv (Cv.wk (.cons (t := 1) (Has.t rfl) (.cons (t := 2) (Has.t rfl) (.cons (t := 4) (Has.t rfl) (.cons (t := 5) (Has.t rfl) (.cons (t := 14) (Has.t rfl) .nil)))))) ?_
  refine Tri.cond (Has.t rfl) (fun hc1 => ?_) (fun hc1 => ?_)
  · have hc1 := BP.t hc1
    exfalso; omega
  · have hc1 := BP.f hc1
    skip
    refine Tri.seq fun K4 hK4 => ?_
    refine Tri.region ?_
    refine st (OK1.load (Has.t rfl) (i := 0) rfl ty24 rfl (Ss' := [_, _, _]) rfl) rfl ?_
    refine st (OK1.eq (OK1.call (hnf_Is (K := K) hx (by omega) hR hC hl) (.cons (Has.t rfl) .nil)) ((show isB _ = isB false from isB_eq (hF)))) rfl ?_
    refine st (OK1.not (Has.t rfl)) rfl ?_
    refine st (OK1.as (Has.t rfl)) rfl ?_
    refine nl ?_
    refine At.thn (hK4 _ _ ?_); clear hK4
    refine Tri.cond (Has.t rfl) (fun hc2 => ?_) (fun hc2 => ?_)
    · have hc2 := BP.t hc2
      skip
      refine Tri.seq fun K5 hK5 => ?_
      refine Tri.region ?_
      refine st (OK1.as (Has.cWK (k := 2) (fk := zc))) rfl ?_
      refine st (OK1.as (Has.cI 1 rfl)) rfl ?_
      refine nl ?_
      refine At.thn (hK5 _ _ ?_); clear hK5
      refine Tri.cv (Cv.wk (.cons (t := 1) (Has.t rfl) (.cons (t := 2) (Has.t rfl) (.cons (t := 4) (Has.t rfl) (.cons (t := 5) (Has.t rfl) .nil))))) ?_
      refine Tri.ret ?_
      refine At.blr ?_
      refine At.thr ?_
      refine rtN (.inl rfl) Try.results8 rfl rfl (.tmp (Has.t' rfl ?_) (.tmp (Has.t' rfl ?_) .nil))
      · rfl
      · rfl
    · have hc2 := BP.f hc2
      exfalso; simp at hc2
theorem cf_coL (R C P : Nat) (L v : List Int) (i : Nat) : cf (coL R C P L v) i = if i < R then (if i < P then crn C L v i else 0) else 0 := by unfold coL; rw [cf_tab]
/-- what is told of a form's rows and any row -/
theorem hnf_CoordF {R C K Kv : Nat} {xs vs : List (Bool × List Nat)} (hx : Bd (vals xs) K) (hR : R ≤ 64) (hC : C ≤ 64) (hl : xs.length = R * C) (hv : Bd (vals vs) Kv) (hvl : vs.length = C) (hK : Kv + (R + 1) * (K + 2) ≤ 100000000) (hF : HermF R C (mf C (vals xs))) :
    ∃ (X : List Int) (e : Int), Ctr Try.prog 8 [isM (R : Int) (C : Int) xs, SlK 2 zc vs] (isTup [isP X, isI e]) ∧ (e = 0 ∨ (e = 10 ∧ X = [])) ∧ Bd X (Kv + (R + 1) * (K + 2)) ∧ (e = 0 → X.length = R ∧ ∀ k, k < C → (sm R fun i => cf X i * mf C (vals xs) i k) = cf (vals vs) k) ∧ (SpZ R C (mf C (vals xs)) (cf (vals vs)) → e = 0) := by
  have hc := hnf_Coordinates hx hR hC hl hv hvl hK hF
  obtain ⟨P, hP, hp1, hp2, hpl⟩ := herm_piv hF
  have hPl : (pivL C (mf C (vals xs)) R).length = P := by rw [hpl, List.length_map, List.length_range]
  have hvv : (vals vs).length = C := by rw [vals_len]; exact hvl
  have hpos : ∀ i, i < P → 0 < mf C (vals xs) i (fc C (mf C (vals xs) i)) := fun i hi => (hF i (by omega) (hp1 i hi)).2.1
  rw [hPl] at hc
  by_cases hsp : spB R C (mf C (vals xs)) (cf (vals vs)) = true
  · rw [if_pos hsp, if_pos hsp] at hc
    refine ⟨_, 0, hc, .inl rfl, fun i => ?_, fun _ => ⟨coL_len _ _ _ _ _, fun k hk => ?_⟩, fun _ => rfl⟩
    · rw [cf_coL]
      split
      · split
        · next h =>
          have hiK : i * (K + 2) ≤ (R + 1) * (K + 2) := Nat.mul_le_mul_right _ (by omega)
          have hb := crs_bd hx hv i fun j hj => hpos j (by omega)
          unfold crn
          exact Nat.le_trans (div_nw (hpos i h) (hb _)) (by omega)
        · rw [Int.natAbs_zero, words_zero]; exact Nat.zero_le _
      · rw [Int.natAbs_zero, words_zero]; exact Nat.zero_le _
    · have h0 := crs_out hF hvv hP hp1 hp2 (spB_iff.1 hsp) k hk
      have h1 := crs_sum (L := vals xs) hvv hk P
      rw [h0, Int.add_zero] at h1
      rw [h1, sm_less hP fun i h2 h3 => by rw [cf_coL, if_pos h3, if_neg (by omega), Int.zero_mul]]
      exact sm_congr fun i hi => by rw [cf_coL, if_pos (by omega), if_pos hi]
  · rw [if_neg hsp, if_neg hsp] at hc
    exact ⟨_, 10, hc, .inr ⟨rfl, rfl⟩, fun i => by rw [cf_nil]; show (List.length (words (Int.natAbs 0))) ≤ _; rw [Int.natAbs_zero, words_zero]; exact Nat.zero_le _, fun h => absurd h (by decide), fun h => absurd (spB_iff.2 h) hsp⟩
/-- what is told of any rows -/
theorem hnf_CoordA {R C K Kv : Nat} {xs vs : List (Bool × List Nat)} (hx : Bd (vals xs) K) (hR : R ≤ 64) (hC : C ≤ 64) (hl : xs.length = R * C) (hv : Bd (vals vs) Kv) (hvl : vs.length = C) (hK : Kv + (R + 1) * (K + 2) ≤ 100000000) :
    ∃ (X : List Int) (e : Int), Ctr Try.prog 8 [isM (R : Int) (C : Int) xs, SlK 2 zc vs] (isTup [isP X, isI e]) ∧ (e = 1 ↔ hermB R C (mf C (vals xs)) = false) := by
  cases h : hermB R C (mf C (vals xs)) with
  | true =>
    obtain ⟨X, e, h1, h2, _⟩ := hnf_CoordF hx hR hC hl hv hvl hK (hermB_iff.1 h)
    exact ⟨X, e, h1, ⟨fun e1 => by omega, fun h => by cases h⟩⟩
  | false =>
    have hK2 : K + 2 ≤ (R + 1) * (K + 2) := Nat.le_mul_of_pos_left _ (Nat.succ_pos R)
    exact ⟨[], 1, hnf_Coordinates_arg hx (by omega) hR hC hl hvl h, ⟨fun _ => rfl, fun _ => rfl⟩⟩
theorem vals_app (a b : List (Bool × List Nat)) : vals (a ++ b) = vals a ++ vals b := by unfold vals; rw [List.map_append]
theorem Bd.app1 {l : List Int} {x : Int} {K : Nat} (h : Bd l K) (hx : (List.length (words x.natAbs)) ≤ K) : Bd (l ++ [x]) K := fun k => by
  rcases Nat.lt_trichotomy k l.length with h1 | h1 | h1
  · rw [show cf (l ++ [x]) k = cf l k by unfold cf; rw [List.getD, List.getD, List.getElem?_append_left h1]]; exact h k
  · rw [show cf (l ++ [x]) k = x by unfold cf; rw [List.getD, h1, List.getElem?_append_right (Nat.le_refl _), Nat.sub_self]; rfl]; exact hx
  · rw [cf_high (by rw [List.length_append, List.length_singleton]; omega), Int.natAbs_zero, words_zero]; exact Nat.zero_le _
set_option maxHeartbeats 4000000 in
theorem law14_makes {R C K N V : Nat} {X : List Int} {xs vs : List (Bool × List Nat)} (hX : Bd X N) (hx : Bd (vals xs) K) (hv : Bd (vals vs) V) (hN : N + K + 64 ≤ 400000000) (hV : V ≤ 400000000) (hR : R ≤ 64) (hC : C ≤ 64) (hl : xs.length = R * C) (hXl : X.length = R) (hvl : vs.length = C) (hs : ∀ k, k < C → (sm R fun i => cf X i * (mf C (vals xs)) i k) = cf (vals vs) k) : Ctr Try.prog 9 [isM (R : Int) (C : Int) xs, isP X, SlK 2 zc vs] (isB true) := by
  refine Ctr.intro Try.func9 rfl (by kernel_rfl) Try.ntmps9 rfl fun w0 F0 => ?_
  refine Tri.cv (Cv.wk (.cons (t := 0) (Has.t rfl) (.cons (t := 1) (Has.t rfl) (.cons (t := 2) (Has.t rfl) .nil)))) ?_
  refine Tri.fact (Has.lenLt (Has.t (t := 2) rfl)) fun lt2 => ?_
  have hXm : (X.map nz).length = R := by rw [List.length_map, hXl]
  obtain ⟨W, hW⟩ : ∃ W, W = tab (1 * C) C fun i k => dotS (fun j => cf (vals (X.map nz)) (i * R + j)) (fun j => cf (vals xs) (j * C + k)) R := ⟨_, rfl⟩
  have hWl : W.length = C := by rw [hW, tab_len, Nat.one_mul]
  have hWb : Bd W (N + K + R) := by rw [hW]; exact Bd_tab fun i k => dotS_nw (fun _ => by rw [vals_nz]; exact hX _) (fun _ => hx _) R
  have hWc : ∀ k, k < C → cf W k = cf (vals vs) k := fun k hk => by
    rw [← hs k hk, hW, show k = 0 * C + k by omega, cf_tab' _ hk (by omega), dotS_sm]
    exact sm_congr fun j _ => by simp only [vals_nz, Nat.zero_mul, Nat.zero_add]; rfl
  refine Tri.seq fun K1 hK1 => ?_
  refine Tri.region ?_
  refine Ops.box (Has.t rfl) rfl fun b1 => ?_
  refine st (OK1.as (Has.cB false)) rfl ?_
  refine nl ?_
  refine At.thn (hK1 _ _ ?_); clear hK1
  refine Tri.seq fun K2 hK2 => ?_
  refine Tri.seq fun K3 hK3 => ?_
  refine Tri.region ?_
  refine st (OK1.mv (Has.t rfl)) rfl ?_
  refine st (OK1.len sl22 (Has.t rfl)) rfl ?_
  refine st (OK1.fieldAddr (Has.t rfl) fld24_0 ty3) rfl ?_
  refine st (OK1.load1 (Has.t rfl) (i := 0) rfl ty3 rfl) rfl ?_
  refine st (OK1.neI (Has.t rfl) (Has.t rfl)) rfl ?_
  refine nl ?_
  refine At.thn (hK3 _ _ ?_); clear hK3
  refine Tri.cv (Cv.wk (.cons (t := 1) (Has.t rfl) (.cons (t := 2) (Has.t rfl) (.cons (t := 3) (Has.t rfl) (.cons (t := 6) (Has.t rfl) (.cons (t := 12) (Has.t rfl) .nil)))))) ?_
  refine Tri.cond (Has.t rfl) (fun hc1 => ?_) (fun hc1 => ?_)
  · have hc1 := BP.t hc1
    exfalso; omega
  · have hc1 := BP.f hc1
    skip
    refine Tri.skip ?_
    refine At.thn (hK2 _ _ ?_); clear hK2
    refine Tri.seq fun K4 hK4 => ?_
    refine Tri.region ?_
    refine st (OK1.fieldAddr (Has.t rfl) fld24_0 ty3) rfl ?_
    refine st (OK1.load1 (Has.t rfl) (i := 0) rfl ty3 rfl) rfl ?_
    refine st (OK1.mv (Has.t rfl)) rfl ?_
    refine st (OK1.build [isI 0, isI 0, nilS] pl24 zero24 (fun _ _ => ⟨⟨rfl, by decide, by decide⟩, ⟨rfl, by decide, by decide⟩, rfl, trivial⟩) (.cons (Has.cI 1 rfl) rfl rfl rfl (.cons (Has.t rfl) rfl rfl rfl (.cons (Has.t rfl) rfl rfl rfl .nil))) (Z'' := [_, _, _]) rfl) rfl ?_
    refine Ops.alloc [isI 0, isI 0, nilS] zero24 (fun _ _ => ⟨⟨rfl, by decide, by decide⟩, ⟨rfl, by decide, by decide⟩, rfl, trivial⟩) rfl fun b2 => ?_
    refine Ops.store (Has.t rfl) (Has.t rfl) (i := 0) rfl ty24 rfl rfl (Ss' := [_, _, _]) rfl (M' := [(some _, cellM [_, _, _]), _]) rfl ?_
    refine nl ?_
    refine At.thn (hK4 _ _ ?_); clear hK4
    refine Tri.cv (Cv.wk (.cons (t := 2) (Has.t rfl) (.cons (t := 3) (Has.t rfl) (.cons (t := 6) (Has.t rfl) (.cons (t := 7) (Has.t rfl) .nil))))) ?_
    refine Tri.seq fun K5 hK5 => ?_
    refine Tri.region ?_
    refine st (OK1.load (Has.t rfl) (i := 0) rfl ty24 rfl (Ss' := [_, _, _]) rfl) rfl ?_
    refine st (OK1.load (Has.t rfl) (i := 1) rfl ty24 rfl (Ss' := [_, _, _]) rfl) rfl ?_
    refine st (OK1.eq (OK1.call (ref11_Mul (R := 1) (C := R) (D := C) (K := N) (N := K) (xs := X.map nz) (by rw [vals_nz]; exact hX) hx (by omega) (by decide) hR hC (by rw [hXm, Nat.one_mul]) hl) (.cons (Has.t rfl) (.cons (Has.t rfl) .nil))) ((show _ = isP W from by rw [hW]))) rfl ?_
    refine st (OK1.mv (Has.t rfl)) rfl ?_
    refine st (OK1.eq (OK1.call (ref10_Same (K := N + K + R) (L := V) (xs := W.map nz) (by rw [vals_nz]; exact hWb) hv (by omega) hV (by rw [List.length_map]; omega) (by omega)) (.cons (Has.t rfl) (.cons (Has.t rfl) .nil))) ((show isB _ = isB true from isB_eq (by rw [vals_nz]; exact same_yes hWc (by omega) (by rw [vals_len]; omega))))) rfl ?_
    refine st (OK1.as (Has.t rfl)) rfl ?_
    refine nl ?_
    refine At.thn (hK5 _ _ ?_); clear hK5
    refine Tri.cv (Cv.wk (.cons (t := 6) (Has.t rfl) .nil)) ?_
    refine Tri.ret ?_
    refine rt1 (.inl rfl) Try.results9 rfl (.tmp (Has.t' rfl ?_) .nil)
    all_goals (rfl)
end Go.Proofs.Ytcfobfedliajdaa
/- Contracts: rows to be brought into form. -/
namespace Go.Proofs.Ytcfobfedliajdaa
open Go.En Go.RowKit
set_option linter.unusedVariables false
set_option maxRecDepth 10000
open Go.Nt
open Go.Pz
open Go.Mz
open Go.Hn
set_option maxHeartbeats 4000000 in
theorem hnf_begun {R C K : Nat} {xs : List (Bool × List Nat)} (hx : Bd (vals xs) K) (hK : K ≤ 4000000000) (hR : R ≤ 64) (hC : C ≤ 64) (hl : xs.length = R * C) : CtrX Try.prog 19 [isM (R : Int) (C : Int) xs] ([]) (fun S M => ∃ bw gt, S = isPtr bw 0 ∧ M = hwM bw gt (rows0 C R (vals xs) R) C 0) := by
  refine CtrX.intro Try.func19 rfl (by kernel_rfl) Try.ntmps19 rfl fun w0 F0 => ?_
  refine Tri.cv (Cv.wk (.cons (t := 0) (Has.t rfl) .nil)) ?_
  refine Tri.seq fun K1 hK1 => ?_
  refine Tri.region ?_
  refine Ops.box (Has.t rfl) rfl fun b1 => ?_
  refine st (OK1.as Has.cP) rfl ?_
  refine nl ?_
  refine At.thn (hK1 _ _ ?_); clear hK1
  refine Tri.seq fun K2 hK2 => ?_
  refine Tri.region ?_
  refine st (OK1.fieldAddr (Has.t rfl) fld24_1 ty3) rfl ?_
  refine st (OK1.load1 (Has.t rfl) (i := 0) rfl ty3 rfl) rfl ?_
  refine st (OK1.build [nilS, isI 0, isI 0] pl50 zero50 (fun _ _ => ⟨rfl, ⟨rfl, by decide, by decide⟩, ⟨rfl, by decide, by decide⟩, trivial⟩) (.cons (Has.t rfl) rfl rfl rfl .nil) (Z'' := [_, _, _]) rfl) rfl ?_
  refine Ops.box (Has.t rfl) rfl fun b2 => ?_
  refine st (OK1.as (Has.t rfl)) rfl ?_
  refine nl ?_
  refine At.thn (hK2 _ _ ?_); clear hK2
  refine Tri.cv (Cv.wk (.cons (t := 1) (Has.t rfl) (.cons (t := 2) (Has.t rfl) (.cons (t := 3) (Has.t rfl) .nil)))) ?_
  refine Tri.seq fun K3 hK3 => ?_
  refine Tri.seq fun K4 hK4 => ?_
  refine Tri.cv (Cv.growF (List Int) (i := 0) (o := 0) rfl rfl rfl) ?_
  refine Tri.memEq (M' := [grM isP Gr.nil [], _, _]) rfl ?_
  refine Tri.region ?_
  refine st (OK1.fieldAddr (Has.t rfl) fld24_0 ty3) rfl ?_
  refine st (OK1.load1 (Has.t rfl) (i := 2) rfl ty3 rfl) rfl ?_
  refine st (OK1.mv (Has.cI 0 rfl)) rfl ?_
  refine nl ?_
  refine At.thn (hK4 _ _ ?_); clear hK4
  refine Tri.block ?_
  refine Tri.loopF [1, 2, 3, 12] (fun (z : { z : Nat × Gr (List Int) // z.1 ≤ R }) => match z with | ⟨(i, gt), hI⟩ => [(13, isI (i : Int))]) (fun M => fun (z : { z : Nat × Gr (List Int) // z.1 ≤ R }) => match z with | ⟨(i, gt), hI⟩ => (grM isP gt (rows0 C R (vals xs) i) :: (some b2, cellM [isGr gt (rows0 C R (vals xs) i).length, isI (C : Int), isI 0]) :: (some b1, cellM [isI (R : Int), isI (C : Int), SlK 2 zc xs]) :: [])) (fun (z : { z : Nat × Gr (List Int) // z.1 ≤ R }) => match z with | ⟨(i, gt), hI⟩ => R - i) (⟨(0, Gr.nil), Nat.zero_le _⟩) (Cv.mem (.cons (t := 13) (Has.t' rfl ?_) (.cons (t := 1) (Has.t rfl) (.cons (t := 2) (Has.t rfl) (.cons (t := 3) (Has.t rfl) (.cons (t := 12) (Has.t rfl) .nil))))) ?_) ?_
  · rfl
  · rfl
  rintro ⟨⟨i, gt⟩, hI⟩ K5 hK5
  refine Tri.cv (Cv.wk (.cons (t := 13) (Has.t rfl) (.cons (t := 1) (Has.t rfl) (.cons (t := 2) (Has.t rfl) (.cons (t := 3) (Has.t rfl) (.cons (t := 12) (Has.t rfl) .nil)))))) ?_
  refine Tri.memEq (M' := (grM isP gt (rows0 C R (vals xs) i) :: (some b2, cellM [isGr gt (rows0 C R (vals xs) i).length, isI (C : Int), isI 0]) :: (some b1, cellM [isI (R : Int), isI (C : Int), SlK 2 zc xs]) :: [])) rfl ?_
  simp only [] at hI
  have hrl := rows0_len C R (vals xs) i
  refine Tri.seq fun K6 hK6 => ?_
  refine Tri.region ?_
  refine st (OK1.ltI (Has.t rfl) (Has.t rfl)) rfl ?_
  refine nl ?_
  refine At.thn (hK6 _ _ ?_); clear hK6
  refine Tri.seq fun K7 hK7 => ?_
  refine Tri.cond (Has.t rfl) (fun hc1 => ?_) (fun hc1 => ?_)
  · have hc1 := BP.t hc1
    refine Tri.skip ?_
    refine At.thn (hK7 _ _ ?_); clear hK7
    refine Tri.seq fun K8 hK8 => ?_
    refine Tri.block ?_
    refine Tri.seq fun K9 hK9 => ?_
    refine Tri.region ?_
    refine st (OK1.mv (Has.t rfl)) rfl ?_
    refine st (OK1.as (Has.t rfl)) rfl ?_
    refine nl ?_
    refine At.thn (hK9 _ _ ?_); clear hK9
    refine Tri.seq fun K10 hK10 => ?_
    refine Tri.region ?_
    refine st (OK1.fieldAddr (Has.t rfl) fld24_1 ty3) rfl ?_
    refine st (OK1.load1 (Has.t rfl) (i := 2) rfl ty3 rfl) rfl ?_
    refine st (OK1.fieldAddr (Has.t rfl) fld24_0 ty3) rfl ?_
    refine st (OK1.load1 (Has.t rfl) (i := 2) rfl ty3 rfl) rfl ?_
    refine st (OK1.eq (OK1.addI (Has.t rfl) (Has.t rfl) (by first | omega | assumption) (by first | omega | assumption)) ((show isI _ = isI ((C + R : Nat) : Int) from isI_eq (by omega)))) rfl ?_
    refine Ops.makeK (fk := zc) (u := (false, [])) (n := (C + R)) (c := (C + R)) sl22 ty37 zero37 (fun _ _ => ⟨rfl, nilM _ _, trivial⟩) zc_len by37 (Has.t' rfl rfl) (Has.t' rfl rfl) ⟨by omega, by omega⟩ rfl fun b3 => ?_
    refine st (OK1.as (Has.t rfl)) rfl ?_
    refine nl ?_
    refine At.thn (hK10 _ _ ?_); clear hK10
    refine Tri.seq fun K11 hK11 => ?_
    refine Tri.seq fun K12 hK12 => ?_
    refine Tri.region ?_
    refine st (OK1.fieldAddr (Has.t rfl) fld24_1 ty3) rfl ?_
    refine st (OK1.load1 (Has.t rfl) (i := 3) rfl ty3 rfl) rfl ?_
    refine st (OK1.mv (Has.cI 0 rfl)) rfl ?_
    refine nl ?_
    refine At.thn (hK12 _ _ ?_); clear hK12
    refine Tri.block ?_
    refine Tri.loopF [1, 2, 3, 12, 13, 14, 15, 4, 16, 17, 18, 19, 20, 21, 5, 22, 23] (fun (z : { k : Nat // k ≤ C }) => match z with | ⟨k, hk⟩ => [(24, isI (k : Int))]) (fun M => fun (z : { k : Nat // k ≤ C }) => match z with | ⟨k, hk⟩ => ((some b3, cellM ((fill ((row0 C R (vals xs) i).map nz) k (false, [])).flatMap zc)) :: grM isP gt (rows0 C R (vals xs) i) :: (some b2, cellM [isGr gt (rows0 C R (vals xs) i).length, isI (C : Int), isI 0]) :: (some b1, cellM [isI (R : Int), isI (C : Int), SlK 2 zc xs]) :: [])) (fun (z : { k : Nat // k ≤ C }) => match z with | ⟨k, hk⟩ => C - k) (⟨0, Nat.zero_le _⟩) (Cv.mem (.cons (t := 24) (Has.t' rfl ?_) (.cons (t := 1) (Has.t rfl) (.cons (t := 2) (Has.t rfl) (.cons (t := 3) (Has.t rfl) (.cons (t := 12) (Has.t rfl) (.cons (t := 13) (Has.t rfl) (.cons (t := 14) (Has.t rfl) (.cons (t := 15) (Has.t rfl) (.cons (t := 4) (Has.t rfl) (.cons (t := 16) (Has.t rfl) (.cons (t := 17) (Has.t rfl) (.cons (t := 18) (Has.t rfl) (.cons (t := 19) (Has.t rfl) (.cons (t := 20) (Has.t rfl) (.cons (t := 21) (Has.t rfl) (.cons (t := 5) (Has.t rfl) (.cons (t := 22) (Has.t rfl) (.cons (t := 23) (Has.t rfl) .nil)))))))))))))))))) ?_) ?_
    · rfl
    · exact memZ_eq (by rw [fill_zero, List.length_map, row0_len])
    rintro ⟨k, hk⟩ K13 hK13
    refine Tri.cv (Cv.wk (.cons (t := 24) (Has.t rfl) (.cons (t := 1) (Has.t rfl) (.cons (t := 2) (Has.t rfl) (.cons (t := 3) (Has.t rfl) (.cons (t := 12) (Has.t rfl) (.cons (t := 13) (Has.t rfl) (.cons (t := 14) (Has.t rfl) (.cons (t := 15) (Has.t rfl) (.cons (t := 4) (Has.t rfl) (.cons (t := 16) (Has.t rfl) (.cons (t := 17) (Has.t rfl) (.cons (t := 18) (Has.t rfl) (.cons (t := 19) (Has.t rfl) (.cons (t := 20) (Has.t rfl) (.cons (t := 21) (Has.t rfl) (.cons (t := 5) (Has.t rfl) (.cons (t := 22) (Has.t rfl) (.cons (t := 23) (Has.t rfl) .nil))))))))))))))))))) ?_
    refine Tri.memEq (M' := ((some b3, cellM ((fill ((row0 C R (vals xs) i).map nz) k (false, [])).flatMap zc)) :: grM isP gt (rows0 C R (vals xs) i) :: (some b2, cellM [isGr gt (rows0 C R (vals xs) i).length, isI (C : Int), isI 0]) :: (some b1, cellM [isI (R : Int), isI (C : Int), SlK 2 zc xs]) :: [])) rfl ?_
    have hf := fill_len ((row0 C R (vals xs) i).map nz) k (false, []) (by rw [List.length_map, row0_len]; omega)
    rw [List.length_map, row0_len] at hf
    refine Tri.seq fun K14 hK14 => ?_
    refine Tri.region ?_
    refine st (OK1.ltI (Has.t rfl) (Has.t rfl)) rfl ?_
    refine nl ?_
    refine At.thn (hK14 _ _ ?_); clear hK14
    refine Tri.seq fun K15 hK15 => ?_
    refine Tri.cond (Has.t rfl) (fun hc2 => ?_) (fun hc2 => ?_)
    · have hc2 := BP.t hc2
      refine Tri.skip ?_
      refine At.thn (hK15 _ _ ?_); clear hK15
      refine Tri.seq fun K16 hK16 => ?_
      refine Tri.block ?_
      refine Tri.seq fun K17 hK17 => ?_
      refine Tri.region ?_
      refine st (OK1.mv (Has.t rfl)) rfl ?_
      refine st (OK1.as (Has.t rfl)) rfl ?_
      refine nl ?_
      refine At.thn (hK17 _ _ ?_); clear hK17
      refine Tri.region ?_
      refine st (OK1.mv (Has.t rfl)) rfl ?_
      refine st (OK1.mv (Has.t rfl)) rfl ?_
      refine st (OK1.load (Has.t rfl) (i := 3) rfl ty24 rfl (Ss' := [_, _, _]) rfl) rfl ?_
      refine st (OK1.mv (Has.t rfl)) rfl ?_
      refine st (OK1.mv (Has.t rfl)) rfl ?_
      refine st (OK1.call (zmat_At hx hK hR hC hl (i := i) (k := k) (by omega) (by omega)) (.cons (Has.t rfl) (.cons (Has.t rfl) (.cons (Has.t rfl) .nil)))) rfl ?_
      refine st (OK1.eq (OK1.ixWin sl22 ty37 (Has.t rfl) (Has.t rfl) ⟨by omega, by omega⟩) (isPtr_eq (by first | exact ixo0 | exact ixo2 | exact ixo1))) rfl ?_
      refine Ops.storeK (z := nz (cf (vals xs) (i * C + k))) zc_len (Has.t rfl) (Has.t rfl) (i := 0) rfl ty37 (by simp only [Int.toNat_natCast]; omega) (M' := [(_, _), _, _, _]) rfl ?_
      refine nl ?_
      refine At.bln ?_
      refine At.thn (hK16 _ _ ?_); clear hK16
      refine Tri.region ?_
      refine st (OK1.addI (Has.t rfl) (Has.cI 1 rfl) (by first | omega | assumption) (by first | omega | assumption)) rfl ?_
      refine st (OK1.mv (Has.t rfl)) rfl ?_
      refine nl ?_
      refine At.thn ?_
      refine hK13 (⟨k + 1, by omega⟩) _ _ ?_ (Cv.mem (.cons (t := 24) (Has.t' rfl ?_) (.cons (t := 1) (Has.t rfl) (.cons (t := 2) (Has.t rfl) (.cons (t := 3) (Has.t rfl) (.cons (t := 12) (Has.t rfl) (.cons (t := 13) (Has.t rfl) (.cons (t := 14) (Has.t rfl) (.cons (t := 15) (Has.t rfl) (.cons (t := 4) (Has.t rfl) (.cons (t := 16) (Has.t rfl) (.cons (t := 17) (Has.t rfl) (.cons (t := 18) (Has.t rfl) (.cons (t := 19) (Has.t rfl) (.cons (t := 20) (Has.t rfl) (.cons (t := 21) (Has.t rfl) (.cons (t := 5) (Has.t rfl) (.cons (t := 22) (Has.t rfl) (.cons (t := 23) (Has.t rfl) .nil)))))))))))))))))) ?_)
      · show C - (k + 1) < C - k; omega
      · exact isI_eq (by omega)
      · exact memF_eq (row0_at (by omega))
    · have hc2 := BP.f hc2
      refine Tri.exit ?_
      refine At.the ?_
      refine At.the ?_
      refine At.blh ?_
      refine At.thn (hK11 _ _ ?_); clear hK11
      refine Tri.seq fun K18 hK18 => ?_
      refine Tri.dr ?_
      refine DrG.st (i := 0) [] rfl rfl rfl (by kernel_rfl) (OKG.o rfl (OK1.mv (Has.t rfl))) ?_
      refine DrG.st (i := 1) [] rfl rfl rfl (by kernel_rfl) (OKG.o rfl (OK1.fieldAddr (Has.t rfl) fld24_1 ty3)) ?_
      refine DrG.st (i := 2) [36] rfl rfl rfl (by kernel_rfl) (OKG.o rfl (OK1.load1 (Has.t rfl) (i := 3) rfl ty3 rfl)) ?_
      refine DrG.st (i := 3) [] rfl rfl rfl (by kernel_rfl) (OKG.o rfl (OK1.mv (Has.t rfl))) ?_
      refine DrG.st (i := 4) [37, 38] rfl rfl rfl (by kernel_rfl) (OKG.o rfl (OK1.eq (OK1.addI (Has.t rfl) (Has.t rfl) (by first | omega | assumption) (by first | omega | assumption)) ((show isI _ = isI ((C + i : Nat) : Int) from isI_eq (by omega))))) ?_
      refine DrG.st (i := 5) [] rfl rfl rfl (by kernel_rfl) (OKG.o rfl (OK1.eq (OK1.call (zint_Of) (.cons (Has.cI 1 rfl) .nil)) ((show isZ 1 = Flat (zc (nz 1)) from rfl)))) ?_
      refine DrG.fin (n := 6) mixed (by kernel_rfl) (by kernel_rfl) (by kernel_rfl) ?_
      refine Ops.cv (Cv.wk (.cons (t := 1) (Has.t rfl) (.cons (t := 2) (Has.t rfl) (.cons (t := 3) (Has.t rfl) (.cons (t := 12) (Has.t rfl) (.cons (t := 13) (Has.t rfl) (.cons (t := 14) (Has.t rfl) (.cons (t := 15) (Has.t rfl) (.cons (t := 4) (Has.t rfl) (.cons (t := 16) (Has.t rfl) (.cons (t := 17) (Has.t rfl) (.cons (t := 18) (Has.t rfl) (.cons (t := 19) (Has.t rfl) (.cons (t := 20) (Has.t rfl) (.cons (t := 21) (Has.t rfl) (.cons (t := 5) (Has.t rfl) (.cons (t := 22) (Has.t rfl) (.cons (t := 23) (Has.t rfl) (.cons (t := 24) (Has.t rfl) (.cons (t := 25) (Has.t rfl) (.cons (t := 35) (Has.t rfl) (.cons (t := 36) (Has.t rfl) (.cons (t := 37) (Has.t rfl) (.cons (t := 38) (Has.t rfl) (.cons (t := 39) (Has.t rfl) (.cons (t := 40) (Has.t rfl) .nil)))))))))))))))))))))))))) ?_
      refine st (OK1.eq (OK1.ixWin sl22 ty37 (Has.t rfl) (Has.t rfl) ⟨by omega, by omega⟩) (isPtr_eq (by first | exact ixo0 | exact ixo2 | exact ixo1))) rfl ?_
      refine Ops.storeK (z := nz 1) zc_len (Has.t rfl) (Has.t rfl) (i := 0) rfl ty37 (by simp only [Int.toNat_natCast]; omega) (M' := [(_, _), _, _, _]) rfl ?_
      refine nl ?_
      refine At.thn (hK18 _ _ ?_); clear hK18
      refine Tri.cv (Cv.freezeK (t := 5) (i := 0) (ys := (row0 C R (vals xs) i).map nz) zc_len rfl rfl rfl (by rw [List.length_set]; omega) (row0_fill (by omega) (by omega) rfl)) ?_
      refine Tri.memEq (M' := [_, _, _]) rfl ?_
      refine Tri.cv (Cv.wk (.cons (t := 1) (Has.t rfl) (.cons (t := 2) (Has.t rfl) (.cons (t := 3) (Has.t rfl) (.cons (t := 12) (Has.t rfl) (.cons (t := 13) (Has.t rfl) (.cons (t := 14) (Has.t rfl) (.cons (t := 15) (Has.t rfl) (.cons (t := 4) (Has.t rfl) (.cons (t := 16) (Has.t rfl) (.cons (t := 17) (Has.t rfl) (.cons (t := 18) (Has.t rfl) (.cons (t := 19) (Has.t rfl) (.cons (t := 20) (Has.t rfl) (.cons (t := 5) (Has.t rfl) (.cons (t := 22) (Has.t rfl) (.cons (t := 23) (Has.t rfl) (.cons (t := 24) (Has.t rfl) (.cons (t := 25) (Has.t rfl) (.cons (t := 36) (Has.t rfl) (.cons (t := 37) (Has.t rfl) (.cons (t := 38) (Has.t rfl) (.cons (t := 39) (Has.t rfl) (.cons (t := 40) (Has.t rfl) .nil)))))))))))))))))))))))) ?_
      refine Tri.region ?_
      refine st (OK1.mv (Has.t rfl)) rfl ?_
      refine st (OK1.mv (Has.t rfl)) rfl ?_
      refine st (OK1.nilc (Has.t rfl)) rfl ?_
      refine st (OK1.fieldAddr (Has.t rfl) fld50_0 ty48) rfl ?_
      refine st (OK1.load1 (Has.t rfl) (i := 1) rfl ty48 rfl) rfl ?_
      refine st (OK1.mv (Has.t rfl)) rfl ?_
      refine st (OK1.buildS [nilS] sl48 ty22 zero22 (fun _ _ => ⟨rfl, trivial⟩) rfl rfl (.cons (Has.t rfl) rfl rfl rfl .nil) rfl (S := SlM isP [row0 C R (vals xs) i]) rfl) rfl ?_
      refine Ops.appendG (f := isP) (u := ([] : List Int)) sl48 ty22 zero22 (fun _ _ => ⟨nilK, trivial⟩) (fun _ => inferInstance) by22 (Has.t rfl) (i := 0) rfl (Has.t rfl) (by rw [hrl]; show i + 1 ≤ _; omega) (by simp) rfl fun gr1 => ?_
      refine Ops.memEq (M' := [grM _ _ _, _, _]) rfl ?_
      refine st (OK1.nilc (Has.t rfl)) rfl ?_
      refine st (OK1.fieldAddr (Has.t rfl) fld50_0 ty48) rfl ?_
      refine Ops.store (Has.t rfl) (Has.t rfl) (i := 1) rfl ty48 rfl rfl (Ss' := [_, _, _]) rfl (M' := [_, (some _, cellM [_, _, _]), _]) rfl ?_
      refine nl ?_
      refine At.bln ?_
      refine At.thn (hK8 _ _ ?_); clear hK8
      refine Tri.region ?_
      refine st (OK1.addI (Has.t rfl) (Has.cI 1 rfl) (by first | omega | assumption) (by first | omega | assumption)) rfl ?_
      refine st (OK1.mv (Has.t rfl)) rfl ?_
      refine nl ?_
      refine At.thn ?_
      refine hK5 (⟨(i + 1, gr1), by show i + 1 ≤ R; omega⟩) _ _ ?_ (Cv.mem (.cons (t := 13) (Has.t' rfl ?_) (.cons (t := 1) (Has.t rfl) (.cons (t := 2) (Has.t rfl) (.cons (t := 3) (Has.t rfl) (.cons (t := 12) (Has.t rfl) .nil))))) ?_)
      · show R - (i + 1) < R - i; omega
      · exact isI_eq (by omega)
      · show _ = ([grM isP gr1 (rows0 C R (vals xs) (i + 1)), (some b2, cellM [isGr gr1 (rows0 C R (vals xs) (i + 1)).length, isI (C : Int), isI 0]), _] : Mem); rw [← rows0_succ, List.length_append]
  · have hc1 := BP.f hc1
    refine Tri.exit ?_
    refine At.the ?_
    refine At.the ?_
    refine At.blh ?_
    refine At.thn (hK3 _ _ ?_); clear hK3
    refine Tri.seq fun K19 hK19 => ?_
    refine Tri.cv (Cv.drop ((.cons_cons _ (.cons_cons _ (.cons _ .slnil))))) ?_
    refine Tri.cv (Cv.wk (.cons (t := 2) (Has.t rfl) (.cons (t := 3) (Has.t rfl) (.cons (t := 12) (Has.t rfl) (.cons (t := 13) (Has.t rfl) (.cons (t := 14) (Has.t rfl) .nil)))))) ?_
    refine Tri.cv (Cv.perm (List.Perm.swap _ _ _)) ?_
    refine Tri.region ?_
    refine st (OK1.mv (Has.t rfl)) rfl ?_
    refine st (OK1.as (Has.t rfl)) rfl ?_
    refine nl ?_
    refine At.thn (hK19 _ _ ?_); clear hK19
    refine Tri.cv (Cv.wk (.cons (t := 2) (Has.t rfl) .nil)) ?_
    refine Tri.ret ?_
    refine rtX1 (.inl rfl) Try.results19 rfl (.tmp (Has.t rfl) .nil) ?_
    exact ⟨b2, gt, rfl, by obtain rfl : i = R := (by omega); rfl⟩
end Go.Proofs.Ytcfobfedliajdaa
/- Contracts: two rows are joined. -/
namespace Go.Proofs.Ytcfobfedliajdaa
open Go.En Go.RowKit
set_option linter.unusedVariables false
set_option maxRecDepth 10000
open Go.Nt
open Go.Pz
open Go.Mz
open Go.Hn
set_option maxHeartbeats 4000000 in
theorem hnf_join {bw C : Nat} {gt : Gr (List Int)} {rs : List (List Int)} {t i col W P K : Nat} (hrow : ∀ r ∈ rs, r.length = W) (hti : t < i) (hi : i < rs.length) (hc : col < W) (hW : W ≤ 128) (hR : rs.length ≤ 64) (hpB : ∀ r ∈ rs, Bd r P) (hqB : Bd (rs.getD i []) K) (hPK : P + K ≤ 90000000) : CtrX Try.prog 46 [isPtr bw 0, isI (i : Int), isI (col : Int)] (hwM bw gt rs C t) (fun S M => S = isTup [] ∧ M = hwM bw gt (jn rs t i col) C t) := by
  refine CtrX.intro Try.func46 rfl (by kernel_rfl) Try.ntmps46 rfl fun w0 F0 => ?_
  refine Tri.cv (Cv.wk (.cons (t := 0) (Has.t rfl) (.cons (t := 1) (Has.t rfl) (.cons (t := 2) (Has.t rfl) .nil)))) ?_
  refine Tri.fact (Has.rngI (Has.t (t := 1) rfl)) fun lt1 => ?_
  refine Tri.fact (Has.rngI (Has.t (t := 2) rfl)) fun lt2 => ?_
  obtain ⟨p, hp⟩ : ∃ p, rs[t]? = some p := ⟨_, List.getElem?_eq_getElem (by omega)⟩
  obtain ⟨q, hq⟩ : ∃ q, rs[i]? = some q := ⟨_, List.getElem?_eq_getElem hi⟩
  have hpl := hrow p (List.mem_of_getElem? hp)
  have hql := hrow q (List.mem_of_getElem? hq)
  rw [getD_of hq] at hqB
  have hpP := hpB p (List.mem_of_getElem? hp)
  have hpc := hpP col
  have hqc := hqB col
  have hxn := xgx_nw (cf p col) (cf q col) hqc
  have hyn := xgy_nw (cf p col) (cf q col) hpc
  have hgn : (List.length (words (xgg (cf p col) (cf q col)).natAbs)) ≤ P + K := by
    unfold xgg
    rw [Int.natAbs_natCast]
    refine Nat.le_trans (nw_mono (gcd_le_max _ _)) ?_
    have := nw_max (cf p col).natAbs (cf q col).natAbs
    omega
  have hun := nz_tdiv (cf p col) (xgg (cf p col) (cf q col))
  have hvn := nz_tdiv (cf q col) (xgg (cf p col) (cf q col))
  refine Tri.seq fun K1 hK1 => ?_
  refine Tri.dr ?_
  refine DrG.st (i := 0) [] rfl rfl rfl (by kernel_rfl) (OKG.o rfl (OK1.mv (Has.t rfl))) ?_
  refine DrG.st (i := 1) [15] rfl rfl rfl (by kernel_rfl) (OKG.o rfl (OK1.nilc (Has.t rfl))) ?_
  refine DrG.st (i := 2) [16] rfl rfl rfl (by kernel_rfl) (OKG.o rfl (OK1.fieldAddr (Has.t rfl) fld50_0 ty48)) ?_
  refine DrG.st (i := 3) [17] rfl rfl rfl (by kernel_rfl) (OKG.o rfl (OK1.load1 (Has.t rfl) (i := 0) rfl ty48 rfl)) ?_
  refine DrG.st (i := 4) [] rfl rfl rfl (by kernel_rfl) (OKG.o rfl (OK1.mv (Has.t rfl))) ?_
  refine DrG.st (i := 5) [19] rfl rfl rfl (by kernel_rfl) (OKG.o rfl (OK1.nilc (Has.t rfl))) ?_
  refine DrG.st (i := 6) [20] rfl rfl rfl (by kernel_rfl) (OKG.o rfl (OK1.fieldAddr (Has.t rfl) fld50_2 ty3)) ?_
  refine DrG.st (i := 7) [21] rfl rfl rfl (by kernel_rfl) (OKG.o rfl (OK1.load1 (Has.t rfl) (i := 0) rfl ty3 rfl)) ?_
  refine DrG.st (i := 8) [18, 22] rfl rfl rfl (by kernel_rfl) (OKG.o rfl (OK1.ixGr sl48 ty22 (Has.t rfl) (Has.t rfl) ⟨by omega, by omega⟩)) ?_
  refine DrG.st (i := 9) [23] rfl rfl rfl (by kernel_rfl) (OKG.o rfl (OK1.loadGM (Has.t rfl) (i := 1) rfl ty22 hp)) ?_
  refine DrG.st (i := 10) [] rfl rfl rfl (by kernel_rfl) (OKG.o rfl (OK1.mv (Has.t rfl))) ?_
  refine DrG.st (i := 11) [25] rfl rfl rfl (by kernel_rfl) (OKG.o rfl (OK1.nilc (Has.t rfl))) ?_
  refine DrG.st (i := 12) [26] rfl rfl rfl (by kernel_rfl) (OKG.o rfl (OK1.fieldAddr (Has.t rfl) fld50_0 ty48)) ?_
  refine DrG.st (i := 13) [27] rfl rfl rfl (by kernel_rfl) (OKG.o rfl (OK1.load1 (Has.t rfl) (i := 0) rfl ty48 rfl)) ?_
  refine DrG.st (i := 14) [] rfl rfl rfl (by kernel_rfl) (OKG.o rfl (OK1.mv (Has.t rfl))) ?_
  refine DrG.st (i := 15) [28, 29] rfl rfl rfl (by kernel_rfl) (OKG.o rfl (OK1.ixGr sl48 ty22 (Has.t rfl) (Has.t rfl) ⟨by omega, by omega⟩)) ?_
  refine DrG.st (i := 16) [30] rfl rfl rfl (by kernel_rfl) (OKG.o rfl (OK1.loadGM (Has.t rfl) (i := 1) rfl ty22 hq)) ?_
  refine DrG.st (i := 17) [24] rfl rfl rfl (by kernel_rfl) (OKG.o rfl (OK1.as (Has.t rfl))) ?_
  refine DrG.fin (n := 18) mixed (by kernel_rfl) (by kernel_rfl) (by kernel_rfl) ?_
  refine Ops.cv (Cv.wk (.cons (t := 0) (Has.t rfl) (.cons (t := 1) (Has.t rfl) (.cons (t := 2) (Has.t rfl) (.cons (t := 31) (Has.t rfl) (.cons (t := 6) (Has.t rfl) .nil)))))) ?_
  refine st (OK1.as (Has.t rfl)) rfl ?_
  refine nl ?_
  refine At.thn (hK1 _ _ ?_); clear hK1
  refine Tri.seq fun K2 hK2 => ?_
  refine Tri.drh [true, true] (Ms := [_, _]) rfl ?_
  refine DrH.st (i := 0) [] rfl rfl rfl (by kernel_rfl) (OKG.o rfl (OK1.mv (Has.t rfl))) ?_
  refine DrH.st (i := 1) [] rfl rfl rfl (by kernel_rfl) (OKG.o rfl (OK1.mv (Has.t rfl))) ?_
  refine DrH.st (i := 2) [33, 34] rfl rfl rfl (by kernel_rfl) (OKG.o rfl (OK1.ixK sl22 ty37 (Has.t rfl) (Has.t rfl) zc_len ⟨by omega, by rw [List.length_map]; omega⟩ (getZ (i := col) (by omega)))) ?_
  refine DrH.st (i := 3) [35] rfl rfl rfl (by kernel_rfl) (OKG.o rfl (OK1.loadP (Has.t rfl) ty37 rfl (Ss' := [_, _]) rfl)) ?_
  refine DrH.st (i := 4) [] rfl rfl rfl (by kernel_rfl) (OKG.o rfl (OK1.mv (Has.t rfl))) ?_
  refine DrH.st (i := 5) [] rfl rfl rfl (by kernel_rfl) (OKG.o rfl (OK1.mv (Has.t rfl))) ?_
  refine DrH.st (i := 6) [37, 38] rfl rfl rfl (by kernel_rfl) (OKG.o rfl (OK1.ixK sl22 ty37 (Has.t rfl) (Has.t rfl) zc_len ⟨by omega, by rw [List.length_map]; omega⟩ (getZ (i := col) (by omega)))) ?_
  refine DrH.st (i := 7) [39] rfl rfl rfl (by kernel_rfl) (OKG.o rfl (OK1.loadP (Has.t rfl) ty37 rfl (Ss' := [_, _]) rfl)) ?_
  refine DrH.st (i := 8) [36, 40] rfl rfl rfl (by kernel_rfl) (OKG.o rfl (OK1.eq (OK1.call (zint_XgcdA (by rw [val_words]; omega) (by rw [val_words]; omega)) (.cons (Has.t rfl) (.cons (Has.t rfl) .nil))) ((show _ = isTup [isZ (xgg (cf p col) (cf q col)), isZ (xgx (cf p col) (cf q col)), isZ (xgy (cf p col) (cf q col))] from by simp only [zv_nz, zv_nf])))) ?_
  refine DrH.st (i := 9) [41] rfl rfl rfl (by kernel_rfl) (OKG.o rfl (OK1.mv (Has.t rfl))) ?_
  refine DrH.st (i := 10) [32] rfl rfl rfl (by kernel_rfl) (OKG.o rfl (OK1.ext (Has.t rfl) rfl)) ?_
  refine DrH.st (i := 11) [32] rfl rfl rfl (by kernel_rfl) (OKG.o rfl (OK1.ext (Has.t rfl) rfl)) ?_
  refine DrH.st (i := 12) [32] rfl rfl rfl (by kernel_rfl) (OKG.o rfl (OK1.ext (Has.t rfl) rfl)) ?_
  refine DrH.als (n1 := 16) (ds := [8, 9, 10]) (zs := [[isB false, SlM isU []], [isB false, SlM isU []], [isB false, SlM isU []]]) rfl (.cons rfl rfl zero37 (fun _ _ => ⟨rfl, nilM _ _, trivial⟩) (.cons rfl rfl zero37 (fun _ _ => ⟨rfl, nilM _ _, trivial⟩) (.cons rfl rfl zero37 (fun _ _ => ⟨rfl, nilM _ _, trivial⟩) .nil))) (.cons_cons _ (.cons_cons _ .slnil)) (Cs := [_, _, _]) rfl ?_
  refine DrN.new [42] 0 (Ss' := [_, _]) (Cs' := [cellM [_, _], _, _]) rfl (by kernel_rfl) (by kernel_rfl) rfl rfl rfl (by kernel_rfl) rfl (Has.t rfl) ty37 rfl rfl rfl rfl ?_
  refine DrN.new [43] 1 (Ss' := [_, _]) (Cs' := [_, cellM [_, _], _]) rfl (by kernel_rfl) (by kernel_rfl) rfl rfl rfl (by kernel_rfl) rfl (Has.t rfl) ty37 rfl rfl rfl rfl ?_
  refine DrN.fin (n := 18) mixed rfl (by kernel_rfl) (by kernel_rfl) (by kernel_rfl) (fun bs hbs => ?_)
  obtain ⟨b1, b2, b3, rfl⟩ := len3 hbs
  refine Ops.memEq (M' := [_, _, _, _, _]) rfl ?_
  refine Ops.cv (Cv.wk (.cons (t := 0) (Has.t rfl) (.cons (t := 1) (Has.t rfl) (.cons (t := 2) (Has.t rfl) (.cons (t := 6) (Has.t rfl) (.cons (t := 7) (Has.t rfl) (.cons (t := 44) (Has.t rfl) (.cons (t := 8) (Has.op rfl) (.cons (t := 9) (Has.op rfl) (.cons (t := 10) (Has.op rfl) .nil)))))))))) ?_
  refine Ops.store (Has.t rfl) (Has.t rfl) (i := 2) rfl ty37 rfl rfl (Ss' := [_, _]) rfl (M' := [_, _, (some _, cellM [_, _]), _, _]) rfl ?_
  refine nl ?_
  refine At.thn (hK2 _ _ ?_); clear hK2
  refine Tri.seq fun K3 hK3 => ?_
  refine Tri.seq fun K4 hK4 => ?_
  refine Tri.region ?_
  refine st (OK1.load (Has.t rfl) (i := 0) rfl ty37 rfl (Ss' := [_, _]) rfl) rfl ?_
  refine st (OK1.eq (OK1.call (zint_Sign (by rw [val_words]; omega)) (.cons (Has.t rfl) .nil)) ((show _ = isI (sgn (xgg (cf p col) (cf q col))) from by rw [zv_nf]))) rfl ?_
  refine st (OK1.eqI (Has.t rfl) (Has.cI 0 rfl)) rfl ?_
  refine nl ?_
  refine At.thn (hK4 _ _ ?_); clear hK4
  refine Tri.cond (Has.t rfl) (fun hc1 => ?_) (fun hc1 => ?_)
  · have hc1 := BP.t hc1
    have hg0 := (sgn_eq0 _).1 hc1
    refine Tri.ret ?_
    refine At.thr ?_
    refine rtX0D (.cons _ (.cons _ (.cons _ (.cons_cons _ (.cons_cons _ .slnil))))) (.inl rfl) Try.results46 rfl ?_
    exact ⟨rfl, hwM_eq (jn_no hp hq hg0).symm (by rw [jn_len])⟩
  · have hc1 := BP.f hc1
    have hg0 : ¬ (xgg (cf p col) (cf q col)) = 0 := fun e => hc1 ((sgn_eq0 _).2 e)
    refine Tri.skip ?_
    refine At.thn (hK3 _ _ ?_); clear hK3
    refine Tri.seq fun K5 hK5 => ?_
    refine Tri.drh [true, true, true, true, true] (Ms := [_, _, _, _, _]) rfl ?_
    refine DrH.st (i := 0) [] rfl rfl rfl (by kernel_rfl) (OKG.o rfl (OK1.mv (Has.t rfl))) ?_
    refine DrH.st (i := 1) [] rfl rfl rfl (by kernel_rfl) (OKG.o rfl (OK1.mv (Has.t rfl))) ?_
    refine DrH.st (i := 2) [49, 50] rfl rfl rfl (by kernel_rfl) (OKG.o rfl (OK1.ixK sl22 ty37 (Has.t rfl) (Has.t rfl) zc_len ⟨by omega, by rw [List.length_map]; omega⟩ (getZ (i := col) (by omega)))) ?_
    refine DrH.st (i := 3) [51] rfl rfl rfl (by kernel_rfl) (OKG.o rfl (OK1.loadP (Has.t rfl) ty37 rfl (Ss' := [_, _]) rfl)) ?_
    refine DrH.st (i := 4) [] rfl rfl rfl (by kernel_rfl) (OKG.o rfl (OK1.load (Has.t rfl) (i := 0) rfl ty37 rfl (Ss' := [_, _]) rfl)) ?_
    refine DrH.st (i := 5) [52, 53] rfl rfl rfl (by kernel_rfl) (OKG.o rfl (OK1.call (zint_Exact (by rw [val_words]; omega) (by rw [val_words]; omega)) (.cons (Has.t rfl) (.cons (Has.t rfl) .nil)))) ?_
    refine DrH.st (i := 6) [54] rfl rfl rfl (by kernel_rfl) (OKG.o rfl (OK1.mv (Has.t rfl))) ?_
    refine DrH.st (i := 7) [48] rfl rfl rfl (by kernel_rfl) (OKG.o rfl (OK1.eq (OK1.ext (Has.t rfl) rfl) ((show _ = isZ ((cf p col).tdiv (xgg (cf p col) (cf q col))) from isZ_eq (by simp only [zv_nz, zv_nf]; exact if_pos ⟨hg0, Int.tmod_eq_zero_of_dvd (xgg_left _ _)⟩))))) ?_
    refine DrH.st (i := 8) [48] rfl rfl rfl (by kernel_rfl) (OKG.o rfl (OK1.ext (Has.t rfl) rfl)) ?_
    refine DrH.als (n1 := 10) (ds := [11]) (zs := [[isB false, SlM isU []]]) rfl (.cons rfl rfl zero37 (fun _ _ => ⟨rfl, nilM _ _, trivial⟩) .nil) (.cons_cons _ (.cons_cons _ (.cons_cons _ (.cons_cons _ (.cons_cons _ .slnil))))) (Cs := [_]) rfl ?_
    refine DrN.new [55] 0 (Ss' := [_, _]) (Cs' := [cellM [_, _]]) rfl (by kernel_rfl) (by kernel_rfl) rfl rfl rfl (by kernel_rfl) rfl (Has.t rfl) ty37 rfl rfl rfl rfl ?_
    refine DrN.fin (n := 11) mixed rfl (by kernel_rfl) (by kernel_rfl) (by kernel_rfl) (fun bs hbs => ?_)
    obtain ⟨b4, rfl⟩ := len1 hbs
    refine Ops.memEq (M' := [_, _, _, _, _, _]) rfl ?_
    refine Ops.cv (Cv.wk (.cons (t := 0) (Has.t rfl) (.cons (t := 1) (Has.t rfl) (.cons (t := 2) (Has.t rfl) (.cons (t := 6) (Has.t rfl) (.cons (t := 7) (Has.t rfl) (.cons (t := 8) (Has.t rfl) (.cons (t := 9) (Has.t rfl) (.cons (t := 10) (Has.t rfl) (.cons (t := 56) (Has.t rfl) (.cons (t := 11) (Has.op rfl) .nil))))))))))) ?_
    refine st (OK1.as (Has.t rfl)) rfl ?_
    refine nl ?_
    refine At.thn (hK5 _ _ ?_); clear hK5
    refine Tri.seq fun K6 hK6 => ?_
    refine Tri.drh [true, true, true, true, true, true] (Ms := [_, _, _, _, _, _]) rfl ?_
    refine DrH.st (i := 0) [] rfl rfl rfl (by kernel_rfl) (OKG.o rfl (OK1.mv (Has.t rfl))) ?_
    refine DrH.st (i := 1) [] rfl rfl rfl (by kernel_rfl) (OKG.o rfl (OK1.mv (Has.t rfl))) ?_
    refine DrH.st (i := 2) [58, 59] rfl rfl rfl (by kernel_rfl) (OKG.o rfl (OK1.ixK sl22 ty37 (Has.t rfl) (Has.t rfl) zc_len ⟨by omega, by rw [List.length_map]; omega⟩ (getZ (i := col) (by omega)))) ?_
    refine DrH.st (i := 3) [60] rfl rfl rfl (by kernel_rfl) (OKG.o rfl (OK1.loadP (Has.t rfl) ty37 rfl (Ss' := [_, _]) rfl)) ?_
    refine DrH.st (i := 4) [] rfl rfl rfl (by kernel_rfl) (OKG.o rfl (OK1.load (Has.t rfl) (i := 1) rfl ty37 rfl (Ss' := [_, _]) rfl)) ?_
    refine DrH.st (i := 5) [61, 62] rfl rfl rfl (by kernel_rfl) (OKG.o rfl (OK1.call (zint_Exact (by rw [val_words]; omega) (by rw [val_words]; omega)) (.cons (Has.t rfl) (.cons (Has.t rfl) .nil)))) ?_
    refine DrH.st (i := 6) [63] rfl rfl rfl (by kernel_rfl) (OKG.o rfl (OK1.mv (Has.t rfl))) ?_
    refine DrH.st (i := 7) [57] rfl rfl rfl (by kernel_rfl) (OKG.o rfl (OK1.eq (OK1.ext (Has.t rfl) rfl) ((show _ = isZ ((cf q col).tdiv (xgg (cf p col) (cf q col))) from isZ_eq (by simp only [zv_nz, zv_nf]; exact if_pos ⟨hg0, Int.tmod_eq_zero_of_dvd (xgg_right _ _)⟩))))) ?_
    refine DrH.st (i := 8) [57] rfl rfl rfl (by kernel_rfl) (OKG.o rfl (OK1.ext (Has.t rfl) rfl)) ?_
    refine DrH.als (n1 := 10) (ds := [13]) (zs := [[isB false, SlM isU []]]) rfl (.cons rfl rfl zero37 (fun _ _ => ⟨rfl, nilM _ _, trivial⟩) .nil) (.cons_cons _ (.cons_cons _ (.cons_cons _ (.cons_cons _ (.cons_cons _ (.cons_cons _ .slnil)))))) (Cs := [_]) rfl ?_
    refine DrN.new [64] 0 (Ss' := [_, _]) (Cs' := [cellM [_, _]]) rfl (by kernel_rfl) (by kernel_rfl) rfl rfl rfl (by kernel_rfl) rfl (Has.t rfl) ty37 rfl rfl rfl rfl ?_
    refine DrN.fin (n := 11) mixed rfl (by kernel_rfl) (by kernel_rfl) (by kernel_rfl) (fun bs hbs => ?_)
    obtain ⟨b5, rfl⟩ := len1 hbs
    refine Ops.memEq (M' := [_, _, _, _, _, _, _]) rfl ?_
    refine Ops.cv (Cv.wk (.cons (t := 0) (Has.t rfl) (.cons (t := 1) (Has.t rfl) (.cons (t := 6) (Has.t rfl) (.cons (t := 7) (Has.t rfl) (.cons (t := 9) (Has.t rfl) (.cons (t := 10) (Has.t rfl) (.cons (t := 11) (Has.t rfl) (.cons (t := 65) (Has.t rfl) (.cons (t := 13) (Has.op rfl) .nil)))))))))) ?_
    refine st (OK1.as (Has.t rfl)) rfl ?_
    refine nl ?_
    refine At.thn (hK6 _ _ ?_); clear hK6
    refine Tri.dry mixed ?_
    refine DrB.take (i := 0) rfl rfl rfl rfl (by kernel_rfl) (by kernel_rfl) (by kernel_rfl) (by kernel_rfl) (fun _ _ _ _ h => h) (OKY.mv (Has.t rfl)) ?_
    refine DrB.take (i := 1) rfl rfl rfl rfl (by kernel_rfl) (by kernel_rfl) (by kernel_rfl) (by kernel_rfl) (fun _ _ _ _ h => h) (OKY.nilc (Has.t rfl)) ?_
    refine DrB.take (i := 2) rfl rfl rfl rfl (by kernel_rfl) (by kernel_rfl) (by kernel_rfl) (by kernel_rfl) (fun _ _ _ _ h => h) (OKY.fieldAddr (Has.t rfl) fld50_0 ty48) ?_
    refine DrB.take (i := 4) rfl rfl rfl rfl (by kernel_rfl) (by kernel_rfl) (by kernel_rfl) (by kernel_rfl) (fun _ _ _ _ h => h) (OKY.mv (Has.t rfl)) ?_
    refine DrB.take (i := 5) rfl rfl rfl rfl (by kernel_rfl) (by kernel_rfl) (by kernel_rfl) (by kernel_rfl) (fun _ _ _ _ h => h) (OKY.nilc (Has.t rfl)) ?_
    refine DrB.take (i := 6) rfl rfl rfl rfl (by kernel_rfl) (by kernel_rfl) (by kernel_rfl) (by kernel_rfl) (fun _ _ _ _ h => h) (OKY.fieldAddr (Has.t rfl) fld50_2 ty3) ?_
    refine DrB.take (i := 8) rfl rfl rfl rfl (by kernel_rfl) (by kernel_rfl) (by kernel_rfl) (by kernel_rfl) (fun _ _ _ _ h => h) (OKY.mv (Has.t rfl)) ?_
    refine DrB.take (i := 9) rfl rfl rfl rfl (by kernel_rfl) (by kernel_rfl) (by kernel_rfl) (by kernel_rfl) (fun _ _ _ _ h => h) (OKY.nilc (Has.t rfl)) ?_
    refine DrB.take (i := 10) rfl rfl rfl rfl (by kernel_rfl) (by kernel_rfl) (by kernel_rfl) (by kernel_rfl) (fun _ _ _ _ h => h) (OKY.fieldAddr (Has.t rfl) fld50_0 ty48) ?_
    refine DrB.take (i := 12) rfl rfl rfl rfl (by kernel_rfl) (by kernel_rfl) (by kernel_rfl) (by kernel_rfl) (fun _ _ _ _ h => h) (OKY.mv (Has.t rfl)) ?_
    refine DrB.take (i := 14) rfl rfl rfl rfl (by kernel_rfl) (by kernel_rfl) (by kernel_rfl) (by kernel_rfl) (fun _ _ _ _ h => h) (OKY.mv (Has.t rfl)) ?_
    refine DrB.take (i := 16) rfl rfl rfl rfl (by kernel_rfl) (by kernel_rfl) (by kernel_rfl) (by kernel_rfl) (fun _ _ _ _ h => h) (OKY.mv (Has.t rfl)) ?_
    refine DrB.take (i := 20) rfl rfl rfl rfl (by kernel_rfl) (by kernel_rfl) (by kernel_rfl) (by kernel_rfl) (fun _ _ _ _ h => h) (OKY.mv (Has.t rfl)) ?_
    refine DrB.take (i := 22) rfl rfl rfl rfl (by kernel_rfl) (by kernel_rfl) (by kernel_rfl) (by kernel_rfl) (fun _ _ _ _ h => h) (OKY.mv (Has.t rfl)) ?_
    refine DrB.go [] ?_
    refine DrC.st (i := 3) [] rfl rfl rfl (by kernel_rfl) (by kernel_rfl) (OKG.o rfl (OK1.load1 (Has.t rfl) (i := 5) rfl ty48 rfl)) ?_
    refine DrC.st (i := 7) [] rfl rfl rfl (by kernel_rfl) (by kernel_rfl) (OKG.o rfl (OK1.load1 (Has.t rfl) (i := 5) rfl ty3 rfl)) ?_
    refine DrC.st (i := 11) [] rfl rfl rfl (by kernel_rfl) (by kernel_rfl) (OKG.o rfl (OK1.load1 (Has.t rfl) (i := 5) rfl ty48 rfl)) ?_
    refine DrC.st (i := 13) [] rfl rfl rfl (by kernel_rfl) (by kernel_rfl) (OKG.o rfl (OK1.load (Has.t rfl) (i := 3) rfl ty37 rfl (Ss' := [_, _]) rfl)) ?_
    refine DrC.st (i := 15) [] rfl rfl rfl (by kernel_rfl) (by kernel_rfl) (OKG.o rfl (OK1.load (Has.t rfl) (i := 4) rfl ty37 rfl (Ss' := [_, _]) rfl)) ?_
    refine DrC.st (i := 17) [79, 81] rfl rfl rfl (by kernel_rfl) (by kernel_rfl) (OKG.o rfl (OK1.eq (OK1.call (hnf_mixed (A := K + 1) (B := P + 2) (K := P) (L := K) (by rw [val_words]; omega) (by rw [vals_nz]; exact hpP) (by rw [val_words]; omega) (by rw [vals_nz]; exact hqB) (by omega) (by omega) (by rw [List.length_map, List.length_map]; omega) (by rw [List.length_map]; omega)) (.cons (Has.t rfl) (.cons (Has.t rfl) (.cons (Has.t rfl) (.cons (Has.t rfl) .nil))))) ((show _ = isP (mx2 (xgx (cf p col) (cf q col)) p (xgy (cf p col) (cf q col)) q) from isPl_eq (by simp only [zv_nf, vals_nz]))))) ?_
    refine DrC.st (i := 18) [] rfl rfl rfl (by kernel_rfl) (by kernel_rfl) (OKG.o rfl (OK1.load (Has.t rfl) (i := 0) rfl ty37 rfl (Ss' := [_, _]) rfl)) ?_
    refine DrC.st (i := 19) [84] rfl rfl rfl (by kernel_rfl) (by kernel_rfl) (OKG.o rfl (OK1.call (zint_Neg (by rw [val_words]; omega)) (.cons (Has.t rfl) .nil))) ?_
    refine DrC.st (i := 21) [] rfl rfl rfl (by kernel_rfl) (by kernel_rfl) (OKG.o rfl (OK1.load (Has.t rfl) (i := 1) rfl ty37 rfl (Ss' := [_, _]) rfl)) ?_
    refine DrC.st (i := 23) [85, 87] rfl rfl rfl (by kernel_rfl) (by kernel_rfl) (OKG.o rfl (OK1.eq (OK1.call (hnf_mixed (A := K) (B := P) (K := P) (L := K) (by rw [val_words, zv_nf, Int.natAbs_neg]; omega) (by rw [vals_nz]; exact hpP) (by rw [val_words]; omega) (by rw [vals_nz]; exact hqB) (by omega) (by omega) (by rw [List.length_map, List.length_map]; omega) (by rw [List.length_map]; omega)) (.cons (Has.t rfl) (.cons (Has.t rfl) (.cons (Has.t rfl) (.cons (Has.t rfl) .nil))))) ((show _ = isP (mx2 (-((cf q col).tdiv (xgg (cf p col) (cf q col)))) p ((cf p col).tdiv (xgg (cf p col) (cf q col))) q) from isPl_eq (by simp only [zv_nf, vals_nz]))))) ?_
    refine DrC.fin [24, 25, 26, 27] (by kernel_rfl) (by kernel_rfl) (fun _ _ _ _ _ h => h) (by kernel_rfl) (by kernel_rfl) (by kernel_rfl) (by kernel_rfl) (by kernel_rfl) (by kernel_rfl) (by kernel_rfl) (by kernel_rfl) (by kernel_rfl) ?_
    refine Ops.cv (Cv.wk (.cons (t := 78) (Has.t rfl) (.cons (t := 69) (Has.t rfl) (.cons (t := 73) (Has.t rfl) (.cons (t := 77) (Has.t rfl) (.cons (t := 83) (Has.t rfl) (.cons (t := 89) (Has.t rfl) .nil))))))) ?_
    refine st (OK1.ixGr sl48 ty22 (Has.t rfl) (Has.t rfl) ⟨by omega, by omega⟩) rfl ?_
    refine Ops.storeGM (z := mx2 (xgx (cf p col) (cf q col)) p (xgy (cf p col) (cf q col)) q) (Has.t rfl) (Has.t rfl) (i := 6) rfl ty22 (by omega) (M' := [_, _, _, _, _, _, grM _ _ _]) rfl ?_
    refine st (OK1.ixGr sl48 ty22 (Has.t rfl) (Has.t rfl) ⟨by omega, by omega⟩) rfl ?_
    refine Ops.storeGM (z := mx2 (-((cf q col).tdiv (xgg (cf p col) (cf q col)))) p ((cf p col).tdiv (xgg (cf p col) (cf q col))) q) (Has.t rfl) (Has.t rfl) (i := 6) rfl ty22 (by rw [List.length_set]; omega) (M' := [_, _, _, _, _, _, grM _ _ _]) rfl ?_
    refine nl ?_
    refine rtX0D (.cons _ (.cons _ (.cons _ (.cons _ (.cons _ (.cons_cons _ (.cons_cons _ .slnil))))))) (.inr rfl) Try.results46 rfl ?_
    exact ⟨rfl, hwM_eq (jn_go hp hq hg0).symm (by rw [jn_len])⟩
end Go.Proofs.Ytcfobfedliajdaa
/- Contracts: what is above a pivot is reduced. -/
namespace Go.Proofs.Ytcfobfedliajdaa
open Go.En Go.RowKit
set_option linter.unusedVariables false
set_option maxRecDepth 10000
open Go.Nt
open Go.Pz
open Go.Mz
open Go.Hn
set_option maxHeartbeats 4000000 in
theorem hnf_reduce {bw C : Nat} {gt : Gr (List Int)} {rs : List (List Int)} {t col W P : Nat} (hrow : ∀ r ∈ rs, r.length = W) (ht : t < rs.length) (hc : col < W) (hW : W ≤ 128) (hR : rs.length ≤ 64) (hpB : ∀ r ∈ rs, Bd r P) (hP : P ≤ 90000000) (h0 : 0 < cf (rs.getD t []) col) : CtrX Try.prog 47 [isPtr bw 0, isI (col : Int)] (hwM bw gt rs C t) (fun S M => S = isTup [] ∧ M = hwM bw gt (rds rs t col t) C t) := by
  refine CtrX.intro Try.func47 rfl (by kernel_rfl) Try.ntmps47 rfl fun w0 F0 => ?_
  refine Tri.cv (Cv.wk (.cons (t := 0) (Has.t rfl) (.cons (t := 1) (Has.t rfl) .nil))) ?_
  refine Tri.fact (Has.rngI (Has.t (t := 1) rfl)) fun lt1 => ?_
  obtain ⟨b, hb⟩ : ∃ b, rs[t]? = some b := ⟨_, List.getElem?_eq_getElem ht⟩
  have hbl := hrow b (List.mem_of_getElem? hb)
  rw [getD_of hb] at h0
  have hbP := hpB b (List.mem_of_getElem? hb)
  have hbc := hbP col
  refine Tri.seq fun K1 hK1 => ?_
  refine Tri.dr ?_
  refine DrG.st (i := 0) [] rfl rfl rfl (by kernel_rfl) (OKG.o rfl (OK1.mv (Has.t rfl))) ?_
  refine DrG.st (i := 1) [9] rfl rfl rfl (by kernel_rfl) (OKG.o rfl (OK1.nilc (Has.t rfl))) ?_
  refine DrG.st (i := 2) [10] rfl rfl rfl (by kernel_rfl) (OKG.o rfl (OK1.fieldAddr (Has.t rfl) fld50_0 ty48)) ?_
  refine DrG.st (i := 3) [11] rfl rfl rfl (by kernel_rfl) (OKG.o rfl (OK1.load1 (Has.t rfl) (i := 0) rfl ty48 rfl)) ?_
  refine DrG.st (i := 4) [] rfl rfl rfl (by kernel_rfl) (OKG.o rfl (OK1.mv (Has.t rfl))) ?_
  refine DrG.st (i := 5) [13] rfl rfl rfl (by kernel_rfl) (OKG.o rfl (OK1.nilc (Has.t rfl))) ?_
  refine DrG.st (i := 6) [14] rfl rfl rfl (by kernel_rfl) (OKG.o rfl (OK1.fieldAddr (Has.t rfl) fld50_2 ty3)) ?_
  refine DrG.st (i := 7) [15] rfl rfl rfl (by kernel_rfl) (OKG.o rfl (OK1.load1 (Has.t rfl) (i := 0) rfl ty3 rfl)) ?_
  refine DrG.fin (n := 8) mixed (by kernel_rfl) (by kernel_rfl) (by kernel_rfl) ?_
  refine Ops.cv (Cv.wk (.cons (t := 0) (Has.t rfl) (.cons (t := 1) (Has.t rfl) (.cons (t := 12) (Has.t rfl) (.cons (t := 16) (Has.t rfl) .nil))))) ?_
  refine st (OK1.ixGr sl48 ty22 (Has.t rfl) (Has.t rfl) ⟨by omega, by omega⟩) rfl ?_
  refine st (OK1.loadGM (Has.t rfl) (i := 1) rfl ty22 hb) rfl ?_
  refine st (OK1.as (Has.t rfl)) rfl ?_
  refine nl ?_
  refine At.thn (hK1 _ _ ?_); clear hK1
  refine Tri.seq fun K2 hK2 => ?_
  refine Tri.region ?_
  refine st (OK1.mv (Has.t rfl)) rfl ?_
  refine st (OK1.nilc (Has.t rfl)) rfl ?_
  refine st (OK1.fieldAddr (Has.t rfl) fld50_2 ty3) rfl ?_
  refine st (OK1.load1 (Has.t rfl) (i := 0) rfl ty3 rfl) rfl ?_
  refine st (OK1.mv (Has.cI 0 rfl)) rfl ?_
  refine nl ?_
  refine At.thn (hK2 _ _ ?_); clear hK2
  refine Tri.cv (Cv.wk (.cons (t := 0) (Has.t rfl) (.cons (t := 1) (Has.t rfl) (.cons (t := 4) (Has.t rfl) (.cons (t := 22) (Has.t rfl) (.cons (t := 23) (Has.t rfl) .nil)))))) ?_
  refine Tri.block ?_
  refine Tri.loopF [0, 1, 4, 22] (fun (z : { i : Nat // i ≤ t }) => match z with | ⟨i, hi⟩ => [(23, isI (i : Int))]) (fun M => fun (z : { i : Nat // i ≤ t }) => match z with | ⟨i, hi⟩ => hwM bw gt (rds rs t col i) C t) (fun (z : { i : Nat // i ≤ t }) => match z with | ⟨i, hi⟩ => t - i) (⟨0, Nat.zero_le _⟩) (Cv.mem (.cons (t := 23) (Has.t' rfl ?_) (.cons (t := 0) (Has.t rfl) (.cons (t := 1) (Has.t rfl) (.cons (t := 4) (Has.t rfl) (.cons (t := 22) (Has.t rfl) .nil))))) ?_) ?_
  · rfl
  · rfl
  rintro ⟨i, hi⟩ K3 hK3
  refine Tri.cv (Cv.wk (.cons (t := 23) (Has.t rfl) (.cons (t := 0) (Has.t rfl) (.cons (t := 1) (Has.t rfl) (.cons (t := 4) (Has.t rfl) (.cons (t := 22) (Has.t rfl) .nil)))))) ?_
  refine Tri.memEq (M' := hwM bw gt (rds rs t col i) C t) rfl ?_
  have hlen := rds_len rs t col i
  have hb2 : (rds rs t col i)[t]? = some b := (rds_off hi).trans hb
  refine Tri.seq fun K4 hK4 => ?_
  refine Tri.region ?_
  refine st (OK1.ltI (Has.t rfl) (Has.t rfl)) rfl ?_
  refine nl ?_
  refine At.thn (hK4 _ _ ?_); clear hK4
  refine Tri.seq fun K5 hK5 => ?_
  refine Tri.cond (Has.t rfl) (fun hc1 => ?_) (fun hc1 => ?_)
  · have hc1 := BP.t hc1
    obtain ⟨r, hr⟩ : ∃ r, rs[i]? = some r := ⟨_, List.getElem?_eq_getElem (by omega)⟩
    have hr2 : (rds rs t col i)[i]? = some r := (rds_off (Nat.le_refl _)).trans hr
    have hrl := hrow r (List.mem_of_getElem? hr)
    have hrP := hpB r (List.mem_of_getElem? hr)
    have hrc := hrP col
    have hdn := div_nw h0 hrc
    have h1 := nz_one
    refine Tri.skip ?_
    refine At.thn (hK5 _ _ ?_); clear hK5
    refine Tri.seq fun K6 hK6 => ?_
    refine Tri.block ?_
    refine Tri.seq fun K7 hK7 => ?_
    refine Tri.region ?_
    refine st (OK1.mv (Has.t rfl)) rfl ?_
    refine st (OK1.as (Has.t rfl)) rfl ?_
    refine nl ?_
    refine At.thn (hK7 _ _ ?_); clear hK7
    refine Tri.seq fun K8 hK8 => ?_
    refine Tri.drh [true, true] (Ms := [_, _]) rfl ?_
    refine DrH.st (i := 0) [] rfl rfl rfl (by kernel_rfl) (OKG.o rfl (OK1.mv (Has.t rfl))) ?_
    refine DrH.st (i := 1) [27] rfl rfl rfl (by kernel_rfl) (OKG.o rfl (OK1.nilc (Has.t rfl))) ?_
    refine DrH.st (i := 2) [28] rfl rfl rfl (by kernel_rfl) (OKG.o rfl (OK1.fieldAddr (Has.t rfl) fld50_0 ty48)) ?_
    refine DrH.st (i := 3) [29] rfl rfl rfl (by kernel_rfl) (OKG.o rfl (OK1.load1 (Has.t rfl) (i := 0) rfl ty48 rfl)) ?_
    refine DrH.st (i := 4) [] rfl rfl rfl (by kernel_rfl) (OKG.o rfl (OK1.mv (Has.t rfl))) ?_
    refine DrH.st (i := 5) [30, 31] rfl rfl rfl (by kernel_rfl) (OKG.o rfl (OK1.ixGr sl48 ty22 (Has.t rfl) (Has.t rfl) ⟨by omega, by omega⟩)) ?_
    refine DrH.st (i := 6) [32] rfl rfl rfl (by kernel_rfl) (OKG.o rfl (OK1.loadGM (Has.t rfl) (i := 1) rfl ty22 hr2)) ?_
    refine DrH.st (i := 7) [] rfl rfl rfl (by kernel_rfl) (OKG.o rfl (OK1.mv (Has.t rfl))) ?_
    refine DrH.st (i := 8) [33, 34] rfl rfl rfl (by kernel_rfl) (OKG.o rfl (OK1.ixK sl22 ty37 (Has.t rfl) (Has.t rfl) zc_len ⟨by omega, by rw [List.length_map]; omega⟩ (getZ (i := col) (by omega)))) ?_
    refine DrH.st (i := 9) [35] rfl rfl rfl (by kernel_rfl) (OKG.o rfl (OK1.loadP (Has.t rfl) ty37 rfl (Ss' := [_, _]) rfl)) ?_
    refine DrH.st (i := 10) [] rfl rfl rfl (by kernel_rfl) (OKG.o rfl (OK1.mv (Has.t rfl))) ?_
    refine DrH.st (i := 11) [] rfl rfl rfl (by kernel_rfl) (OKG.o rfl (OK1.mv (Has.t rfl))) ?_
    refine DrH.st (i := 12) [37, 38] rfl rfl rfl (by kernel_rfl) (OKG.o rfl (OK1.ixK sl22 ty37 (Has.t rfl) (Has.t rfl) zc_len ⟨by omega, by rw [List.length_map]; omega⟩ (getZ (i := col) (by omega)))) ?_
    refine DrH.st (i := 13) [39] rfl rfl rfl (by kernel_rfl) (OKG.o rfl (OK1.loadP (Has.t rfl) ty37 rfl (Ss' := [_, _]) rfl)) ?_
    refine DrH.st (i := 14) [36, 40] rfl rfl rfl (by kernel_rfl) (OKG.o rfl (OK1.eq (OK1.call (zint_Floor (by rw [val_words]; omega) (by rw [val_words]; omega) (by simp only [zv_nf, zv_nz]; exact h0)) (.cons (Has.t rfl) (.cons (Has.t rfl) .nil))) ((show _ = isTup [isZ (cf r col / cf b col), isZ (cf r col % cf b col), isB true] from by simp only [zv_nz, zv_nf])))) ?_
    refine DrH.st (i := 15) [41] rfl rfl rfl (by kernel_rfl) (OKG.o rfl (OK1.mv (Has.t rfl))) ?_
    refine DrH.st (i := 16) [26] rfl rfl rfl (by kernel_rfl) (OKG.o rfl (OK1.ext (Has.t rfl) rfl)) ?_
    refine DrH.st (i := 17) [26] rfl rfl rfl (by kernel_rfl) (OKG.o rfl (OK1.ext (Has.t rfl) rfl)) ?_
    refine DrH.st (i := 18) [26] rfl rfl rfl (by kernel_rfl) (OKG.o rfl (OK1.ext (Has.t rfl) rfl)) ?_
    refine DrH.als (n1 := 21) (ds := [6, 7]) (zs := [[isB false, SlM isU []], [isB false, SlM isU []]]) rfl (.cons rfl rfl zero37 (fun _ _ => ⟨rfl, nilM _ _, trivial⟩) (.cons rfl rfl zero37 (fun _ _ => ⟨rfl, nilM _ _, trivial⟩) .nil)) (.cons_cons _ (.cons_cons _ .slnil)) (Cs := [_, _]) rfl ?_
    refine DrN.new [42] 0 (Ss' := [_, _]) (Cs' := [cellM [_, _], _]) rfl (by kernel_rfl) (by kernel_rfl) rfl rfl rfl (by kernel_rfl) rfl (Has.t rfl) ty37 rfl rfl rfl rfl ?_
    refine DrN.new [43] 1 (Ss' := [_, _]) (Cs' := [_, cellM [_, _]]) rfl (by kernel_rfl) (by kernel_rfl) rfl rfl rfl (by kernel_rfl) rfl (Has.t rfl) ty37 rfl rfl rfl rfl ?_
    refine DrN.fin (n := 23) mixed rfl (by kernel_rfl) (by kernel_rfl) (by kernel_rfl) (fun bs hbs => ?_)
    obtain ⟨b1, b2, rfl⟩ := len2 hbs
    refine Ops.memEq (M' := [_, _, _, _]) rfl ?_
    refine Ops.cv (Cv.wk (.cons (t := 0) (Has.t rfl) (.cons (t := 1) (Has.t rfl) (.cons (t := 4) (Has.t rfl) (.cons (t := 22) (Has.t rfl) (.cons (t := 23) (Has.t rfl) (.cons (t := 24) (Has.t rfl) (.cons (t := 25) (Has.t rfl) (.cons (t := 5) (Has.t rfl) (.cons (t := 27) (Has.t rfl) (.cons (t := 28) (Has.t rfl) (.cons (t := 29) (Has.t rfl) (.cons (t := 30) (Has.t rfl) (.cons (t := 31) (Has.t rfl) (.cons (t := 32) (Has.t rfl) (.cons (t := 33) (Has.t rfl) (.cons (t := 34) (Has.t rfl) (.cons (t := 35) (Has.t rfl) (.cons (t := 36) (Has.t rfl) (.cons (t := 37) (Has.t rfl) (.cons (t := 38) (Has.t rfl) (.cons (t := 39) (Has.t rfl) (.cons (t := 40) (Has.t rfl) (.cons (t := 41) (Has.t rfl) (.cons (t := 26) (Has.t rfl) (.cons (t := 42) (Has.t rfl) (.cons (t := 43) (Has.t rfl) (.cons (t := 44) (Has.t rfl) (.cons (t := 6) (Has.op rfl) (.cons (t := 7) (Has.op rfl) .nil)))))))))))))))))))))))))))))) ?_
    refine st (OK1.as (Has.t rfl)) rfl ?_
    refine nl ?_
    refine At.thn (hK8 _ _ ?_); clear hK8
    refine Tri.dry mixed ?_
    refine DrB.take (i := 0) rfl rfl rfl rfl (by kernel_rfl) (by kernel_rfl) (by kernel_rfl) (by kernel_rfl) (fun _ _ _ _ h => h) (OKY.mv (Has.t rfl)) ?_
    refine DrB.take (i := 1) rfl rfl rfl rfl (by kernel_rfl) (by kernel_rfl) (by kernel_rfl) (by kernel_rfl) (fun _ _ _ _ h => h) (OKY.nilc (Has.t rfl)) ?_
    refine DrB.take (i := 2) rfl rfl rfl rfl (by kernel_rfl) (by kernel_rfl) (by kernel_rfl) (by kernel_rfl) (fun _ _ _ _ h => h) (OKY.fieldAddr (Has.t rfl) fld50_0 ty48) ?_
    refine DrB.take (i := 4) rfl rfl rfl rfl (by kernel_rfl) (by kernel_rfl) (by kernel_rfl) (by kernel_rfl) (fun _ _ _ _ h => h) (OKY.mv (Has.t rfl)) ?_
    refine DrB.take (i := 6) rfl rfl rfl rfl (by kernel_rfl) (by kernel_rfl) (by kernel_rfl) (by kernel_rfl) (fun _ _ _ _ h => h) (OKY.mv (Has.t rfl)) ?_
    refine DrB.take (i := 7) rfl rfl rfl rfl (by kernel_rfl) (by kernel_rfl) (by kernel_rfl) (by kernel_rfl) (fun _ _ _ _ h => h) (OKY.nilc (Has.t rfl)) ?_
    refine DrB.take (i := 8) rfl rfl rfl rfl (by kernel_rfl) (by kernel_rfl) (by kernel_rfl) (by kernel_rfl) (fun _ _ _ _ h => h) (OKY.fieldAddr (Has.t rfl) fld50_0 ty48) ?_
    refine DrB.take (i := 10) rfl rfl rfl rfl (by kernel_rfl) (by kernel_rfl) (by kernel_rfl) (by kernel_rfl) (fun _ _ _ _ h => h) (OKY.mv (Has.t rfl)) ?_
    refine DrB.take (i := 15) rfl rfl rfl rfl (by kernel_rfl) (by kernel_rfl) (by kernel_rfl) (by kernel_rfl) (fun _ _ _ _ h => h) (OKY.mv (Has.t rfl)) ?_
    refine DrB.go [] ?_
    refine DrC.st (i := 3) [] rfl rfl rfl (by kernel_rfl) (by kernel_rfl) (OKG.o rfl (OK1.load1 (Has.t rfl) (i := 2) rfl ty48 rfl)) ?_
    refine DrC.st (i := 5) [] rfl rfl rfl (by kernel_rfl) (by kernel_rfl) (OKG.o rfl (OK1.call (zint_Of) (.cons (Has.cI 1 rfl) .nil))) ?_
    refine DrC.st (i := 9) [] rfl rfl rfl (by kernel_rfl) (by kernel_rfl) (OKG.o rfl (OK1.load1 (Has.t rfl) (i := 2) rfl ty48 rfl)) ?_
    refine DrC.st (i := 11) [54] rfl rfl rfl (by kernel_rfl) (by kernel_rfl) (OKG.o rfl (OK1.ixGr sl48 ty22 (Has.t rfl) (Has.t rfl) ⟨by omega, by omega⟩)) ?_
    refine DrC.st (i := 12) [56] rfl rfl rfl (by kernel_rfl) (by kernel_rfl) (OKG.o rfl (OK1.loadGM (Has.t rfl) (i := 3) rfl ty22 hr2)) ?_
    refine DrC.st (i := 13) [] rfl rfl rfl (by kernel_rfl) (by kernel_rfl) (OKG.o rfl (OK1.load (Has.t rfl) (i := 0) rfl ty37 rfl (Ss' := [_, _]) rfl)) ?_
    refine DrC.st (i := 14) [58] rfl rfl rfl (by kernel_rfl) (by kernel_rfl) (OKG.o rfl (OK1.call (zint_Neg (by rw [val_words]; omega)) (.cons (Has.t rfl) .nil))) ?_
    refine DrC.st (i := 16) [50, 57, 59] rfl rfl rfl (by kernel_rfl) (by kernel_rfl) (OKG.o rfl (OK1.eq (OK1.call (hnf_mixed (A := 1) (B := P) (K := P) (L := P) (by rw [val_words]; omega) (by rw [vals_nz]; exact hrP) (by rw [val_words, zv_nf, Int.natAbs_neg]; omega) (by rw [vals_nz]; exact hbP) (by omega) (by omega) (by rw [List.length_map, List.length_map]; omega) (by rw [List.length_map]; omega)) (.cons (Has.t rfl) (.cons (Has.t rfl) (.cons (Has.t rfl) (.cons (Has.t rfl) .nil))))) ((show _ = isP (mx2 1 r (-(cf r col / cf b col)) b) from isPl_eq (by simp only [zv_nf, vals_nz]))))) ?_
    refine DrC.fin [17, 18] (by kernel_rfl) (by kernel_rfl) (fun _ _ _ _ _ h => h) (by kernel_rfl) (by kernel_rfl) (by kernel_rfl) (by kernel_rfl) (by kernel_rfl) (by kernel_rfl) (by kernel_rfl) (by kernel_rfl) (by kernel_rfl) ?_
    refine Ops.cv (Cv.wk (.cons (t := 0) (Has.t rfl) (.cons (t := 1) (Has.t rfl) (.cons (t := 4) (Has.t rfl) (.cons (t := 22) (Has.t rfl) (.cons (t := 23) (Has.t rfl) (.cons (t := 24) (Has.t rfl) (.cons (t := 25) (Has.t rfl) (.cons (t := 5) (Has.t rfl) (.cons (t := 27) (Has.t rfl) (.cons (t := 28) (Has.t rfl) (.cons (t := 29) (Has.t rfl) (.cons (t := 30) (Has.t rfl) (.cons (t := 31) (Has.t rfl) (.cons (t := 32) (Has.t rfl) (.cons (t := 33) (Has.t rfl) (.cons (t := 34) (Has.t rfl) (.cons (t := 35) (Has.t rfl) (.cons (t := 36) (Has.t rfl) (.cons (t := 37) (Has.t rfl) (.cons (t := 38) (Has.t rfl) (.cons (t := 39) (Has.t rfl) (.cons (t := 40) (Has.t rfl) (.cons (t := 41) (Has.t rfl) (.cons (t := 26) (Has.t rfl) (.cons (t := 42) (Has.t rfl) (.cons (t := 43) (Has.t rfl) (.cons (t := 44) (Has.t rfl) (.cons (t := 6) (Has.t rfl) (.cons (t := 7) (Has.t rfl) (.cons (t := 45) (Has.t rfl) (.cons (t := 46) (Has.t rfl) (.cons (t := 47) (Has.t rfl) (.cons (t := 49) (Has.t rfl) (.cons (t := 51) (Has.t rfl) (.cons (t := 52) (Has.t rfl) (.cons (t := 53) (Has.t rfl) (.cons (t := 55) (Has.t rfl) (.cons (t := 60) (Has.t rfl) (.cons (t := 48) (Has.t rfl) (.cons (t := 50) (Has.t rfl) (.cons (t := 54) (Has.t rfl) (.cons (t := 56) (Has.t rfl) (.cons (t := 57) (Has.t rfl) (.cons (t := 58) (Has.t rfl) (.cons (t := 59) (Has.t rfl) (.cons (t := 61) (Has.t rfl) .nil))))))))))))))))))))))))))))))))))))))))))))))) ?_
    refine st (OK1.ixGr sl48 ty22 (Has.t rfl) (Has.t rfl) ⟨by omega, by omega⟩) rfl ?_
    refine Ops.storeGM (z := mx2 1 r (-(cf r col / cf b col)) b) (Has.t rfl) (Has.t rfl) (i := 3) rfl ty22 (by omega) (M' := [_, _, _, grM _ _ _]) rfl ?_
    refine nl ?_
    refine At.bln ?_
    refine At.thn (hK6 _ _ ?_); clear hK6
    refine Tri.region ?_
    refine st (OK1.addI (Has.t rfl) (Has.cI 1 rfl) (by first | omega | assumption) (by first | omega | assumption)) rfl ?_
    refine st (OK1.mv (Has.t rfl)) rfl ?_
    refine nl ?_
    refine At.thn ?_
    refine hK3 (⟨i + 1, by omega⟩) _ _ ?_ (Cv.trans (Cv.drop ((.cons _ (.cons _ (.cons_cons _ (.cons_cons _ .slnil)))))) (Cv.mem (.cons (t := 23) (Has.t' rfl ?_) (.cons (t := 0) (Has.t rfl) (.cons (t := 1) (Has.t rfl) (.cons (t := 4) (Has.t rfl) (.cons (t := 22) (Has.t rfl) .nil))))) ?_))
    · show t - (i + 1) < t - i; omega
    · exact isI_eq (by omega)
    · exact hwM_eq (rd_go hr2 hb2).symm (by show _ = (rds rs t col (i + 1)).length; rw [hlen, rds_len])
  · have hc1 := BP.f hc1
    refine Tri.exit ?_
    refine At.the ?_
    refine At.the ?_
    refine At.blh ?_
    refine rtX0D (.cons_cons _ (.cons_cons _ .slnil)) (.inr rfl) Try.results47 rfl ?_
    exact ⟨rfl, by rw [show t = i by omega]⟩
end Go.Proofs.Ytcfobfedliajdaa
/- Contracts: a column is brought into form. -/
namespace Go.Proofs.Ytcfobfedliajdaa
open Go.En Go.RowKit
set_option linter.unusedVariables false
set_option maxRecDepth 10000
open Go.Nt
open Go.Pz
open Go.Mz
open Go.Hn
set_option maxHeartbeats 4000000 in
theorem hnf_column {bw C : Nat} {gt : Gr (List Int)} {rs : List (List Int)} {t col W K : Nat} (hrow : ∀ r ∈ rs, r.length = W) (ht : t < rs.length) (hc : col < W) (hW : W ≤ 128) (hR : rs.length ≤ 64) (hb : ∀ r ∈ rs, Bd r K) (hK : (K + 3) * (rs.length + 2) ≤ 80000000) : CtrX Try.prog 20 [isPtr bw 0, isI (col : Int)] (hwM bw gt rs C t) (fun S M => S = isTup [] ∧ M = hwM bw gt (hcol ⟨rs, t⟩ col).rows C (hcol ⟨rs, t⟩ col).top) := by
  refine CtrX.intro Try.func20 rfl (by kernel_rfl) Try.ntmps20 rfl fun w0 F0 => ?_
  refine Tri.cv (Cv.wk (.cons (t := 0) (Has.t rfl) (.cons (t := 1) (Has.t rfl) .nil))) ?_
  refine Tri.fact (Has.rngI (Has.t (t := 1) rfl)) fun lt1 => ?_
  obtain ⟨N, hN⟩ : ∃ N, N = rs.length - (t + 1) := ⟨_, rfl⟩
  obtain ⟨P, hP⟩ : ∃ P, P = K + N * (K + 3) := ⟨_, rfl⟩
  have hK1 : (K + 3) * (rs.length + 2) = rs.length * (K + 3) + 2 * (K + 3) := by rw [Nat.mul_add, Nat.mul_comm (K + 3) rs.length, Nat.mul_comm (K + 3) 2]
  have hK2 : N * (K + 3) ≤ rs.length * (K + 3) := Nat.mul_le_mul_right _ (by omega)
  have hcl : hcol ⟨rs, t⟩ col = if cf ((jns rs t col N).getD t []) col = 0 then ⟨jns rs t col N, t⟩ else ⟨rds (hsg (jns rs t col N) t col) t col t, t + 1⟩ := by rw [hN]; rfl
  have hlenA := jns_len rs t col N
  obtain ⟨p, hp⟩ : ∃ p, (jns rs t col N)[t]? = some p := ⟨_, List.getElem?_eq_getElem (by omega)⟩
  have hrowA := jns_row hrow ht (col := col) N
  have hbA : ∀ r ∈ jns rs t col N, Bd r P := by rw [hP]; exact jns_bd hb N
  have hpl := hrowA p (List.mem_of_getElem? hp)
  have hpP := hbA p (List.mem_of_getElem? hp)
  have hpc := hpP col
  rw [getD_of hp] at hcl
  refine Tri.seq fun K1 hK1 => ?_
  refine Tri.seq fun K2 hK2 => ?_
  refine Tri.region ?_
  refine st (OK1.mv (Has.t rfl)) rfl ?_
  refine st (OK1.nilc (Has.t rfl)) rfl ?_
  refine st (OK1.fieldAddr (Has.t rfl) fld50_2 ty3) rfl ?_
  refine st (OK1.load1 (Has.t rfl) (i := 0) rfl ty3 rfl) rfl ?_
  refine st (OK1.addI (Has.t rfl) (Has.cI 1 rfl) (by first | omega | assumption) (by first | omega | assumption)) rfl ?_
  refine st (OK1.as (Has.t rfl)) rfl ?_
  refine nl ?_
  refine At.thn (hK2 _ _ ?_); clear hK2
  refine Tri.cv (Cv.wk (.cons (t := 0) (Has.t rfl) (.cons (t := 1) (Has.t rfl) (.cons (t := 4) (Has.t rfl) .nil)))) ?_
  refine Tri.block ?_
  refine Tri.loopF [0, 1] (fun (z : { n : Nat // n ≤ N }) => match z with | ⟨n, hn⟩ => [(4, isI ((t + 1 + n : Nat) : Int))]) (fun M => fun (z : { n : Nat // n ≤ N }) => match z with | ⟨n, hn⟩ => hwM bw gt (jns rs t col n) C t) (fun (z : { n : Nat // n ≤ N }) => match z with | ⟨n, hn⟩ => N - n) (⟨0, Nat.zero_le _⟩) (Cv.mem (.cons (t := 4) (Has.t' rfl ?_) (.cons (t := 0) (Has.t rfl) (.cons (t := 1) (Has.t rfl) .nil))) ?_) ?_
  · exact isI_eq (by omega)
  · rfl
  rintro ⟨n, hn⟩ K3 hK3
  refine Tri.cv (Cv.wk (.cons (t := 4) (Has.t rfl) (.cons (t := 0) (Has.t rfl) (.cons (t := 1) (Has.t rfl) .nil)))) ?_
  refine Tri.memEq (M' := hwM bw gt (jns rs t col n) C t) rfl ?_
  have hlen := jns_len rs t col n
  have hnK : n * (K + 3) ≤ N * (K + 3) := Nat.mul_le_mul_right _ hn
  refine Tri.seq fun K4 hK4 => ?_
  refine Tri.seq fun K5 hK5 => ?_
  refine Tri.region ?_
  refine st (OK1.mv (Has.t rfl)) rfl ?_
  refine st (OK1.mv (Has.t rfl)) rfl ?_
  refine st (OK1.nilc (Has.t rfl)) rfl ?_
  refine st (OK1.fieldAddr (Has.t rfl) fld50_0 ty48) rfl ?_
  refine st (OK1.load1 (Has.t rfl) (i := 0) rfl ty48 rfl) rfl ?_
  refine st (OK1.len sl48 (Has.t rfl)) rfl ?_
  refine st (OK1.ltI (Has.t rfl) (Has.t rfl)) rfl ?_
  refine nl ?_
  refine At.thn (hK5 _ _ ?_); clear hK5
  refine Tri.cond (Has.t rfl) (fun hc1 => ?_) (fun hc1 => ?_)
  · have hc1 := BP.t hc1
    skip
    refine Tri.skip ?_
    refine At.thn (hK4 _ _ ?_); clear hK4
    refine Tri.seq fun K6 hK6 => ?_
    refine Tri.block ?_
    refine Tri.region ?_
    refine st (OK1.mv (Has.t rfl)) rfl ?_
    refine st (OK1.mv (Has.t rfl)) rfl ?_
    refine st (OK1.mv (Has.t rfl)) rfl ?_
    refine Ops.callX (hnf_join (rs := jns rs t col n) (i := t + 1 + n) (col := col) (P := K + n * (K + 3)) (K := K) (jns_row hrow ht n) (by omega) (by omega) hc hW (by omega) (jns_bd hb n) (by rw [show (jns rs t col n).getD (t + 1 + n) [] = rs.getD (t + 1 + n) [] from by rw [List.getD, jns_far (Nat.le_refl _)]; rfl]; exact getD_bd hb _) (by omega)) (List.Perm.refl _) (.cons (Has.t rfl) (.cons (Has.t rfl) (.cons (Has.t rfl) .nil))) rfl ?_
    rintro _ _ ⟨rfl, rfl⟩
    refine Ops.memEq (M' := hwM bw gt (jns rs t col (n + 1)) C t) rfl ?_
    refine nl ?_
    refine At.bln ?_
    refine At.thn (hK6 _ _ ?_); clear hK6
    refine Tri.region ?_
    refine st (OK1.mv (Has.t rfl)) rfl ?_
    refine st (OK1.addI (Has.t rfl) (Has.cI 1 rfl) (by first | omega | assumption) (by first | omega | assumption)) rfl ?_
    refine st (OK1.as (Has.t rfl)) rfl ?_
    refine nl ?_
    refine At.thn ?_
    refine hK3 (⟨n + 1, by omega⟩) _ _ ?_ (Cv.mem (.cons (t := 4) (Has.t' rfl ?_) (.cons (t := 0) (Has.t rfl) (.cons (t := 1) (Has.t rfl) .nil))) ?_)
    · show N - (n + 1) < N - n; omega
    · exact isI_eq (by omega)
    · rfl
  · have hc1 := BP.f hc1
    have hnN : N = n := (by omega)
    subst hnN
    refine Tri.exit ?_
    refine At.the ?_
    refine At.the ?_
    refine At.blh ?_
    refine At.thn (hK1 _ _ ?_); clear hK1
    refine Tri.cv (Cv.wk (.cons (t := 0) (Has.t rfl) (.cons (t := 1) (Has.t rfl) .nil))) ?_
    refine Tri.cutF [0, 1] (fun (z : { c : List (List Int) // c = hsg (jns rs t col N) t col ∧ ¬ cf p col = 0 }) => match z with | ⟨c, hcs⟩ => []) (fun M => fun (z : { c : List (List Int) // c = hsg (jns rs t col N) t col ∧ ¬ cf p col = 0 }) => match z with | ⟨c, hcs⟩ => hwM bw gt c C t) (fun K7 hK7 => ?_) ?_
    · skip
      refine Tri.seq fun K8 hK8 => ?_
      refine Tri.dr ?_
      refine DrG.st (i := 0) [] rfl rfl rfl (by kernel_rfl) (OKG.o rfl (OK1.mv (Has.t rfl))) ?_
      refine DrG.st (i := 1) [23] rfl rfl rfl (by kernel_rfl) (OKG.o rfl (OK1.nilc (Has.t rfl))) ?_
      refine DrG.st (i := 2) [24] rfl rfl rfl (by kernel_rfl) (OKG.o rfl (OK1.fieldAddr (Has.t rfl) fld50_0 ty48)) ?_
      refine DrG.st (i := 3) [25] rfl rfl rfl (by kernel_rfl) (OKG.o rfl (OK1.load1 (Has.t rfl) (i := 0) rfl ty48 rfl)) ?_
      refine DrG.st (i := 4) [] rfl rfl rfl (by kernel_rfl) (OKG.o rfl (OK1.mv (Has.t rfl))) ?_
      refine DrG.st (i := 5) [27] rfl rfl rfl (by kernel_rfl) (OKG.o rfl (OK1.nilc (Has.t rfl))) ?_
      refine DrG.st (i := 6) [28] rfl rfl rfl (by kernel_rfl) (OKG.o rfl (OK1.fieldAddr (Has.t rfl) fld50_2 ty3)) ?_
      refine DrG.st (i := 7) [29] rfl rfl rfl (by kernel_rfl) (OKG.o rfl (OK1.load1 (Has.t rfl) (i := 0) rfl ty3 rfl)) ?_
      refine DrG.st (i := 8) [26, 30] rfl rfl rfl (by kernel_rfl) (OKG.o rfl (OK1.ixGr sl48 ty22 (Has.t rfl) (Has.t rfl) ⟨by omega, by omega⟩)) ?_
      refine DrG.st (i := 9) [31] rfl rfl rfl (by kernel_rfl) (OKG.o rfl (OK1.loadGM (Has.t rfl) (i := 1) rfl ty22 hp)) ?_
      refine DrG.st (i := 10) [] rfl rfl rfl (by kernel_rfl) (OKG.o rfl (OK1.mv (Has.t rfl))) ?_
      refine DrG.fin (n := 11) mixed (by kernel_rfl) (by kernel_rfl) (by kernel_rfl) ?_
      refine Ops.cv (Cv.wk (.cons (t := 0) (Has.t rfl) (.cons (t := 1) (Has.t rfl) (.cons (t := 32) (Has.t rfl) (.cons (t := 33) (Has.t rfl) .nil))))) ?_
      refine st (OK1.ixK sl22 ty37 (Has.t rfl) (Has.t rfl) zc_len ⟨by omega, by rw [List.length_map]; omega⟩ (getZ (i := col) (by omega))) rfl ?_
      refine st (OK1.loadP (Has.t rfl) ty37 rfl (Ss' := [_, _]) rfl) rfl ?_
      refine st (OK1.eq (OK1.call (zint_Sign (by rw [val_words]; omega)) (.cons (Has.t rfl) .nil)) ((show _ = isI (sgn (cf p col)) from by first | (rw [zv_nf]; done) | (rw [zv_nz]; done) | rfl))) rfl ?_
      refine nl ?_
      refine At.thn (hK8 _ _ ?_); clear hK8
      refine Tri.block ?_
      refine Tri.seq fun K9 hK9 => ?_
      refine Tri.region ?_
      refine st (OK1.eqI (Has.t rfl) (Has.cI 0 rfl)) rfl ?_
      refine st (OK1.as (Has.t rfl)) rfl ?_
      refine nl ?_
      refine At.thn (hK9 _ _ ?_); clear hK9
      refine Tri.cv (Cv.wk (.cons (t := 0) (Has.t rfl) (.cons (t := 1) (Has.t rfl) (.cons (t := 36) (Has.t rfl) (.cons (t := 37) (Has.t rfl) .nil))))) ?_
      refine Tri.cond (Has.t rfl) (fun hc2 => ?_) (fun hc2 => ?_)
      · have hc2 := BP.t hc2
        have h0 : cf p col = 0 := (sgn_eq0 _).1 hc2
        refine Tri.ret ?_
        refine At.blr ?_
        refine At.thr ?_
        refine rtX0 (.inl rfl) Try.results20 rfl ?_
        exact ⟨rfl, by rw [hcl, if_pos h0]⟩
      · have hc2 := BP.f hc2
        have h0 : ¬ cf p col = 0 := fun e => hc2 ((sgn_eq0 _).2 e)
        refine Tri.seq fun K10 hK10 => ?_
        refine Tri.region ?_
        refine st (OK1.eqI (Has.t rfl) (Has.cI (-1) rfl)) rfl ?_
        refine st (OK1.as (Has.t rfl)) rfl ?_
        refine nl ?_
        refine At.thn (hK10 _ _ ?_); clear hK10
        refine Tri.cond (Has.t rfl) (fun hc3 => ?_) (fun hc3 => ?_)
        · have hc3 := BP.t hc3
          have hl0 : cf p col < 0 := (sgn_lt _).1 (by omega)
          refine Tri.dry mixed ?_
          refine DrB.take (i := 0) rfl rfl rfl rfl (by kernel_rfl) (by kernel_rfl) (by kernel_rfl) (by kernel_rfl) (fun _ _ _ _ h => h) (OKY.mv (Has.t rfl)) ?_
          refine DrB.take (i := 1) rfl rfl rfl rfl (by kernel_rfl) (by kernel_rfl) (by kernel_rfl) (by kernel_rfl) (fun _ _ _ _ h => h) (OKY.nilc (Has.t rfl)) ?_
          refine DrB.take (i := 2) rfl rfl rfl rfl (by kernel_rfl) (by kernel_rfl) (by kernel_rfl) (by kernel_rfl) (fun _ _ _ _ h => h) (OKY.fieldAddr (Has.t rfl) fld50_0 ty48) ?_
          refine DrB.take (i := 4) rfl rfl rfl rfl (by kernel_rfl) (by kernel_rfl) (by kernel_rfl) (by kernel_rfl) (fun _ _ _ _ h => h) (OKY.mv (Has.t rfl)) ?_
          refine DrB.take (i := 5) rfl rfl rfl rfl (by kernel_rfl) (by kernel_rfl) (by kernel_rfl) (by kernel_rfl) (fun _ _ _ _ h => h) (OKY.nilc (Has.t rfl)) ?_
          refine DrB.take (i := 6) rfl rfl rfl rfl (by kernel_rfl) (by kernel_rfl) (by kernel_rfl) (by kernel_rfl) (fun _ _ _ _ h => h) (OKY.fieldAddr (Has.t rfl) fld50_2 ty3) ?_
          refine DrB.take (i := 9) rfl rfl rfl rfl (by kernel_rfl) (by kernel_rfl) (by kernel_rfl) (by kernel_rfl) (fun _ _ _ _ h => h) (OKY.mv (Has.t rfl)) ?_
          refine DrB.take (i := 10) rfl rfl rfl rfl (by kernel_rfl) (by kernel_rfl) (by kernel_rfl) (by kernel_rfl) (fun _ _ _ _ h => h) (OKY.nilc (Has.t rfl)) ?_
          refine DrB.take (i := 11) rfl rfl rfl rfl (by kernel_rfl) (by kernel_rfl) (by kernel_rfl) (by kernel_rfl) (fun _ _ _ _ h => h) (OKY.fieldAddr (Has.t rfl) fld50_0 ty48) ?_
          refine DrB.take (i := 13) rfl rfl rfl rfl (by kernel_rfl) (by kernel_rfl) (by kernel_rfl) (by kernel_rfl) (fun _ _ _ _ h => h) (OKY.mv (Has.t rfl)) ?_
          refine DrB.take (i := 14) rfl rfl rfl rfl (by kernel_rfl) (by kernel_rfl) (by kernel_rfl) (by kernel_rfl) (fun _ _ _ _ h => h) (OKY.nilc (Has.t rfl)) ?_
          refine DrB.take (i := 15) rfl rfl rfl rfl (by kernel_rfl) (by kernel_rfl) (by kernel_rfl) (by kernel_rfl) (fun _ _ _ _ h => h) (OKY.fieldAddr (Has.t rfl) fld50_2 ty3) ?_
          refine DrB.take (i := 20) rfl rfl rfl rfl (by kernel_rfl) (by kernel_rfl) (by kernel_rfl) (by kernel_rfl) (fun _ _ _ _ h => h) (OKY.mv (Has.t rfl)) ?_
          refine DrB.take (i := 21) rfl rfl rfl rfl (by kernel_rfl) (by kernel_rfl) (by kernel_rfl) (by kernel_rfl) (fun _ _ _ _ h => h) (OKY.nilc (Has.t rfl)) ?_
          refine DrB.take (i := 22) rfl rfl rfl rfl (by kernel_rfl) (by kernel_rfl) (by kernel_rfl) (by kernel_rfl) (fun _ _ _ _ h => h) (OKY.fieldAddr (Has.t rfl) fld50_0 ty48) ?_
          refine DrB.take (i := 24) rfl rfl rfl rfl (by kernel_rfl) (by kernel_rfl) (by kernel_rfl) (by kernel_rfl) (fun _ _ _ _ h => h) (OKY.mv (Has.t rfl)) ?_
          refine DrB.take (i := 25) rfl rfl rfl rfl (by kernel_rfl) (by kernel_rfl) (by kernel_rfl) (by kernel_rfl) (fun _ _ _ _ h => h) (OKY.nilc (Has.t rfl)) ?_
          refine DrB.take (i := 26) rfl rfl rfl rfl (by kernel_rfl) (by kernel_rfl) (by kernel_rfl) (by kernel_rfl) (fun _ _ _ _ h => h) (OKY.fieldAddr (Has.t rfl) fld50_2 ty3) ?_
          refine DrB.go [] ?_
          refine DrC.st (i := 3) [] rfl rfl rfl (by kernel_rfl) (by kernel_rfl) (OKG.o rfl (OK1.load1 (Has.t rfl) (i := 0) rfl ty48 rfl)) ?_
          refine DrC.st (i := 7) [] rfl rfl rfl (by kernel_rfl) (by kernel_rfl) (OKG.o rfl (OK1.load1 (Has.t rfl) (i := 0) rfl ty3 rfl)) ?_
          refine DrC.st (i := 8) [] rfl rfl rfl (by kernel_rfl) (by kernel_rfl) (OKG.o rfl (OK1.call (zint_Of) (.cons (Has.cI (-1) rfl) .nil))) ?_
          refine DrC.st (i := 12) [] rfl rfl rfl (by kernel_rfl) (by kernel_rfl) (OKG.o rfl (OK1.load1 (Has.t rfl) (i := 0) rfl ty48 rfl)) ?_
          refine DrC.st (i := 16) [] rfl rfl rfl (by kernel_rfl) (by kernel_rfl) (OKG.o rfl (OK1.load1 (Has.t rfl) (i := 0) rfl ty3 rfl)) ?_
          refine DrC.st (i := 17) [53, 57] rfl rfl rfl (by kernel_rfl) (by kernel_rfl) (OKG.o rfl (OK1.ixGr sl48 ty22 (Has.t rfl) (Has.t rfl) ⟨by omega, by omega⟩)) ?_
          refine DrC.st (i := 18) [58] rfl rfl rfl (by kernel_rfl) (by kernel_rfl) (OKG.o rfl (OK1.loadGM (Has.t rfl) (i := 1) rfl ty22 hp)) ?_
          refine DrC.st (i := 19) [] rfl rfl rfl (by kernel_rfl) (by kernel_rfl) (OKG.o rfl (OK1.build [isB false, SlM isU []] pl37 zero37 (fun _ _ => ⟨rfl, nilM _ _, trivial⟩) .nil (Z'' := [_, _]) rfl)) ?_
          refine DrC.st (i := 23) [] rfl rfl rfl (by kernel_rfl) (by kernel_rfl) (OKG.o rfl (OK1.load1 (Has.t rfl) (i := 0) rfl ty48 rfl)) ?_
          refine DrC.st (i := 27) [] rfl rfl rfl (by kernel_rfl) (by kernel_rfl) (OKG.o rfl (OK1.load1 (Has.t rfl) (i := 0) rfl ty3 rfl)) ?_
          refine DrC.st (i := 28) [64, 68] rfl rfl rfl (by kernel_rfl) (by kernel_rfl) (OKG.o rfl (OK1.ixGr sl48 ty22 (Has.t rfl) (Has.t rfl) ⟨by omega, by omega⟩)) ?_
          refine DrC.st (i := 29) [69] rfl rfl rfl (by kernel_rfl) (by kernel_rfl) (OKG.o rfl (OK1.loadGM (Has.t rfl) (i := 1) rfl ty22 hp)) ?_
          refine DrC.st (i := 30) [49, 59, 60, 70] rfl rfl rfl (by kernel_rfl) (by kernel_rfl) (OKG.o rfl (OK1.eq (OK1.call (hnf_mixed (A := 1) (B := 1) (K := P) (L := P) (by rw [val_words]; exact nw_small' (by decide)) (by rw [vals_nz]; exact hpP) (by exact nw_small' (by decide)) (by rw [vals_nz]; exact hpP) (by omega) (by omega) rfl (by rw [List.length_map]; omega)) (.cons (Has.t rfl) (.cons (Has.t rfl) (.cons (Has.t rfl) (.cons (Has.t rfl) .nil))))) ((show _ = isP (mx2 (-1) p 0 p) from isPl_eq (by simp only [zv_nf, vals_nz]; rfl))))) ?_
          refine DrC.fin [31, 32] (by kernel_rfl) (by kernel_rfl) (fun _ _ _ _ _ h => h) (by kernel_rfl) (by kernel_rfl) (by kernel_rfl) (by kernel_rfl) (by kernel_rfl) (by kernel_rfl) (by kernel_rfl) (by kernel_rfl) (by kernel_rfl) ?_
          refine Ops.cv (Cv.wk (.cons (t := 0) (Has.t rfl) (.cons (t := 1) (Has.t rfl) (.cons (t := 44) (Has.t rfl) (.cons (t := 48) (Has.t rfl) (.cons (t := 71) (Has.t rfl) .nil)))))) ?_
          refine st (OK1.ixGr sl48 ty22 (Has.t rfl) (Has.t rfl) ⟨by omega, by omega⟩) rfl ?_
          refine Ops.storeGM (z := mx2 (-1) p 0 p) (Has.t rfl) (Has.t rfl) (i := 1) rfl ty22 (by omega) (M' := [_, grM _ _ _]) rfl ?_
          refine nl ?_
          refine At.bln ?_
          refine At.thn ?_
          refine hK7 (⟨_, rfl, h0⟩) _ _ (Cv.mem (.cons (t := 0) (Has.t rfl) (.cons (t := 1) (Has.t rfl) .nil)) ?_)
          · exact hwM_eq (by unfold hsg; rw [getD_of hp, if_pos hl0]; rfl) (by rw [hsg_len])
        · have hc3 := BP.f hc3
          have hl0 : ¬ cf p col < 0 := fun e => by rcases sgn_cases (cf p col) with h | h | h <;> omega
          refine Tri.skip ?_
          refine At.bln ?_
          refine At.thn ?_
          refine hK7 (⟨_, rfl, h0⟩) _ _ (Cv.mem (.cons (t := 0) (Has.t rfl) (.cons (t := 1) (Has.t rfl) .nil)) ?_)
          · exact hwM_eq (by unfold hsg; rw [getD_of hp, if_neg hl0]) (by rw [hsg_len])
    rintro ⟨c, hcs, h0⟩
    refine Tri.cv (Cv.wk (.cons (t := 0) (Has.t rfl) (.cons (t := 1) (Has.t rfl) .nil))) ?_
    refine Tri.memEq (M' := hwM bw gt c C t) rfl ?_
    subst hcs
    have hpos := hsg_pos hp h0
    refine Tri.seq fun K11 hK11 => ?_
    refine Tri.region ?_
    refine st (OK1.mv (Has.t rfl)) rfl ?_
    refine st (OK1.mv (Has.t rfl)) rfl ?_
    refine Ops.callX (hnf_reduce (rs := hsg (jns rs t col N) t col) (col := col) (P := P) (hsg_row hrowA (by omega)) (by rw [hsg_len]; omega) hc hW (by rw [hsg_len]; omega) (hsg_bd hbA) (by omega) hpos) (List.Perm.refl _) (.cons (Has.t rfl) (.cons (Has.t rfl) .nil)) rfl ?_
    rintro _ _ ⟨rfl, rfl⟩
    refine Ops.memEq (M' := hwM bw gt (rds (hsg (jns rs t col N) t col) t col t) C t) rfl ?_
    refine nl ?_
    refine At.thn (hK11 _ _ ?_); clear hK11
    refine Tri.region ?_
    refine st (OK1.mv (Has.t rfl)) rfl ?_
    refine st (OK1.nilc (Has.t rfl)) rfl ?_
    refine st (OK1.fieldAddr (Has.t rfl) fld50_2 ty3) rfl ?_
    refine st (OK1.load1 (Has.t rfl) (i := 0) rfl ty3 rfl) rfl ?_
    refine st (OK1.addI (Has.t rfl) (Has.cI 1 rfl) (by first | omega | assumption) (by first | omega | assumption)) rfl ?_
    refine st (OK1.nilc (Has.t rfl)) rfl ?_
    refine st (OK1.fieldAddr (Has.t rfl) fld50_2 ty3) rfl ?_
    refine Ops.store (Has.t rfl) (Has.t rfl) (i := 0) rfl ty3 rfl rfl (Ss' := [_, _, _]) rfl (M' := [(some _, cellM [_, _, _]), _]) rfl ?_
    refine nl ?_
    refine rtX0 (.inr rfl) Try.results20 rfl ?_
    exact ⟨rfl, (hwM_top (top' := t + 1) (by omega)).trans (by rw [hcl, if_neg h0])⟩
end Go.Proofs.Ytcfobfedliajdaa
/- Contracts: parts of rows. -/
namespace Go.Proofs.Ytcfobfedliajdaa
open Go.En Go.RowKit
set_option linter.unusedVariables false
set_option maxRecDepth 10000
open Go.Nt
open Go.Pz
open Go.Mz
open Go.Hn
set_option maxHeartbeats 4000000 in
theorem hnf_part {rs : List (List Int)} {W lo hi : Nat} {c tp : Int} (hrow : ∀ r ∈ rs, r.length = W) (h1 : lo ≤ hi) (h2 : hi ≤ W) (hW : W ≤ 128) (hR : rs.length ≤ 64) : Ctr Try.prog 21 [PtrL [SlM isP rs, isI c, isI tp], isI (lo : Int), isI (hi : Int)] (isMz rs.length (hi - lo) (flatP lo hi rs)) := by
  refine Ctr.intro Try.func21 rfl (by kernel_rfl) Try.ntmps21 rfl fun w0 F0 => ?_
  refine Tri.cv (Cv.wk (.cons (t := 0) (Has.t rfl) (.cons (t := 1) (Has.t rfl) (.cons (t := 2) (Has.t rfl) .nil)))) ?_
  refine Tri.fact (Has.rngI (Has.t (t := 1) rfl)) fun lt1 => ?_
  refine Tri.fact (Has.rngI (Has.t (t := 2) rfl)) fun lt2 => ?_
  have hmx : ∀ i, i ≤ rs.length → (flatP lo hi (rs.take i)).length ≤ 8192 := fun i hi' => by
    rw [flatP_len (rs := rs.take i) h1 h2 (fun r hr => hrow r (List.mem_of_mem_take hr)), List.length_take]
    exact Nat.le_trans (Nat.mul_le_mul (show _ ≤ 64 by omega) (show hi - lo ≤ 128 by omega)) (by decide)
  refine Tri.seq fun K1 hK1 => ?_
  refine Tri.region ?_
  refine Ops.alloc [isI 0, isI 0, nilS] zero24 (fun _ _ => ⟨⟨rfl, by decide, by decide⟩, ⟨rfl, by decide, by decide⟩, rfl, trivial⟩) rfl fun b1 => ?_
  refine nl ?_
  refine At.thn (hK1 _ _ ?_); clear hK1
  refine Tri.seq fun K2 hK2 => ?_
  refine Tri.region ?_
  refine st (OK1.mv (Has.t rfl)) rfl ?_
  refine st (OK1.nilcP (Has.t rfl)) rfl ?_
  refine st (OK1.fieldAddrP (Has.t rfl) fld50_0 ty48 (Ss' := [_, _, _]) rfl) rfl ?_
  refine st (OK1.loadP1 (Has.t rfl) ty48) rfl ?_
  refine st (OK1.len sl48 (Has.t rfl)) rfl ?_
  refine st (OK1.mv (Has.t rfl)) rfl ?_
  refine st (OK1.mv (Has.t rfl)) rfl ?_
  refine st (OK1.eq (OK1.subI (Has.t rfl) (Has.t rfl) (by first | omega | assumption) (by first | omega | assumption)) ((show isI _ = isI ((hi - lo : Nat) : Int) from isI_eq (by omega)))) rfl ?_
  refine st (OK1.build [isI 0, isI 0, nilS] pl24 zero24 (fun _ _ => ⟨⟨rfl, by decide, by decide⟩, ⟨rfl, by decide, by decide⟩, rfl, trivial⟩) (.cons (Has.t rfl) rfl rfl rfl (.cons (Has.t rfl) rfl rfl rfl .nil)) (Z'' := [_, _, _]) rfl) rfl ?_
  refine Ops.alloc [isI 0, isI 0, nilS] zero24 (fun _ _ => ⟨⟨rfl, by decide, by decide⟩, ⟨rfl, by decide, by decide⟩, rfl, trivial⟩) rfl fun b2 => ?_
  refine Ops.store (Has.t rfl) (Has.t rfl) (i := 0) rfl ty24 rfl rfl (Ss' := [_, _, _]) rfl (M' := [(some _, cellM [_, _, _]), _]) rfl ?_
  refine nl ?_
  refine At.thn (hK2 _ _ ?_); clear hK2
  refine Tri.cv (Cv.wk (.cons (t := 0) (Has.t rfl) (.cons (t := 1) (Has.t rfl) (.cons (t := 2) (Has.t rfl) (.cons (t := 6) (Has.t rfl) (.cons (t := 7) (Has.t rfl) .nil)))))) ?_
  refine Tri.seq fun K3 hK3 => ?_
  refine Tri.seq fun K4 hK4 => ?_
  refine Tri.cv (Cv.growF (Bool × List Nat) (i := 0) (o := 2) rfl rfl rfl) ?_
  refine Tri.memEq (M' := [grMK zc Gr.nil [], _, _]) rfl ?_
  refine Tri.region ?_
  refine st (OK1.mv (Has.t rfl)) rfl ?_
  refine st (OK1.nilcP (Has.t rfl)) rfl ?_
  refine st (OK1.fieldAddrP (Has.t rfl) fld50_0 ty48 (Ss' := [_, _, _]) rfl) rfl ?_
  refine st (OK1.loadP1 (Has.t rfl) ty48) rfl ?_
  refine st (OK1.len sl48 (Has.t rfl)) rfl ?_
  refine st (OK1.mv (Has.cI 0 rfl)) rfl ?_
  refine nl ?_
  refine At.thn (hK4 _ _ ?_); clear hK4
  refine Tri.block ?_
  refine Tri.loopF [1, 2, 6, 7, 22, 23] (fun (z : { z : Nat × Gr (Bool × List Nat) // z.1 ≤ rs.length }) => match z with | ⟨(i, g), hI⟩ => [(24, isI (i : Int))]) (fun M => fun (z : { z : Nat × Gr (Bool × List Nat) // z.1 ≤ rs.length }) => match z with | ⟨(i, g), hI⟩ => [grMK zc g ((flatP lo hi (rs.take i)).map nz), (some b2, cellM [isI (rs.length : Int), isI ((hi - lo : Nat) : Int), isGr g ((flatP lo hi (rs.take i)).map nz).length]), (some b1, cellM [isI 0, isI 0, nilS])]) (fun (z : { z : Nat × Gr (Bool × List Nat) // z.1 ≤ rs.length }) => match z with | ⟨(i, g), hI⟩ => rs.length - i) (⟨(0, Gr.nil), Nat.zero_le _⟩) (Cv.mem (.cons (t := 24) (Has.t' rfl ?_) (.cons (t := 1) (Has.t rfl) (.cons (t := 2) (Has.t rfl) (.cons (t := 6) (Has.t rfl) (.cons (t := 7) (Has.t rfl) (.cons (t := 22) (Has.t rfl) (.cons (t := 23) (Has.t rfl) .nil))))))) ?_) ?_
  · rfl
  · rfl
  rintro ⟨⟨i, g⟩, hI⟩ K5 hK5
  refine Tri.cv (Cv.wk (.cons (t := 24) (Has.t rfl) (.cons (t := 1) (Has.t rfl) (.cons (t := 2) (Has.t rfl) (.cons (t := 6) (Has.t rfl) (.cons (t := 7) (Has.t rfl) (.cons (t := 22) (Has.t rfl) (.cons (t := 23) (Has.t rfl) .nil)))))))) ?_
  refine Tri.memEq (M' := [grMK zc g ((flatP lo hi (rs.take i)).map nz), (some b2, cellM [isI (rs.length : Int), isI ((hi - lo : Nat) : Int), isGr g ((flatP lo hi (rs.take i)).map nz).length]), (some b1, cellM [isI 0, isI 0, nilS])]) rfl ?_
  simp only [] at hI
  have hfl := hmx i hI
  refine Tri.seq fun K6 hK6 => ?_
  refine Tri.region ?_
  refine st (OK1.ltI (Has.t rfl) (Has.t rfl)) rfl ?_
  refine nl ?_
  refine At.thn (hK6 _ _ ?_); clear hK6
  refine Tri.seq fun K7 hK7 => ?_
  refine Tri.cond (Has.t rfl) (fun hc1 => ?_) (fun hc1 => ?_)
  · have hc1 := BP.t hc1
    obtain ⟨r, hr⟩ : ∃ r, rs[i]? = some r := ⟨_, List.getElem?_eq_getElem (by omega)⟩
    have hrW := hrow r (List.mem_of_getElem? hr)
    have hrm : (((r.take hi).drop lo).map nz).length = hi - lo := by rw [List.length_map, List.length_drop, List.length_take]; omega
    refine Tri.skip ?_
    refine At.thn (hK7 _ _ ?_); clear hK7
    refine Tri.seq fun K8 hK8 => ?_
    refine Tri.block ?_
    refine Tri.seq fun K9 hK9 => ?_
    refine Tri.region ?_
    refine st (OK1.ixP sl48 ty22 (Has.t rfl) (Has.t rfl) ⟨by omega, by omega⟩ hr) rfl ?_
    refine st (OK1.loadP1 (Has.t rfl) ty22) rfl ?_
    refine st (OK1.as (Has.t rfl)) rfl ?_
    refine nl ?_
    refine At.thn (hK9 _ _ ?_); clear hK9
    refine Tri.dry mixed ?_
    refine DrB.take (i := 0) rfl rfl rfl rfl (by kernel_rfl) (by kernel_rfl) (by kernel_rfl) (by kernel_rfl) (fun _ _ _ _ h => h) (OKY.fieldAddr (Has.t rfl) fld24_2 ty22) ?_
    refine DrB.take (i := 2) rfl rfl rfl rfl (by kernel_rfl) (by kernel_rfl) (by kernel_rfl) (by kernel_rfl) (fun _ _ _ _ h => h) (OKY.mv (Has.t rfl)) ?_
    refine DrB.take (i := 3) rfl rfl rfl rfl (by kernel_rfl) (by kernel_rfl) (by kernel_rfl) (by kernel_rfl) (fun _ _ _ _ h => h) (OKY.mv (Has.t rfl)) ?_
    refine DrB.take (i := 4) rfl rfl rfl rfl (by kernel_rfl) (by kernel_rfl) (by kernel_rfl) (by kernel_rfl) (fun _ _ _ _ h => h) (OKY.mv (Has.t rfl)) ?_
    refine DrB.go [] ?_
    refine DrC.st (i := 1) [] rfl rfl rfl (by kernel_rfl) (by kernel_rfl) (OKG.o rfl (OK1.load1 (Has.t rfl) (i := 1) rfl ty22 rfl)) ?_
    refine DrC.st (i := 5) [] rfl rfl rfl (by kernel_rfl) (by kernel_rfl) (OKG.o rfl (OK1.eq (OK1.slLHK sl22 ty37 zc_len (Has.t rfl) (Has.t rfl) (Has.t rfl) ⟨by omega, by omega, by rw [List.length_map]; omega⟩) ((show _ = SlK 2 zc (((r.take hi).drop lo).map nz) from SlK_eq (by rw [List.map_drop, List.map_take]; rfl))))) ?_
    refine DrC.fin [6, 7, 8] (by kernel_rfl) (by kernel_rfl) (fun _ _ _ _ _ h => h) (by kernel_rfl) (by kernel_rfl) (by kernel_rfl) (by kernel_rfl) (by kernel_rfl) (by kernel_rfl) (by kernel_rfl) (by kernel_rfl) (by kernel_rfl) ?_
    refine Ops.cv (Cv.wk (.cons (t := 1) (Has.t rfl) (.cons (t := 2) (Has.t rfl) (.cons (t := 6) (Has.t rfl) (.cons (t := 7) (Has.t rfl) (.cons (t := 22) (Has.t rfl) (.cons (t := 23) (Has.t rfl) (.cons (t := 24) (Has.t rfl) (.cons (t := 25) (Has.t rfl) (.cons (t := 26) (Has.t rfl) (.cons (t := 27) (Has.t rfl) (.cons (t := 9) (Has.t rfl) (.cons (t := 28) (Has.t rfl) (.cons (t := 30) (Has.t rfl) (.cons (t := 31) (Has.t rfl) (.cons (t := 32) (Has.t rfl) (.cons (t := 29) (Has.t rfl) (.cons (t := 33) (Has.t rfl) .nil)))))))))))))))))) ?_
    refine Ops.appendGK0 (fk := zc) (u := (false, [])) zc_len (by decide) (fun _ => inferInstance) sl22 ty37 zero37 (fun _ _ => ⟨rfl, nilM _ _, trivial⟩) by37 (Has.t rfl) (i := 0) rfl (Has.t rfl) (by rw [List.length_map, hrm]; omega) rfl fun gr1 => ?_
    refine Ops.memEq (M' := [grMK _ _ _, _, _]) rfl ?_
    refine st (OK1.fieldAddr (Has.t rfl) fld24_2 ty22) rfl ?_
    refine Ops.store (Has.t rfl) (Has.t rfl) (i := 1) rfl ty22 rfl rfl (Ss' := [_, _, _]) rfl (M' := [_, (some _, cellM [_, _, _]), _]) rfl ?_
    refine nl ?_
    refine At.bln ?_
    refine At.thn (hK8 _ _ ?_); clear hK8
    refine Tri.region ?_
    refine st (OK1.addI (Has.t rfl) (Has.cI 1 rfl) (by first | omega | assumption) (by first | omega | assumption)) rfl ?_
    refine st (OK1.mv (Has.t rfl)) rfl ?_
    refine nl ?_
    refine At.thn ?_
    refine hK5 (⟨(i + 1, gr1), by show i + 1 ≤ rs.length; omega⟩) _ _ ?_ (Cv.mem (.cons (t := 24) (Has.t' rfl ?_) (.cons (t := 1) (Has.t rfl) (.cons (t := 2) (Has.t rfl) (.cons (t := 6) (Has.t rfl) (.cons (t := 7) (Has.t rfl) (.cons (t := 22) (Has.t rfl) (.cons (t := 23) (Has.t rfl) .nil))))))) ?_)
    · show rs.length - (i + 1) < rs.length - i; omega
    · exact isI_eq (by omega)
    · exact grF_eq (by rw [flatP_succ hr, List.map_append, List.length_append]) (by rw [flatP_succ hr, List.map_append])
  · have hc1 := BP.f hc1
    refine Tri.exit ?_
    refine At.the ?_
    refine At.the ?_
    refine At.blh ?_
    refine At.thn (hK3 _ _ ?_); clear hK3
    refine Tri.cv (Cv.wk (.cons (t := 6) (Has.t rfl) (.cons (t := 7) (Has.t rfl) .nil))) ?_
    refine Tri.seq fun K10 hK10 => ?_
    refine Tri.cv (Cv.freezeF (k := 2) (i := 0) (j := 0) (o := 2) rfl rfl rfl rfl (gr_lenK zc_len) (gr_takeK zc_len) (Ss' := [_, _, SlK 2 zc ((flatP lo hi (rs.take i)).map nz)]) rfl) ?_
    refine Tri.memEq (M' := [(some _, cellM [_, _, SlK 2 zc ((flatP lo hi (rs.take i)).map nz)]), _]) rfl ?_
    refine Tri.cv (Cv.wk (.cons (t := 6) (Has.t rfl) (.cons (t := 7) (Has.t rfl) .nil))) ?_
    refine Tri.region ?_
    refine st (OK1.load (Has.t rfl) (i := 0) rfl ty24 rfl (Ss' := [_, _, _]) rfl) rfl ?_
    refine Ops.store (Has.t rfl) (Has.t rfl) (i := 1) rfl ty24 rfl rfl (Ss' := [_, _, _]) rfl (M' := [_, (some _, cellM [_, _, _])]) rfl ?_
    refine nl ?_
    refine At.thn (hK10 _ _ ?_); clear hK10
    refine Tri.ret ?_
    refine rt1 (.inl rfl) Try.results21 rfl (.cell rfl (i := 1) rfl ty24 rfl ?_ .nil)
    all_goals (exact isMz_eq (by rw [List.take_of_length_le (by omega)]))
end Go.Proofs.Ytcfobfedliajdaa
/- How far the numbers of Hermite's form grow: by the pivots that are found. No program here. -/
namespace Go.Hp
open Go.Dt Go.Hn Go.Pz Go.Nt Go.Mz Go.En
/-- where the pivot's place is 0 after all joins, none was done -/
theorem jns_keep0 {rs : List (List Int)} {t col W : Nat} (hrow : ∀ r ∈ rs, r.length = W) (ht : t < rs.length) : ∀ n, t + 1 + n ≤ rs.length → E (jns rs t col n) t col = 0 → jns rs t col n = rs
  | 0, _, _ => rfl
  | n + 1, hn, h0 => by
    have hl := jns_len rs t col n
    have hr := jns_row hrow ht (col := col) n
    have e1 : ((jns rs t col n).getD (t + 1 + n) []).length = ((jns rs t col n).getD t []).length := (all_getD hr (by omega)).trans (all_getD hr (by omega)).symm
    have ih := jns_keep0 hrow ht (col := col) n (by omega)
    revert h0
    show E (jn _ _ _ _) t col = 0 → jn _ _ _ _ = rs
    unfold jn
    split
    · exact ih
    · rename_i hg
      intro h0
      rw [E_set (by rw [List.length_set]; omega), E_set (by omega), if_neg (by omega), if_pos rfl, cf_mx2 e1, xg_bezout] at h0
      exact absurd h0 hg
/-- a bound that grows with each pivot -/
def hq (R K : Nat) : Nat → Nat
  | 0 => K
  | t + 1 => hq R K t * (R + 1 - t)
theorem hq_mono {R K t u : Nat} (h : t ≤ u) (hu : u ≤ R) : hq R K t ≤ hq R K u := by
  induction u with
  | zero => rw [show t = 0 by omega]; exact Nat.le_refl _
  | succ u ih =>
    rcases Nat.lt_or_ge u t with g | g
    · rw [show t = u + 1 by omega]; exact Nat.le_refl _
    · exact Nat.le_trans (ih g (by omega)) (Nat.le_mul_of_pos_right _ (by omega))
theorem hq_pow {R K : Nat} : ∀ t, hq R K t ≤ K * (R + 2) ^ t
  | 0 => by rw [Nat.pow_zero, Nat.mul_one]; exact Nat.le_refl _
  | t + 1 => by
    rw [Nat.pow_succ, ← Nat.mul_assoc]
    exact Nat.mul_le_mul (hq_pow t) (by omega)
theorem hcol_bd2 {s : HS} {K W : Nat} (col : Nat) (hr : ∀ r ∈ s.rows, r.length = W) (ht : s.top < s.rows.length) (h : ∀ r ∈ s.rows, Bd r K) :
    ((hcol s col).top = s.top ∧ ∀ r ∈ (hcol s col).rows, Bd r K) ∨ ((hcol s col).top = s.top + 1 ∧ ∀ r ∈ (hcol s col).rows, Bd r ((K + 3) * (s.rows.length + 1 - s.top) - 3)) := by
  have hj := jns_bd (t := s.top) (col := col) h (s.rows.length - (s.top + 1))
  unfold hcol hjs
  split
  · rename_i h0
    refine .inl ⟨rfl, ?_⟩
    have e := jns_keep0 hr ht (col := col) (s.rows.length - (s.top + 1)) (by omega) h0
    show ∀ r ∈ jns s.rows s.top col (s.rows.length - (s.top + 1)), Bd r K
    rw [e]; exact h
  · rename_i h0
    refine .inr ⟨rfl, ?_⟩
    have hg := hsg_bd (t := s.top) (col := col) hj
    have htj : s.top < (jns s.rows s.top col (s.rows.length - (s.top + 1))).length := by rw [jns_len]; exact ht
    have hpos := hsg_pos (rs := jns s.rows s.top col (s.rows.length - (s.top + 1))) (t := s.top) (col := col) (List.getElem?_eq_getElem htj) (by rwa [List.getD, List.getElem?_eq_getElem htj] at h0)
    have hlow : ∀ i, i < s.top → Bd ((hsg (jns s.rows s.top col (s.rows.length - (s.top + 1))) s.top col).getD i []) K := fun i hi => by
      have e : (hsg (jns s.rows s.top col (s.rows.length - (s.top + 1))) s.top col).getD i [] = s.rows.getD i [] := by
        unfold hsg
        split
        · rw [List.getD, List.getElem?_set_ne (by omega), jns_off hi]; rfl
        · rw [List.getD, jns_off hi]; rfl
      rw [e]; exact getD_bd h i
    have em : (K + 3) * (s.rows.length + 1 - s.top) = (s.rows.length - (s.top + 1)) * (K + 3) + 2 * (K + 3) := by
      rw [show s.rows.length + 1 - s.top = (s.rows.length - (s.top + 1)) + 2 by omega, Nat.mul_add, Nat.mul_comm (K + 3), Nat.mul_comm (K + 3)]
    exact fun r hr => (rds_bd hpos (getD_bd hg _) hlow hg (by omega) s.top (Nat.le_refl _) r hr).mono (by omega)
theorem hq_ge {R K t : Nat} (h : t ≤ R) : K ≤ hq R K t := hq_mono (R := R) (K := K) (Nat.zero_le t) h
theorem hred_hq {R W K : Nat} {s : HS} (h : HOk R W K s) (h0 : s.top = 0) : ∀ c, ∀ r ∈ (hred s c).rows, Bd r (hq R (K + 3) (hred s c).top - 3)
  | 0 => fun r hr => (h.bd r hr).mono (by show K ≤ hq R (K + 3) s.top - 3; rw [h0]; show K ≤ K + 3 - 3; omega)
  | c + 1 => by
    have ih := hred_hq h h0 c
    have ho := hred_ok h c
    have hg := hq_ge (K := K + 3) ho.top
    show ∀ r ∈ (if (hred s c).top < (hred s c).rows.length then hcol (hred s c) c else hred s c).rows, Bd r (hq R (K + 3) (if (hred s c).top < (hred s c).rows.length then hcol (hred s c) c else hred s c).top - 3)
    split
    · rename_i ht
      rcases hcol_bd2 c ho.row ht ih with ⟨e, hb⟩ | ⟨e, hb⟩
      · rw [e]; exact hb
      · rw [e]
        show ∀ r ∈ _, Bd r (hq R (K + 3) (hred s c).top * (R + 1 - (hred s c).top) - 3)
        rw [ho.len, show hq R (K + 3) (hred s c).top - 3 + 3 = hq R (K + 3) (hred s c).top by omega] at hb
        exact hb
    · exact ih
theorem hred_top {R W K : Nat} {s : HS} (h : HOk R W K s) : ∀ c, (hred s c).top ≤ (hred s (c + 1)).top ∧ (hred s (c + 1)).top ≤ (hred s c).top + 1 := fun c => by
  have ho := hred_ok h c
  show _ ≤ (if (hred s c).top < (hred s c).rows.length then hcol (hred s c) c else hred s c).top ∧ (if (hred s c).top < (hred s c).rows.length then hcol (hred s c) c else hred s c).top ≤ _
  split
  · rename_i ht
    rcases hcol_bd2 c ho.row ht ho.bd with ⟨e, _⟩ | ⟨e, _⟩ <;> rw [e] <;> omega
  · omega
theorem hred_mono {R W K : Nat} {s : HS} (h : HOk R W K s) {c C : Nat} (hc : c ≤ C) : (hred s c).top ≤ (hred s C).top := by
  induction C with
  | zero => rw [show c = 0 by omega]; exact Nat.le_refl _
  | succ C ih =>
    rcases Nat.lt_or_ge C c with g | g
    · rw [show c = C + 1 by omega]; exact Nat.le_refl _
    · exact Nat.le_trans (ih g) (hred_top h C).1
theorem hred_le {R W K : Nat} {s : HS} (h : HOk R W K s) : ∀ c, (hred s c).top ≤ s.top + c
  | 0 => Nat.le_refl _
  | c + 1 => by have := hred_le h c; have := (hred_top h c).2; omega
/-- how many pivots there are -/
def hrk (R C : Nat) (L : List Int) : Nat := (hrm R C L).top
theorem hrk_leC {R C K : Nat} {L : List Int} (h : Bd L K) : hrk R C L ≤ C := by
  have := hred_le (rows0_ok (R := R) (C := C) h) C
  show (hred _ C).top ≤ C
  exact Nat.le_trans this (by show 0 + C ≤ C; omega)
/-- the bound that the contracts ask -/
theorem hq_ask {R C K : Nat} {L : List Int} (h : Bd L K) (hR : R ≤ 64) (hK : (K + 4) * (R + 2) ^ C ≤ 1000000) : hq R (K + 4) (hrk R C L) * (R + 2) ≤ 80000000 := by
  have h1 := hq_pow (R := R) (K := K + 4) (hrk R C L)
  have h2 := Nat.mul_le_mul_left (K + 4) (Nat.pow_le_pow_right (show 0 < R + 2 by omega) (hrk_leC (R := R) (C := C) h))
  have h3 : hq R (K + 4) (hrk R C L) * (R + 2) ≤ 1000000 * 66 := Nat.mul_le_mul (Nat.le_trans h1 (Nat.le_trans h2 hK)) (by omega)
  omega
end Go.Hp
/- Contracts: Hermite's form. -/
namespace Go.Proofs.Ytcfobfedliajdaa
open Go.En Go.RowKit
set_option linter.unusedVariables false
set_option maxRecDepth 10000
open Go.Nt
open Go.Pz
open Go.Mz
open Go.Hn
open Go.Hp
open Go.Dt
theorem hm_step {bw C c : Nat} {gt : Gr (List Int)} {s : HS} {m : Mem} (h : (hred s c).top < (hred s c).rows.length) : (hw0 bw gt (hcol (hred s c) c).rows.length C (hcol (hred s c) c).top :: grM isP gt (hcol (hred s c) c).rows :: m : Mem) = hw0 bw gt (hred s (c + 1)).rows.length C (hred s (c + 1)).top :: grM isP gt (hred s (c + 1)).rows :: m := by
  have e : hred s (c + 1) = hcol (hred s c) c := if_pos h
  rw [e]
theorem col_bq {K R a : Nat} (h : K + 4 ≤ a) (h2 : a * (R + 2) ≤ 80000000) : (a - 3 + 3) * (R + 2) ≤ 80000000 := by rw [Nat.sub_add_cancel (by omega)]; exact h2
theorem isMzp_eq {R C : Nat} {L : List Int} {s : HS} (hlen : s.rows.length = R) (h : s = hrm R C L) : isMz s.rows.length (C - 0) (flatP 0 C s.rows) = isMz R C (flatP 0 C (hrm R C L).rows) := by rw [hlen, h]; rfl
theorem isMzq_eq {R C : Nat} {L : List Int} {s : HS} (hlen : s.rows.length = R) (h : s = hrm R C L) : isMz s.rows.length (C + R - C) (flatP C (C + R) s.rows) = isMz R R (flatP C (C + R) (hrm R C L).rows) := by rw [hlen, h, Nat.add_sub_cancel_left]
set_option maxHeartbeats 4000000 in
theorem hnf_HermiteQ {R C K : Nat} {xs : List (Bool × List Nat)} (hx : Bd (vals xs) K) (hK : hq R (K + 4) (hrk R C (vals xs)) * (R + 2) ≤ 80000000) (hR : R ≤ 64) (hC : C ≤ 64) (hl : xs.length = R * C) : Ctr Try.prog 7 [isM (R : Int) (C : Int) xs] (isTup [isMz R C (flatP 0 C (hrm R C (vals xs)).rows), isMz R R (flatP C (C + R) (hrm R C (vals xs)).rows), isI 0]) := by
  refine Ctr.intro Try.func7 rfl (by kernel_rfl) Try.ntmps7 rfl fun w0 F0 => ?_
  refine Tri.cv (Cv.wk (.cons (t := 0) (Has.t rfl) .nil)) ?_
  have hfo := formB_true hR hC hl
  have hok := hred_ok (rows0_ok (R := R) (C := C) hx)
  have hbq := hred_hq (rows0_ok (R := R) (C := C) hx) rfl
  have hqs : ∀ c, c ≤ C → hq R (K + 4) (hred ⟨rows0 C R (vals xs) R, 0⟩ c).top * (R + 2) ≤ 80000000 := fun c hc => Nat.le_trans (Nat.mul_le_mul_right _ (hq_mono (hred_mono (rows0_ok (R := R) (C := C) hx) hc) (hok C).top)) hK
  have hp0 : K + 4 ≤ 80000000 := Nat.le_trans (Nat.le_mul_of_pos_right _ (Nat.succ_pos (R + 1))) (hqs 0 (Nat.zero_le _))
  obtain ⟨n0, hn0⟩ : ∃ n0 : Nat, n0 = R := ⟨_, rfl⟩
  refine Tri.seq fun K1 hK1 => ?_
  refine Tri.region ?_
  refine Ops.box (Has.t rfl) rfl fun b1 => ?_
  refine Ops.alloc [isI 0, isI 0, nilS] zero24 (fun _ _ => ⟨⟨rfl, by decide, by decide⟩, ⟨rfl, by decide, by decide⟩, rfl, trivial⟩) rfl fun b2 => ?_
  refine Ops.alloc [isI 0, isI 0, nilS] zero24 (fun _ _ => ⟨⟨rfl, by decide, by decide⟩, ⟨rfl, by decide, by decide⟩, rfl, trivial⟩) rfl fun b3 => ?_
  refine st (OK1.as (Has.cI 0 rfl)) rfl ?_
  refine nl ?_
  refine At.thn (hK1 _ _ ?_); clear hK1
  refine Tri.seq fun K2 hK2 => ?_
  refine Tri.seq fun K3 hK3 => ?_
  refine Tri.region ?_
  refine st (OK1.load (Has.t rfl) (i := 2) rfl ty24 rfl (Ss' := [_, _, _]) rfl) rfl ?_
  refine st (OK1.eq (OK1.call (zmat_Formed) (.cons (Has.t rfl) .nil)) ((show isB _ = isB true from isB_eq hfo))) rfl ?_
  refine st (OK1.not (Has.t rfl)) rfl ?_
  refine nl ?_
  refine At.thn (hK3 _ _ ?_); clear hK3
  refine Tri.cond (Has.t rfl) (fun hc1 => ?_) (fun hc1 => ?_)
  · have hc1 := BP.t hc1
    simp at hc1
  · have hc1 := BP.f hc1
    refine Tri.skip ?_
    refine At.thn (hK2 _ _ ?_); clear hK2
    refine Tri.seq fun K4 hK4 => ?_
    refine Tri.region ?_
    refine st (OK1.load (Has.t rfl) (i := 2) rfl ty24 rfl (Ss' := [_, _, _]) rfl) rfl ?_
    refine Ops.callX (hnf_begun hx (by omega) hR hC hl) (List.Perm.refl _) (.cons (Has.t rfl) .nil) rfl ?_
    rintro _ _ ⟨bw, gt, rfl, rfl⟩
    refine Ops.memEq (M' := [hw0 bw gt (rows0 C R (vals xs) R).length C 0, grM isP gt (rows0 C R (vals xs) R), _, _, _]) rfl ?_
    refine st (OK1.as (Has.t rfl)) rfl ?_
    refine nl ?_
    refine At.thn (hK4 _ _ ?_); clear hK4
    refine Tri.cv (Cv.wk (.cons (t := 1) (Has.t rfl) (.cons (t := 2) (Has.t rfl) (.cons (t := 3) (Has.t rfl) (.cons (t := 4) (Has.t rfl) (.cons (t := 5) (Has.t rfl) .nil)))))) ?_
    refine Tri.seq fun K5 hK5 => ?_
    refine Tri.seq fun K6 hK6 => ?_
    refine Tri.region ?_
    refine st (OK1.as (Has.cI 0 rfl)) rfl ?_
    refine nl ?_
    refine At.thn (hK6 _ _ ?_); clear hK6
    refine Tri.block ?_
    refine Tri.loopF [1, 2, 3, 4, 5] (fun (z : { c : Nat // c ≤ C }) => match z with | ⟨c, hc⟩ => [(6, isI (c : Int))]) (fun M => fun (z : { c : Nat // c ≤ C }) => match z with | ⟨c, hc⟩ => [hw0 bw gt (hred ⟨rows0 C R (vals xs) R, 0⟩ c).rows.length C (hred ⟨rows0 C R (vals xs) R, 0⟩ c).top, grM isP gt (hred ⟨rows0 C R (vals xs) R, 0⟩ c).rows, (some b3, cellM [isI 0, isI 0, nilS]), (some b2, cellM [isI 0, isI 0, nilS]), (some b1, cellM [isI (R : Int), isI (C : Int), SlK 2 zc xs])]) (fun (z : { c : Nat // c ≤ C }) => match z with | ⟨c, hc⟩ => C - c) (⟨0, Nat.zero_le _⟩) (Cv.mem (.cons (t := 6) (Has.t' rfl ?_) (.cons (t := 1) (Has.t rfl) (.cons (t := 2) (Has.t rfl) (.cons (t := 3) (Has.t rfl) (.cons (t := 4) (Has.t rfl) (.cons (t := 5) (Has.t rfl) .nil)))))) ?_) ?_
    · rfl
    · rfl
    rintro ⟨c, hc⟩ K7 hK7
    refine Tri.cv (Cv.wk (.cons (t := 6) (Has.t rfl) (.cons (t := 1) (Has.t rfl) (.cons (t := 2) (Has.t rfl) (.cons (t := 3) (Has.t rfl) (.cons (t := 4) (Has.t rfl) (.cons (t := 5) (Has.t rfl) .nil))))))) ?_
    refine Tri.memEq (M' := [hw0 bw gt (hred ⟨rows0 C R (vals xs) R, 0⟩ c).rows.length C (hred ⟨rows0 C R (vals xs) R, 0⟩ c).top, grM isP gt (hred ⟨rows0 C R (vals xs) R, 0⟩ c).rows, (some b3, cellM [isI 0, isI 0, nilS]), (some b2, cellM [isI 0, isI 0, nilS]), (some b1, cellM [isI (R : Int), isI (C : Int), SlK 2 zc xs])]) rfl ?_
    have hoc := hok c
    have hlen := hoc.len
    have htop := hoc.top
    have hpc := hqs c hc
    refine Tri.seq fun K8 hK8 => ?_
    refine Tri.seq fun K9 hK9 => ?_
    refine Tri.dr ?_
    refine DrG.st (i := 0) [] rfl rfl rfl (by kernel_rfl) (OKG.o rfl (OK1.mv (Has.t rfl))) ?_
    refine DrG.st (i := 1) [] rfl rfl rfl (by kernel_rfl) (OKG.o rfl (OK1.fieldAddr (Has.t rfl) fld24_1 ty3)) ?_
    refine DrG.st (i := 2) [15] rfl rfl rfl (by kernel_rfl) (OKG.o rfl (OK1.load1 (Has.t rfl) (i := 4) rfl ty3 rfl)) ?_
    refine DrG.st (i := 3) [14, 16] rfl rfl rfl (by kernel_rfl) (OKG.o rfl (OK1.ltI (Has.t rfl) (Has.t rfl))) ?_
    refine DrG.st (i := 4) [17] rfl rfl rfl (by kernel_rfl) (OKG.o rfl (OK1.mv (Has.t rfl))) ?_
    refine DrG.st (i := 5) [18] rfl rfl rfl (by kernel_rfl) (OKG.T rfl rfl rfl (fun hg => have hg' := BP.t hg; OK1.mv (Has.t rfl))) ?_
    refine DrG.st (i := 6) [18, 19] rfl rfl rfl (by kernel_rfl) (OKG.T rfl rfl rfl (fun hg => have hg' := BP.t hg; OK1.nilc (Has.g rfl hg))) ?_
    refine DrG.st (i := 7) [18, 20] rfl rfl rfl (by kernel_rfl) (OKG.T rfl rfl rfl (fun hg => have hg' := BP.t hg; OK1.fieldAddr (Has.g rfl hg) fld50_2 ty3)) ?_
    refine DrG.st (i := 8) [18, 21] rfl rfl rfl (by kernel_rfl) (OKG.T rfl rfl rfl (fun hg => have hg' := BP.t hg; OK1.load1 (Has.g rfl hg) (i := 0) rfl ty3 rfl)) ?_
    refine DrG.st (i := 9) [18] rfl rfl rfl (by kernel_rfl) (OKG.T rfl rfl rfl (fun hg => have hg' := BP.t hg; OK1.fieldAddr (Has.t rfl) fld24_0 ty3)) ?_
    refine DrG.st (i := 10) [18, 23] rfl rfl rfl (by kernel_rfl) (OKG.T rfl rfl rfl (fun hg => have hg' := BP.t hg; OK1.load1 (Has.g rfl hg) (i := 4) rfl ty3 rfl)) ?_
    refine DrG.fin (n := 11) mixed (by kernel_rfl) (by kernel_rfl) (by kernel_rfl) ?_
    refine Ops.cv (Cv.wk (.cons (t := 1) (Has.t rfl) (.cons (t := 2) (Has.t rfl) (.cons (t := 3) (Has.t rfl) (.cons (t := 4) (Has.t rfl) (.cons (t := 5) (Has.t rfl) (.cons (t := 6) (Has.t rfl) (.cons (t := 14) (Has.t rfl) (.cons (t := 15) (Has.t rfl) (.cons (t := 16) (Has.t rfl) (.cons (t := 17) (Has.t rfl) (.cons (t := 18) (Has.t rfl) (.cons (t := 19) (Has.t rfl) (.cons (t := 20) (Has.t rfl) (.cons (t := 21) (Has.t rfl) (.cons (t := 22) (Has.t rfl) (.cons (t := 23) (Has.t rfl) (.cons (t := 24) (Has.t rfl) .nil)))))))))))))))))) ?_
    refine stT rfl rfl (fun hg => have hg' := BP.t hg; OK1.ltI (Has.g rfl hg) (Has.g rfl hg)) rfl ?_
    refine st (OK1.pickAnd (Has.t rfl) (fun h => Has.g rfl h)) rfl ?_
    refine nl ?_
    refine At.thn (hK9 _ _ ?_); clear hK9
    refine Tri.cond (Has.t rfl) (fun hc2 => ?_) (fun hc2 => ?_)
    · have hc2 := BP.t hc2
      obtain ⟨hc1', hc2'⟩ := hc2
      refine Tri.skip ?_
      refine At.thn (hK8 _ _ ?_); clear hK8
      refine Tri.seq fun K10 hK10 => ?_
      refine Tri.block ?_
      refine Tri.region ?_
      refine st (OK1.mv (Has.t rfl)) rfl ?_
      refine st (OK1.mv (Has.t rfl)) rfl ?_
      refine Ops.callX (hnf_column (rs := (hred ⟨rows0 C R (vals xs) R, 0⟩ c).rows) (t := (hred ⟨rows0 C R (vals xs) R, 0⟩ c).top) (col := c) (W := C + R) (K := hq R (K + 4) (hred ⟨rows0 C R (vals xs) R, 0⟩ c).top - 3) hoc.row (by omega) (by omega) (by omega) (by omega) (hbq c) (by rw [hlen]; exact col_bq (hq_ge htop) hpc)) (List.Perm.refl _) (.cons (Has.t rfl) (.cons (Has.t rfl) .nil)) rfl ?_
      rintro _ _ ⟨rfl, rfl⟩
      refine Ops.memEq (M' := [hw0 bw gt (hcol (hred ⟨rows0 C R (vals xs) R, 0⟩ c) c).rows.length C (hcol (hred ⟨rows0 C R (vals xs) R, 0⟩ c) c).top, grM isP gt (hcol (hred ⟨rows0 C R (vals xs) R, 0⟩ c) c).rows, _, _, _]) rfl ?_
      refine nl ?_
      refine At.bln ?_
      refine At.thn (hK10 _ _ ?_); clear hK10
      refine Tri.region ?_
      refine st (OK1.mv (Has.t rfl)) rfl ?_
      refine st (OK1.addI (Has.t rfl) (Has.cI 1 rfl) (by first | omega | assumption) (by first | omega | assumption)) rfl ?_
      refine st (OK1.as (Has.t rfl)) rfl ?_
      refine nl ?_
      refine At.thn ?_
      refine hK7 (⟨c + 1, by omega⟩) _ _ ?_ (Cv.mem (.cons (t := 6) (Has.t' rfl ?_) (.cons (t := 1) (Has.t rfl) (.cons (t := 2) (Has.t rfl) (.cons (t := 3) (Has.t rfl) (.cons (t := 4) (Has.t rfl) (.cons (t := 5) (Has.t rfl) .nil)))))) ?_)
      · show C - (c + 1) < C - c; omega
      · exact isI_eq (by omega)
      · exact hm_step (show (hred ⟨rows0 C R (vals xs) R, 0⟩ c).top < _ by omega)
    · have hc2 := BP.f hc2
      have hst := hred_stop (rows0_ok (R := R) (C := C) hx) hc (show ¬ (c < C ∧ _) from fun h => by omega)
      refine Tri.exit ?_
      refine At.the ?_
      refine At.the ?_
      refine At.blh ?_
      refine At.thn (hK5 _ _ ?_); clear hK5
      refine Tri.cv (Cv.wk (.cons (t := 1) (Has.t rfl) (.cons (t := 2) (Has.t rfl) (.cons (t := 3) (Has.t rfl) (.cons (t := 4) (Has.t rfl) (.cons (t := 5) (Has.t rfl) .nil)))))) ?_
      refine Tri.seq fun K11 hK11 => ?_
      refine Tri.cv (Cv.freezeF (k := 1) (i := 1) (j := 0) (o := 0) rfl rfl rfl rfl gr_lenM gr_takeM (Ss' := [SlM isP ((hred ⟨rows0 C R (vals xs) R, 0⟩ c).rows), _, _]) rfl) ?_
      refine Tri.memEq (M' := [(some _, cellM [SlM isP ((hred ⟨rows0 C R (vals xs) R, 0⟩ c).rows), _, _]), _, _, _]) rfl ?_
      refine Tri.cv (Cv.wk (.cons (t := 1) (Has.t rfl) (.cons (t := 2) (Has.t rfl) (.cons (t := 3) (Has.t rfl) (.cons (t := 4) (Has.t rfl) (.cons (t := 5) (Has.t rfl) .nil)))))) ?_
      refine Tri.cv (Cv.freezeBox (t := 5) (i := 0) rfl rfl rfl) ?_
      refine Tri.memEq (M' := [_, _, _]) rfl ?_
      refine Tri.cv (Cv.wk (.cons (t := 1) (Has.t rfl) (.cons (t := 2) (Has.t rfl) (.cons (t := 3) (Has.t rfl) (.cons (t := 4) (Has.t rfl) (.cons (t := 5) (Has.t rfl) .nil)))))) ?_
      refine Tri.dr ?_
      refine DrG.st (i := 0) [] rfl rfl rfl (by kernel_rfl) (OKG.o rfl (OK1.mv (Has.t rfl))) ?_
      refine DrG.st (i := 1) [] rfl rfl rfl (by kernel_rfl) (OKG.o rfl (OK1.fieldAddr (Has.t rfl) fld24_1 ty3)) ?_
      refine DrG.st (i := 2) [33] rfl rfl rfl (by kernel_rfl) (OKG.o rfl (OK1.load1 (Has.t rfl) (i := 2) rfl ty3 rfl)) ?_
      refine DrG.st (i := 3) [32, 34] rfl rfl rfl (by kernel_rfl) (OKG.o rfl (OK1.call (hnf_part (lo := 0) (hi := C) hoc.row (by omega) (by omega) (by omega) (by omega)) (.cons (Has.t rfl) (.cons (Has.cI 0 rfl) (.cons (Has.t rfl) .nil))))) ?_
      refine DrG.st (i := 4) [] rfl rfl rfl (by kernel_rfl) (OKG.o rfl (OK1.mv (Has.t rfl))) ?_
      refine DrG.st (i := 5) [] rfl rfl rfl (by kernel_rfl) (OKG.o rfl (OK1.fieldAddr (Has.t rfl) fld24_1 ty3)) ?_
      refine DrG.st (i := 6) [37] rfl rfl rfl (by kernel_rfl) (OKG.o rfl (OK1.load1 (Has.t rfl) (i := 2) rfl ty3 rfl)) ?_
      refine DrG.st (i := 7) [] rfl rfl rfl (by kernel_rfl) (OKG.o rfl (OK1.fieldAddr (Has.t rfl) fld24_1 ty3)) ?_
      refine DrG.st (i := 8) [39] rfl rfl rfl (by kernel_rfl) (OKG.o rfl (OK1.load1 (Has.t rfl) (i := 2) rfl ty3 rfl)) ?_
      refine DrG.st (i := 9) [] rfl rfl rfl (by kernel_rfl) (OKG.o rfl (OK1.fieldAddr (Has.t rfl) fld24_0 ty3)) ?_
      refine DrG.st (i := 10) [41] rfl rfl rfl (by kernel_rfl) (OKG.o rfl (OK1.load1 (Has.t rfl) (i := 2) rfl ty3 rfl)) ?_
      refine DrG.st (i := 11) [40, 42] rfl rfl rfl (by kernel_rfl) (OKG.o rfl (OK1.eq (OK1.addI (Has.t rfl) (Has.t rfl) (by first | omega | assumption) (by first | omega | assumption)) ((show isI _ = isI ((C + R : Nat) : Int) from isI_eq (by omega))))) ?_
      refine DrG.fin (n := 12) mixed (by kernel_rfl) (by kernel_rfl) (by kernel_rfl) ?_
      refine Ops.cv (Cv.wk (.cons (t := 2) (Has.t rfl) (.cons (t := 3) (Has.t rfl) (.cons (t := 4) (Has.t rfl) (.cons (t := 35) (Has.t rfl) (.cons (t := 36) (Has.t rfl) (.cons (t := 38) (Has.t rfl) (.cons (t := 43) (Has.t rfl) .nil)))))))) ?_
      refine st (OK1.call (hnf_part (lo := C) (hi := C + R) hoc.row (by omega) (by omega) (by omega) (by omega)) (.cons (Has.t rfl) (.cons (Has.t rfl) (.cons (Has.t rfl) .nil)))) rfl ?_
      refine Ops.store (Has.t rfl) (Has.t rfl) (i := 1) rfl ty24 rfl rfl (Ss' := [_, _, _]) rfl (M' := [_, (some _, cellM [_, _, _]), _]) rfl ?_
      refine Ops.store (Has.t rfl) (Has.t rfl) (i := 0) rfl ty24 rfl rfl (Ss' := [_, _, _]) rfl (M' := [(some _, cellM [_, _, _]), _, _]) rfl ?_
      refine st (OK1.as (Has.cI 0 rfl)) rfl ?_
      refine nl ?_
      refine At.thn (hK11 _ _ ?_); clear hK11
      refine Tri.cv (Cv.wk (.cons (t := 2) (Has.t rfl) (.cons (t := 3) (Has.t rfl) (.cons (t := 4) (Has.t rfl) .nil)))) ?_
      refine Tri.ret ?_
      refine rtN (.inl rfl) Try.results7 rfl rfl (.cell rfl (i := 1) rfl ty24 rfl ?_ (.cell rfl (i := 0) rfl ty24 rfl ?_ (.tmp (Has.t' rfl ?_) .nil)))
      · exact isMzp_eq hlen hst.symm
      · exact isMzq_eq hlen hst.symm
      · rfl
theorem hnf_Hermite {R C K : Nat} {xs : List (Bool × List Nat)} (hx : Bd (vals xs) K) (hK : (K + 4) * (R + 2) ^ C ≤ 1000000) (hR : R ≤ 64) (hC : C ≤ 64) (hl : xs.length = R * C) : Ctr Try.prog 7 [isM (R : Int) (C : Int) xs] (isTup [isMz R C (flatP 0 C (hrm R C (vals xs)).rows), isMz R R (flatP C (C + R) (hrm R C (vals xs)).rows), isI 0]) := hnf_HermiteQ hx (hq_ask hx hR hK) hR hC hl
end Go.Proofs.Ytcfobfedliajdaa
/- Contracts: layer 14's laws: what a program that does nothing does not answer. -/
namespace Go.Proofs.Ytcfobfedliajdaa
open Go.En Go.RowKit
set_option linter.unusedVariables false
set_option maxRecDepth 10000
open Go.Nt
open Go.Pz
open Go.Mz
open Go.Hn
open Go.Hp
open Go.Dt
theorem aw14_b : Bd [4, 6] 1 := bd64 (by decide)
theorem aw14_tab : tab (2 * 1) 1 (fun i k => cf [4, 6] (i * 1 + k)) = [4, 6] := by decide
theorem aw14_2 : (List.length (words (2 : Int).natAbs)) ≤ 1 := nw_small' (by decide)
set_option maxHeartbeats 4000000 in
theorem law14_awake  : Ctr Try.prog 4 [] (isB true) := by
  refine Ctr.intro Try.func4 rfl (by kernel_rfl) Try.ntmps4 rfl fun w0 F0 => ?_
  refine Tri.cv (Cv.wk .nil) ?_
  have h2 := aw14_2
  refine Tri.seq fun K1 hK1 => ?_
  refine Tri.region ?_
  refine st (OK1.as (Has.cB false)) rfl ?_
  refine nl ?_
  refine At.thn (hK1 _ _ ?_); clear hK1
  refine Tri.seq fun K2 hK2 => ?_
  refine Tri.region ?_
  refine st (OK1.buildS [isI 0, isI 0] sl72 ty2 zero2 (fun _ _ => ⟨⟨rfl, by decide, by decide⟩, ⟨rfl, by decide, by decide⟩, trivial⟩) rfl rfl (.cons (Has.cI 4 rfl) rfl rfl rfl (.cons (Has.cI 6 rfl) rfl rfl rfl .nil)) rfl (S := SlM isI [_, _]) rfl) rfl ?_
  refine st (OK1.eq (OK1.call (zmat_Of (R := 2) (C := 1) (l := [4, 6]) (by decide) (by decide) rfl (by decide)) (.cons (Has.cI 2 rfl) (.cons (Has.cI 1 rfl) (.cons (Has.t rfl) .nil)))) ((show isTup [isMz 2 1 _, isI 0] = isTup [isMz 2 1 [4, 6], isI 0] from by rw [aw14_tab]))) rfl ?_
  refine st (OK1.mv (Has.t rfl)) rfl ?_
  refine st (OK1.ext (Has.t rfl) rfl) rfl ?_
  refine st (OK1.ext (Has.t rfl) rfl) rfl ?_
  refine Ops.alloc [isI 0, isI 0, nilS] zero24 (fun _ _ => ⟨⟨rfl, by decide, by decide⟩, ⟨rfl, by decide, by decide⟩, rfl, trivial⟩) rfl fun b1 => ?_
  refine Ops.store (Has.t rfl) (Has.t rfl) (i := 0) rfl ty24 rfl rfl (Ss' := [_, _, _]) rfl (M' := [(some _, cellM [_, _, _])]) rfl ?_
  refine st (OK1.as (Has.t rfl)) rfl ?_
  refine nl ?_
  refine At.thn (hK2 _ _ ?_); clear hK2
  refine Tri.cv (Cv.wk (.cons (t := 0) (Has.t rfl) (.cons (t := 1) (Has.t rfl) .nil))) ?_
  refine Tri.seq fun K3 hK3 => ?_
  refine Tri.region ?_
  refine st (OK1.load (Has.t rfl) (i := 0) rfl ty24 rfl (Ss' := [_, _, _]) rfl) rfl ?_
  refine st (OK1.eq (OK1.call (hnf_Hermite (R := 2) (C := 1) (K := 1) (xs := [4, 6].map nz) (by rw [vals_nz]; exact aw14_b) (by decide) (by decide) (by decide) rfl) (.cons (Has.t rfl) .nil)) ((show _ = isTup [isMz 2 1 (hL 2 1 [4, 6]), isMz 2 2 (uL 2 1 [4, 6]), isI 0] from by rw [vals_nz]; rfl))) rfl ?_
  refine st (OK1.mv (Has.t rfl)) rfl ?_
  refine st (OK1.ext (Has.t rfl) rfl) rfl ?_
  refine st (OK1.ext (Has.t rfl) rfl) rfl ?_
  refine st (OK1.ext (Has.t rfl) rfl) rfl ?_
  refine Ops.alloc [isI 0, isI 0, nilS] zero24 (fun _ _ => ⟨⟨rfl, by decide, by decide⟩, ⟨rfl, by decide, by decide⟩, rfl, trivial⟩) rfl fun b2 => ?_
  refine Ops.alloc [isI 0, isI 0, nilS] zero24 (fun _ _ => ⟨⟨rfl, by decide, by decide⟩, ⟨rfl, by decide, by decide⟩, rfl, trivial⟩) rfl fun b3 => ?_
  refine Ops.store (Has.t rfl) (Has.t rfl) (i := 1) rfl ty24 rfl rfl (Ss' := [_, _, _]) rfl (M' := [_, (some _, cellM [_, _, _]), _]) rfl ?_
  refine Ops.store (Has.t rfl) (Has.t rfl) (i := 0) rfl ty24 rfl rfl (Ss' := [_, _, _]) rfl (M' := [(some _, cellM [_, _, _]), _, _]) rfl ?_
  refine st (OK1.as (Has.t rfl)) rfl ?_
  refine nl ?_
  refine At.thn (hK3 _ _ ?_); clear hK3
  refine Tri.cv (Cv.wk (.cons (t := 0) (Has.t rfl) (.cons (t := 3) (Has.t rfl) (.cons (t := 5) (Has.t rfl) .nil)))) ?_
  refine Tri.seq fun K4 hK4 => ?_
  refine Tri.region ?_
  refine st (OK1.mv (Has.t rfl)) rfl ?_
  refine st (OK1.eqI (Has.t rfl) (Has.cI 0 rfl)) rfl ?_
  refine st (OK1.mv (Has.t rfl)) rfl ?_
  refine stT rfl rfl (fun hg => have hg' := BP.t hg; OK1.fieldAddr (Has.t rfl) fld24_0 ty3) rfl ?_
  refine stT rfl rfl (fun hg => have hg' := BP.t hg; OK1.load1 (Has.g rfl hg) (i := 1) rfl ty3 rfl) rfl ?_
  refine stT rfl rfl (fun hg => have hg' := BP.t hg; OK1.eqI (Has.g rfl hg) (Has.cI 2 rfl)) rfl ?_
  refine st (OK1.pickAnd (Has.t rfl) (fun h => Has.g rfl h)) rfl ?_
  refine st (OK1.mv (Has.t rfl)) rfl ?_
  refine stT rfl rfl (fun hg => have hg' := BP.t hg; OK1.load (Has.t rfl) (i := 1) rfl ty24 rfl (Ss' := [_, _, _]) rfl) rfl ?_
  refine stT rfl rfl (fun hg => have hg' := BP.t hg; OK1.eq (OK1.call (zmat_At (R := 2) (C := 1) (i := 0) (k := 0) (K := 20) (xs := (hL 2 1 [4, 6]).map nz) (by rw [vals_nz]; exact (hL_bd aw14_b).mono (by decide)) (by decide) (by decide) (by decide) (by rw [List.length_map, hL_len aw14_b]) (by decide) (by decide)) (.cons (Has.g rfl hg) (.cons (Has.cI 0 rfl) (.cons (Has.cI 0 rfl) .nil)))) ((show _ = isZ 2 from isZ_eq (by rw [vals_nz]; exact aw14)))) rfl ?_
  refine stT rfl rfl (fun hg => have hg' := BP.t hg; OK1.call (zint_Of) (.cons (Has.cI 2 rfl) .nil)) rfl ?_
  refine stT rfl rfl (fun hg => have hg' := BP.t hg; OK1.eq (OK1.call (zint_Same (by rw [val_words]; omega) (by rw [val_words]; omega)) (.cons (Has.g rfl hg) (.cons (Has.g rfl hg) .nil))) ((show isB _ = isB true from isB_eq (decide_eq_true (by first | rfl | simp only [zv_nf]))))) rfl ?_
  refine st (OK1.pickAnd (Has.t rfl) (fun h => Has.g rfl h)) rfl ?_
  refine st (OK1.mv (Has.t rfl)) rfl ?_
  refine stT rfl rfl (fun hg => have hg' := BP.t hg; OK1.load (Has.t rfl) (i := 1) rfl ty24 rfl (Ss' := [_, _, _]) rfl) rfl ?_
  refine stT rfl rfl (fun hg => have hg' := BP.t hg; OK1.eq (OK1.call (zmat_At (R := 2) (C := 1) (i := 0) (k := 0) (K := 20) (xs := (hL 2 1 [4, 6]).map nz) (by rw [vals_nz]; exact (hL_bd aw14_b).mono (by decide)) (by decide) (by decide) (by decide) (by rw [List.length_map, hL_len aw14_b]) (by decide) (by decide)) (.cons (Has.g rfl hg) (.cons (Has.cI 0 rfl) (.cons (Has.cI 0 rfl) .nil)))) ((show _ = isZ 2 from isZ_eq (by rw [vals_nz]; exact aw14)))) rfl ?_
  refine stT rfl rfl (fun hg => have hg' := BP.t hg; OK1.eq (OK1.call (zint_Sign (by rw [val_words]; omega)) (.cons (Has.g rfl hg) .nil)) ((show isI _ = isI 1 from isI_eq (by rw [zv_nf]; rfl)))) rfl ?_
  refine stT rfl rfl (fun hg => have hg' := BP.t hg; OK1.eqI (Has.g rfl hg) (Has.cI 1 rfl)) rfl ?_
  refine st (OK1.pickAnd (Has.t rfl) (fun h => Has.g rfl h)) rfl ?_
  refine st (OK1.as (Has.t rfl)) rfl ?_
  refine nl ?_
  refine At.thn (hK4 _ _ ?_); clear hK4
  refine Tri.cv (Cv.wk (.cons (t := 0) (Has.t rfl) .nil)) ?_
  refine Tri.ret ?_
  refine rt1 (.inl rfl) Try.results4 rfl (.tmp (Has.t' rfl ?_) .nil)
  all_goals (rfl)
end Go.Proofs.Ytcfobfedliajdaa
