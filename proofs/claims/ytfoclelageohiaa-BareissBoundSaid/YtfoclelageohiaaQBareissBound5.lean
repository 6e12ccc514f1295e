/- The law BareissBound, as it is stated, of the given program, for every input; no condition. -/
import Derived.Test.YtfoclelageohiaaQBareissBound4
import Derived.Deep.SlicePairs
import Derived.Test.YtfoclelageohiaaRows
/- Contracts: what a determinant is not greater than. -/
namespace Go.Proofs.Ytfoclelageohiaa
open Go.En Go.RowKit
set_option linter.unusedVariables false
set_option maxRecDepth 10000
open Go.Nt
open Go.Pz
open Go.Mz
open Go.Dt
/-- the least number whose square is not below n -/
def cs (n : Nat) : Nat := if n - root n * root n = 0 then root n else root n + 1
theorem cs_sq (n : Nat) : n ≤ cs n * cs n := by
  obtain ⟨h1, h2⟩ := root_spec n
  unfold cs
  split <;> omega
theorem cs_of_sq (a : Nat) : cs (a * a) = a := by
  have h : root (a * a) = a := root_uniq (Nat.le_refl _) (by rw [Nat.succ_mul, Nat.mul_succ]; omega)
  unfold cs
  rw [h, if_pos (Nat.sub_self _)]
theorem rootw (n : Nat) : (List.length (words (root n))) ≤ (List.length (words n)) := nw_mono (Nat.le_trans (Nat.le_mul_self _) (root_spec n).1)
theorem cs_nw (n : Nat) : (List.length (words (cs n))) ≤ (List.length (words n)) + 1 := by
  have h1 := rootw n
  unfold cs
  split
  · omega
  · have h2 := nz_add (root n : Int) 1
    rw [show ((root n : Int) + 1) = ((root n + 1 : Nat) : Int) by omega, Int.natAbs_natCast, Int.natAbs_natCast] at h2
    have h3 : (List.length (words (1 : Int).natAbs)) ≤ 1 := nw_small' (by decide)
    have h4 : 1 ≤ (List.length (words (root n))) ∨ root n = 0 := by
      rcases Nat.eq_zero_or_pos (root n) with e | e
      · exact .inr e
      · left; rw [nw_pos (by omega)]; omega
    rcases h4 with h4 | h4
    · omega
    · rw [h4]; exact Nat.le_trans (nw_small' (by decide)) (by omega)
/-- a row's bound -/
def rowB (R : Nat) (A : MatF) (i : Nat) : Int := ((cs (gram R A i i).natAbs : Nat) : Int)
theorem rowB_ok (R : Nat) (A : MatF) (i : Nat) : 0 ≤ rowB R A i ∧ gram R A i i ≤ rowB R A i * rowB R A i := by
  refine ⟨Int.natCast_nonneg _, ?_⟩
  have h := cs_sq (gram R A i i).natAbs
  have h0 : 0 ≤ gram R A i i := ip_nonneg R (A i)
  unfold rowB
  rw [← Int.natCast_mul]
  omega
theorem rowB_one (A : MatF) : pd 1 (rowB 1 A) = ((A 0 0).natAbs : Int) := by
  show 1 * rowB 1 A 0 = _
  unfold rowB
  have e : (gram 1 A 0 0).natAbs = (A 0 0).natAbs * (A 0 0).natAbs := by
    rw [← Int.natAbs_mul]
    refine congrArg _ ?_
    show (0 : Int) + A 0 0 * A 0 0 = _
    omega
  rw [e, cs_of_sq]; omega
theorem pd_nw {f : Nat → Int} {K : Nat} : ∀ t : Nat, (∀ i, i < t → (List.length (words (f i).natAbs)) ≤ K) → (List.length (words (pd t f).natAbs)) ≤ 1 + K * t
  | 0, _ => by show (List.length (words (Int.natAbs 1))) ≤ _; exact Nat.le_trans (nw_small' (by decide)) (by omega)
  | t + 1, h => by
    have h1 := pd_nw t fun i hi => h i (by omega)
    have h2 := nz_mul (pd t f) (f t)
    have h3 := h t (by omega)
    show (List.length (words (pd t f * f t).natAbs)) ≤ _
    rw [Nat.mul_succ]; omega
theorem cmpZ_le {x y : Int} (h : x ≤ y) : ¬ 0 < cmpZ x y := by unfold cmpZ; split <;> (try split) <;> omega
theorem words_len0 {n : Nat} : (0 : Int) < (((words n).length : Nat) : Int) ↔ n ≠ 0 := by
  constructor
  · intro h e; rw [e, words_zero] at h; exact absurd h (by decide)
  · intro h; have := nw_pos h; omega
set_option maxHeartbeats 4000000 in
theorem bareiss_Bound {R : Nat} {xs : List (Bool × List Nat)} (hx : Bd (vals xs) 2) (hR : R ≤ 5) (hl : xs.length = R * R) : Ctr Try.prog 57 [isM (R : Int) (R : Int) xs] (isTup [isZ (pd R (rowB R (mf R (vals xs)))), isI 0]) := by
  refine Ctr.intro Try.func57 rfl (by kernel_rfl) Try.ntmps57 rfl fun w0 F0 => ?_
  refine Tri.cv (Cv.wk (.cons (t := 0) (Has.t rfl) .nil)) ?_
  have hRC := side_le (R := R) (C := R) (by omega) (by omega)
  have hfo := formB_true (R := R) (C := R) (by omega) (by omega) hl
  obtain ⟨A, hA⟩ : ∃ A, A = mf R (vals xs) := ⟨_, rfl⟩
  have hAb : ∀ i j, (List.length (words (A i j).natAbs)) ≤ 2 := by rw [hA]; exact mf_bd hx
  have hgw : ∀ i, (List.length (words (gram R A i i).natAbs)) ≤ 4 + R := fun i => sm_nw (K := 4) (fun k => by have := nz_mul (A i k) (A i k); have := hAb i k; omega) R
  have hrw : ∀ i, (List.length (words (rowB R A i).natAbs)) ≤ 10 := fun i => by unfold rowB; rw [Int.natAbs_natCast]; have := cs_nw (gram R A i i).natAbs; have := hgw i; omega
  rw [← hA]
  refine Tri.seq fun K1 hK1 => ?_
  refine Tri.region ?_
  refine Ops.box (Has.t rfl) rfl fun b1 => ?_
  refine Ops.alloc [isB false, SlM isU []] zero59 (fun _ _ => ⟨rfl, nilM _ _, trivial⟩) rfl fun b2 => ?_
  refine st (OK1.as (Has.cI 0 rfl)) rfl ?_
  refine nl ?_
  refine At.thn (hK1 _ _ ?_); clear hK1
  refine Tri.seq fun K2 hK2 => ?_
  refine Tri.seq fun K3 hK3 => ?_
  refine Tri.region ?_
  refine st (OK1.load (Has.t rfl) (i := 1) rfl ty55 rfl (Ss' := [_, _, _]) rfl) rfl ?_
  refine st (OK1.eq (OK1.call (zmat_Formed) (.cons (Has.t rfl) .nil)) ((show isB _ = isB true from isB_eq hfo))) rfl ?_
  refine st (OK1.not (Has.t rfl)) rfl ?_
  refine st (OK1.mv (Has.t rfl)) rfl ?_
  refine stF rfl rfl (fun hg => have hg' := BP.t hg; OK1.fieldAddr (Has.t rfl) fld55_0 ty3) rfl ?_
  refine stF rfl rfl (fun hg => have hg' := BP.t hg; OK1.load1 (Has.g rfl hg) (i := 1) rfl ty3 rfl) rfl ?_
  refine stF rfl rfl (fun hg => have hg' := BP.t hg; OK1.fieldAddr (Has.t rfl) fld55_1 ty3) rfl ?_
  refine stF rfl rfl (fun hg => have hg' := BP.t hg; OK1.load1 (Has.g rfl hg) (i := 1) rfl ty3 rfl) rfl ?_
  refine stF rfl rfl (fun hg => have hg' := BP.t hg; OK1.neI (Has.g rfl hg) (Has.g rfl hg)) rfl ?_
  refine st (OK1.pickOr (Has.t rfl) (fun h => Has.g rfl (ng h))) rfl ?_
  refine nl ?_
  refine At.thn (hK3 _ _ ?_); clear hK3
  refine Tri.cv (Cv.wk (.cons (t := 1) (Has.t rfl) (.cons (t := 2) (Has.t rfl) (.cons (t := 3) (Has.t rfl) (.cons (t := 20) (Has.t rfl) .nil))))) ?_
  refine Tri.cond (Has.t rfl) (fun hc1 => ?_) (fun hc1 => ?_)
  · have hc1 := BP.t hc1
    simp at hc1
  · have hc1 := BP.f hc1
    skip
    refine Tri.skip ?_
    refine At.thn (hK2 _ _ ?_); clear hK2
    refine Tri.seq fun K4 hK4 => ?_
    refine Tri.region ?_
    refine st (OK1.call (zint_Of) (.cons (Has.cI 1 rfl) .nil)) rfl ?_
    refine Ops.alloc [isB false, SlM isU []] zero59 (fun _ _ => ⟨rfl, nilM _ _, trivial⟩) rfl fun b3 => ?_
    refine Ops.store (Has.t rfl) (Has.t rfl) (i := 0) rfl ty59 rfl rfl (Ss' := [_, _]) rfl (M' := [(some _, cellM [_, _]), _, _]) rfl ?_
    refine nl ?_
    refine At.thn (hK4 _ _ ?_); clear hK4
    refine Tri.seq fun K5 hK5 => ?_
    refine Tri.seq fun K6 hK6 => ?_
    refine Tri.region ?_
    refine st (OK1.fieldAddr (Has.t rfl) fld55_0 ty3) rfl ?_
    refine st (OK1.load1 (Has.t rfl) (i := 2) rfl ty3 rfl) rfl ?_
    refine st (OK1.mv (Has.cI 0 rfl)) rfl ?_
    refine nl ?_
    refine At.thn (hK6 _ _ ?_); clear hK6
    refine Tri.block ?_
    refine Tri.loopF [1, 2, 3, 4, 24] (fun (z : { i : Nat // i ≤ R }) => match z with | ⟨i, hi⟩ => [(25, isI (i : Int))]) (fun M => fun (z : { i : Nat // i ≤ R }) => match z with | ⟨i, hi⟩ => [zM b3 (pd i (rowB R A)), (some b2, cellM [isB false, SlM isU []]), (some b1, cellM [isI (R : Int), isI (R : Int), SlK 2 zc xs])]) (fun (z : { i : Nat // i ≤ R }) => match z with | ⟨i, hi⟩ => R - i) (⟨0, Nat.zero_le _⟩) (Cv.mem (.cons (t := 25) (Has.t' rfl ?_) (.cons (t := 1) (Has.t rfl) (.cons (t := 2) (Has.t rfl) (.cons (t := 3) (Has.t rfl) (.cons (t := 4) (Has.t rfl) (.cons (t := 24) (Has.t rfl) .nil)))))) ?_) ?_
    · rfl
    · rfl
    rintro ⟨i, hi⟩ K7 hK7
    refine Tri.cv (Cv.wk (.cons (t := 25) (Has.t rfl) (.cons (t := 1) (Has.t rfl) (.cons (t := 2) (Has.t rfl) (.cons (t := 3) (Has.t rfl) (.cons (t := 4) (Has.t rfl) (.cons (t := 24) (Has.t rfl) .nil))))))) ?_
    refine Tri.memEq (M' := [zM b3 (pd i (rowB R A)), (some b2, cellM [isB false, SlM isU []]), (some b1, cellM [isI (R : Int), isI (R : Int), SlK 2 zc xs])]) rfl ?_
    have hpw := pd_nw (f := rowB R A) i (fun q _ => hrw q)
    refine Tri.seq fun K8 hK8 => ?_
    refine Tri.region ?_
    refine st (OK1.ltI (Has.t rfl) (Has.t rfl)) rfl ?_
    refine nl ?_
    refine At.thn (hK8 _ _ ?_); clear hK8
    refine Tri.seq fun K9 hK9 => ?_
    refine Tri.cond (Has.t rfl) (fun hc2 => ?_) (fun hc2 => ?_)
    · have hc2 := BP.t hc2
      skip
      refine Tri.skip ?_
      refine At.thn (hK9 _ _ ?_); clear hK9
      refine Tri.seq fun K10 hK10 => ?_
      refine Tri.block ?_
      refine Tri.seq fun K11 hK11 => ?_
      refine Tri.region ?_
      refine st (OK1.mv (Has.t rfl)) rfl ?_
      refine st (OK1.as (Has.t rfl)) rfl ?_
      refine nl ?_
      refine At.thn (hK11 _ _ ?_); clear hK11
      refine Tri.seq fun K12 hK12 => ?_
      refine Tri.region ?_
      refine Ops.alloc [isB false, SlM isU []] zero59 (fun _ _ => ⟨rfl, nilM _ _, trivial⟩) rfl fun b4 => ?_
      refine nl ?_
      refine At.thn (hK12 _ _ ?_); clear hK12
      refine Tri.seq fun K13 hK13 => ?_
      refine Tri.seq fun K14 hK14 => ?_
      refine Tri.region ?_
      refine st (OK1.fieldAddr (Has.t rfl) fld55_1 ty3) rfl ?_
      refine st (OK1.load1 (Has.t rfl) (i := 3) rfl ty3 rfl) rfl ?_
      refine st (OK1.mv (Has.cI 0 rfl)) rfl ?_
      refine nl ?_
      refine At.thn (hK14 _ _ ?_); clear hK14
      refine Tri.block ?_
      refine Tri.loopF [1, 2, 3, 4, 24, 25, 26, 27, 5, 6, 28, 29] (fun (z : { k : Nat // k ≤ R }) => match z with | ⟨k, hk⟩ => [(30, isI (k : Int))]) (fun M => fun (z : { k : Nat // k ≤ R }) => match z with | ⟨k, hk⟩ => [zM b4 (sm k fun q => A i q * A i q), zM b3 (pd i (rowB R A)), (some b2, cellM [isB false, SlM isU []]), (some b1, cellM [isI (R : Int), isI (R : Int), SlK 2 zc xs])]) (fun (z : { k : Nat // k ≤ R }) => match z with | ⟨k, hk⟩ => R - k) (⟨0, Nat.zero_le _⟩) (Cv.mem (.cons (t := 30) (Has.t' rfl ?_) (.cons (t := 1) (Has.t rfl) (.cons (t := 2) (Has.t rfl) (.cons (t := 3) (Has.t rfl) (.cons (t := 4) (Has.t rfl) (.cons (t := 24) (Has.t rfl) (.cons (t := 25) (Has.t rfl) (.cons (t := 26) (Has.t rfl) (.cons (t := 27) (Has.t rfl) (.cons (t := 5) (Has.t rfl) (.cons (t := 6) (Has.t rfl) (.cons (t := 28) (Has.t rfl) (.cons (t := 29) (Has.t rfl) .nil))))))))))))) ?_) ?_
      · rfl
      · exact zM0
      rintro ⟨k, hk⟩ K15 hK15
      refine Tri.cv (Cv.wk (.cons (t := 30) (Has.t rfl) (.cons (t := 1) (Has.t rfl) (.cons (t := 2) (Has.t rfl) (.cons (t := 3) (Has.t rfl) (.cons (t := 4) (Has.t rfl) (.cons (t := 24) (Has.t rfl) (.cons (t := 25) (Has.t rfl) (.cons (t := 26) (Has.t rfl) (.cons (t := 27) (Has.t rfl) (.cons (t := 5) (Has.t rfl) (.cons (t := 6) (Has.t rfl) (.cons (t := 28) (Has.t rfl) (.cons (t := 29) (Has.t rfl) .nil)))))))))))))) ?_
      refine Tri.memEq (M' := [zM b4 (sm k fun q => A i q * A i q), zM b3 (pd i (rowB R A)), (some b2, cellM [isB false, SlM isU []]), (some b1, cellM [isI (R : Int), isI (R : Int), SlK 2 zc xs])]) rfl ?_
      have hsw := sm_nw (f := fun q => A i q * A i q) (K := 4) (fun q => by have := nz_mul (A i q) (A i q); have := hAb i q; omega) k
      refine Tri.seq fun K16 hK16 => ?_
      refine Tri.region ?_
      refine st (OK1.ltI (Has.t rfl) (Has.t rfl)) rfl ?_
      refine nl ?_
      refine At.thn (hK16 _ _ ?_); clear hK16
      refine Tri.seq fun K17 hK17 => ?_
      refine Tri.cond (Has.t rfl) (fun hc3 => ?_) (fun hc3 => ?_)
      · have hc3 := BP.t hc3
        have hkR : k < R := (by omega)
        have hAk : A i k = cf (vals xs) (i * R + k) := by rw [hA]; rfl
        have haw := hAb i k
        have hmw := nz_mul (A i k) (A i k)
        refine Tri.skip ?_
        refine At.thn (hK17 _ _ ?_); clear hK17
        refine Tri.seq fun K18 hK18 => ?_
        refine Tri.block ?_
        refine Tri.seq fun K19 hK19 => ?_
        refine Tri.region ?_
        refine st (OK1.mv (Has.t rfl)) rfl ?_
        refine st (OK1.as (Has.t rfl)) rfl ?_
        refine nl ?_
        refine At.thn (hK19 _ _ ?_); clear hK19
        refine Tri.seq fun K20 hK20 => ?_
        refine Tri.region ?_
        refine st (OK1.load (Has.t rfl) (i := 3) rfl ty55 rfl (Ss' := [_, _, _]) rfl) rfl ?_
        refine st (OK1.mv (Has.t rfl)) rfl ?_
        refine st (OK1.mv (Has.t rfl)) rfl ?_
        refine st (OK1.eq (OK1.call (zmat_At (i := i) (k := k) hx (by decide) (by omega) (by omega) hl (by omega) hkR) (.cons (Has.t rfl) (.cons (Has.t rfl) (.cons (Has.t rfl) .nil)))) ((show isZ _ = isZ (A i k) from isZ_eq hAk.symm))) rfl ?_
        refine Ops.alloc [isB false, SlM isU []] zero59 (fun _ _ => ⟨rfl, nilM _ _, trivial⟩) rfl fun b5 => ?_
        refine Ops.store (Has.t rfl) (Has.t rfl) (i := 0) rfl ty59 rfl rfl (Ss' := [_, _]) rfl (M' := [(some _, cellM [_, _]), _, _, _, _]) rfl ?_
        refine nl ?_
        refine At.thn (hK20 _ _ ?_); clear hK20
        refine Tri.dr ?_
        refine DrG.st (i := 0) [] rfl rfl rfl (by kernel_rfl) (OKG.o rfl (OK1.load (Has.t rfl) (i := 1) rfl ty59 rfl (Ss' := [_, _]) rfl)) ?_
        refine DrG.st (i := 1) [] rfl rfl rfl (by kernel_rfl) (OKG.o rfl (OK1.load (Has.t rfl) (i := 0) rfl ty59 rfl (Ss' := [_, _]) rfl)) ?_
        refine DrG.st (i := 2) [] rfl rfl rfl (by kernel_rfl) (OKG.o rfl (OK1.load (Has.t rfl) (i := 0) rfl ty59 rfl (Ss' := [_, _]) rfl)) ?_
        refine DrG.st (i := 3) [38, 39] rfl rfl rfl (by kernel_rfl) (OKG.o rfl (OK1.eq (OK1.call (zint_Mul (by rw [val_words]; omega) (by rw [val_words]; omega)) (.cons (Has.t rfl) (.cons (Has.t rfl) .nil))) ((show isZ _ = isZ (A i k * A i k) from isZ_eq (by rw [zv_nf]))))) ?_
        refine DrG.fin (n := 4) mixed (by kernel_rfl) (by kernel_rfl) (by kernel_rfl) ?_
        refine Ops.cv (Cv.wk (.cons (t := 1) (Has.t rfl) (.cons (t := 2) (Has.t rfl) (.cons (t := 3) (Has.t rfl) (.cons (t := 4) (Has.t rfl) (.cons (t := 24) (Has.t rfl) (.cons (t := 25) (Has.t rfl) (.cons (t := 26) (Has.t rfl) (.cons (t := 27) (Has.t rfl) (.cons (t := 5) (Has.t rfl) (.cons (t := 6) (Has.t rfl) (.cons (t := 28) (Has.t rfl) (.cons (t := 29) (Has.t rfl) (.cons (t := 30) (Has.t rfl) (.cons (t := 31) (Has.t rfl) (.cons (t := 32) (Has.t rfl) (.cons (t := 7) (Has.t rfl) (.cons (t := 33) (Has.t rfl) (.cons (t := 34) (Has.t rfl) (.cons (t := 35) (Has.t rfl) (.cons (t := 36) (Has.t rfl) (.cons (t := 8) (Has.t rfl) (.cons (t := 37) (Has.t rfl) (.cons (t := 38) (Has.t rfl) (.cons (t := 39) (Has.t rfl) (.cons (t := 40) (Has.t rfl) .nil)))))))))))))))))))))))))) ?_
        refine st (OK1.eq (OK1.call (zint_Add (by rw [val_words]; omega) (by rw [val_words]; omega)) (.cons (Has.t rfl) (.cons (Has.t rfl) .nil))) ((show isZ _ = isZ (sm (k + 1) fun q => A i q * A i q) from isZ_eq (by rw [zv_nf, zv_nf]; rfl)))) rfl ?_
        refine Ops.store (Has.t rfl) (Has.t rfl) (i := 1) rfl ty59 rfl rfl (Ss' := [_, _]) rfl (M' := [_, (some _, cellM [_, _]), _, _, _]) rfl ?_
        refine nl ?_
        refine At.bln ?_
        refine At.thn (hK18 _ _ ?_); clear hK18
        refine Tri.region ?_
        refine st (OK1.addI (Has.t rfl) (Has.cI 1 rfl) (by first | omega | assumption) (by first | omega | assumption)) rfl ?_
        refine st (OK1.mv (Has.t rfl)) rfl ?_
        refine nl ?_
        refine At.thn ?_
        refine hK15 (⟨k + 1, by omega⟩) _ _ ?_ (Cv.trans (Cv.drop ((.cons _ (.cons_cons _ (.cons_cons _ (.cons_cons _ (.cons_cons _ .slnil))))))) (Cv.mem (.cons (t := 30) (Has.t' rfl ?_) (.cons (t := 1) (Has.t rfl) (.cons (t := 2) (Has.t rfl) (.cons (t := 3) (Has.t rfl) (.cons (t := 4) (Has.t rfl) (.cons (t := 24) (Has.t rfl) (.cons (t := 25) (Has.t rfl) (.cons (t := 26) (Has.t rfl) (.cons (t := 27) (Has.t rfl) (.cons (t := 5) (Has.t rfl) (.cons (t := 6) (Has.t rfl) (.cons (t := 28) (Has.t rfl) (.cons (t := 29) (Has.t rfl) .nil))))))))))))) ?_))
        · show R - (k + 1) < R - k; omega
        · exact isI_eq (by omega)
        · rfl
      · have hc3 := BP.f hc3
        have hkk : k = R := (by omega)
        subst hkk
        obtain ⟨S, hS⟩ : ∃ S : Nat, S = (gram k A i i).natAbs := ⟨_, rfl⟩
        have hSg : (sm k fun q => A i q * A i q).natAbs = S := hS.symm
        have hSw := hgw i
        rw [← hS] at hSw
        have hrt := rootw S
        refine Tri.exit ?_
        refine At.the ?_
        refine At.the ?_
        refine At.blh ?_
        refine At.thn (hK13 _ _ ?_); clear hK13
        refine Tri.seq fun K21 hK21 => ?_
        refine Tri.region ?_
        refine st (OK1.fieldAddr (Has.t rfl) fld59_1 ty57) rfl ?_
        refine st (OK1.load1 (Has.t rfl) (i := 0) rfl ty57 rfl) rfl ?_
        refine st (OK1.eq (OK1.call (div_RootS (by rw [val_words, hSg]; omega)) (.cons (Has.t rfl) .nil)) ((show isTup [isWords _, isWords _] = isTup [isWords (words (root S)), isWords (words (S - root S * root S))] from by rw [val_words, hSg]))) rfl ?_
        refine st (OK1.mv (Has.t rfl)) rfl ?_
        refine st (OK1.ext (Has.t rfl) rfl) rfl ?_
        refine st (OK1.ext (Has.t rfl) rfl) rfl ?_
        refine st (OK1.as (Has.t rfl)) rfl ?_
        refine st (OK1.as (Has.t rfl)) rfl ?_
        refine nl ?_
        refine At.thn (hK21 _ _ ?_); clear hK21
        refine Tri.seq fun K22 hK22 => ?_
        refine Tri.seq fun K23 hK23 => ?_
        refine Tri.region ?_
        refine st (OK1.mv (Has.t rfl)) rfl ?_
        refine st (OK1.len sl57 (Has.t rfl)) rfl ?_
        refine st (OK1.gtI (Has.t rfl) (Has.cI 0 rfl)) rfl ?_
        refine nl ?_
        refine At.thn (hK23 _ _ ?_); clear hK23
        refine Tri.cond (Has.t rfl) (fun hc4 => ?_) (fun hc4 => ?_)
        · have hc4 := BP.t hc4
          have hgi : rowB k A i = ((root S + 1 : Nat) : Int) := by unfold rowB cs; rw [← hS, if_neg (words_len0.1 hc4)]
          refine Tri.region ?_
          refine st (OK1.mv (Has.t rfl)) rfl ?_
          refine st (OK1.call (nat_Of) (.cons (Has.cU 1 rfl) .nil)) rfl ?_
          refine st (OK1.call (nat_Add (by rw [val_words]; omega) (by rw [val_words]; exact Nat.lt_of_le_of_lt (nw_small' (by decide)) (by decide))) (.cons (Has.t rfl) (.cons (Has.t rfl) .nil))) rfl ?_
          refine st (OK1.as (Has.t rfl)) rfl ?_
          refine nl ?_
          refine At.thn (hK22 _ _ ?_); clear hK22
          refine Tri.dr ?_
          refine DrG.st (i := 0) [] rfl rfl rfl (by kernel_rfl) (OKG.o rfl (OK1.load (Has.t rfl) (i := 1) rfl ty59 rfl (Ss' := [_, _]) rfl)) ?_
          refine DrG.st (i := 1) [] rfl rfl rfl (by kernel_rfl) (OKG.o rfl (OK1.mv (Has.t rfl))) ?_
          refine DrG.st (i := 2) [56] rfl rfl rfl (by kernel_rfl) (OKG.o rfl (OK1.eq (OK1.call (zint_From (by first | (rw [val_words]; omega) | (simp only [val_words]; have := hrw i; rw [hgi, Int.natAbs_natCast] at this; omega))) (.cons (Has.t rfl) (.cons (Has.cB false) .nil))) ((show isZ _ = isZ (rowB k A i) from isZ_eq (by rw [hgi, zv_false]; simp only [val_words]))))) ?_
          refine DrG.fin (n := 3) mixed (by kernel_rfl) (by kernel_rfl) (by kernel_rfl) ?_
          refine Ops.cv (Cv.wk (.cons (t := 1) (Has.t rfl) (.cons (t := 2) (Has.t rfl) (.cons (t := 3) (Has.t rfl) (.cons (t := 4) (Has.t rfl) (.cons (t := 24) (Has.t rfl) (.cons (t := 25) (Has.t rfl) (.cons (t := 26) (Has.t rfl) (.cons (t := 27) (Has.t rfl) (.cons (t := 5) (Has.t rfl) (.cons (t := 6) (Has.t rfl) (.cons (t := 28) (Has.t rfl) (.cons (t := 29) (Has.t rfl) (.cons (t := 30) (Has.t rfl) (.cons (t := 31) (Has.t rfl) (.cons (t := 44) (Has.t rfl) (.cons (t := 45) (Has.t rfl) (.cons (t := 46) (Has.t rfl) (.cons (t := 43) (Has.t rfl) (.cons (t := 47) (Has.t rfl) (.cons (t := 48) (Has.t rfl) (.cons (t := 9) (Has.t rfl) (.cons (t := 10) (Has.t rfl) (.cons (t := 49) (Has.t rfl) (.cons (t := 50) (Has.t rfl) (.cons (t := 51) (Has.t rfl) (.cons (t := 52) (Has.t rfl) (.cons (t := 53) (Has.t rfl) (.cons (t := 54) (Has.t rfl) (.cons (t := 55) (Has.t rfl) (.cons (t := 56) (Has.t rfl) (.cons (t := 57) (Has.t rfl) .nil)))))))))))))))))))))))))))))))) ?_
          refine st (OK1.eq (OK1.call (zint_Mul (by rw [val_words]; omega) (by rw [val_words]; have := hrw i; omega)) (.cons (Has.t rfl) (.cons (Has.t rfl) .nil))) ((show isZ _ = isZ (pd (i + 1) (rowB k A)) from isZ_eq (by rw [zv_nf, zv_nf]; rfl)))) rfl ?_
          refine Ops.store (Has.t rfl) (Has.t rfl) (i := 1) rfl ty59 rfl rfl (Ss' := [_, _]) rfl (M' := [_, (some _, cellM [_, _]), _, _]) rfl ?_
          refine nl ?_
          refine At.bln ?_
          refine At.thn (hK10 _ _ ?_); clear hK10
          refine Tri.region ?_
          refine st (OK1.addI (Has.t rfl) (Has.cI 1 rfl) (by first | omega | assumption) (by first | omega | assumption)) rfl ?_
          refine st (OK1.mv (Has.t rfl)) rfl ?_
          refine nl ?_
          refine At.thn ?_
          refine hK7 (⟨i + 1, by omega⟩) _ _ ?_ (Cv.trans (Cv.drop ((.cons _ (.cons_cons _ (.cons_cons _ (.cons_cons _ .slnil)))))) (Cv.mem (.cons (t := 25) (Has.t' rfl ?_) (.cons (t := 1) (Has.t rfl) (.cons (t := 2) (Has.t rfl) (.cons (t := 3) (Has.t rfl) (.cons (t := 4) (Has.t rfl) (.cons (t := 24) (Has.t rfl) .nil)))))) ?_))
          · show k - (i + 1) < k - i; omega
          · exact isI_eq (by omega)
          · rfl
        · have hc4 := BP.f hc4
          have hgi : rowB k A i = ((root S : Nat) : Int) := by unfold rowB cs; rw [← hS, if_pos (Classical.byContradiction fun h => by have := words_len0.2 h; omega)]
          refine Tri.skip ?_
          refine At.thn (hK22 _ _ ?_); clear hK22
          refine Tri.dr ?_
          refine DrG.st (i := 0) [] rfl rfl rfl (by kernel_rfl) (OKG.o rfl (OK1.load (Has.t rfl) (i := 1) rfl ty59 rfl (Ss' := [_, _]) rfl)) ?_
          refine DrG.st (i := 1) [] rfl rfl rfl (by kernel_rfl) (OKG.o rfl (OK1.mv (Has.t rfl))) ?_
          refine DrG.st (i := 2) [56] rfl rfl rfl (by kernel_rfl) (OKG.o rfl (OK1.eq (OK1.call (zint_From (by first | (rw [val_words]; omega) | (simp only [val_words]; have := hrw i; rw [hgi, Int.natAbs_natCast] at this; omega))) (.cons (Has.t rfl) (.cons (Has.cB false) .nil))) ((show isZ _ = isZ (rowB k A i) from isZ_eq (by rw [hgi, zv_false]; simp only [val_words]))))) ?_
          refine DrG.fin (n := 3) mixed (by kernel_rfl) (by kernel_rfl) (by kernel_rfl) ?_
          refine Ops.cv (Cv.wk (.cons (t := 1) (Has.t rfl) (.cons (t := 2) (Has.t rfl) (.cons (t := 3) (Has.t rfl) (.cons (t := 4) (Has.t rfl) (.cons (t := 24) (Has.t rfl) (.cons (t := 25) (Has.t rfl) (.cons (t := 26) (Has.t rfl) (.cons (t := 27) (Has.t rfl) (.cons (t := 5) (Has.t rfl) (.cons (t := 6) (Has.t rfl) (.cons (t := 28) (Has.t rfl) (.cons (t := 29) (Has.t rfl) (.cons (t := 30) (Has.t rfl) (.cons (t := 31) (Has.t rfl) (.cons (t := 44) (Has.t rfl) (.cons (t := 45) (Has.t rfl) (.cons (t := 46) (Has.t rfl) (.cons (t := 43) (Has.t rfl) (.cons (t := 47) (Has.t rfl) (.cons (t := 48) (Has.t rfl) (.cons (t := 9) (Has.t rfl) (.cons (t := 10) (Has.t rfl) (.cons (t := 49) (Has.t rfl) (.cons (t := 50) (Has.t rfl) (.cons (t := 51) (Has.t rfl) (.cons (t := 55) (Has.t rfl) (.cons (t := 56) (Has.t rfl) (.cons (t := 57) (Has.t rfl) .nil))))))))))))))))))))))))))))) ?_
          refine st (OK1.eq (OK1.call (zint_Mul (by rw [val_words]; omega) (by rw [val_words]; have := hrw i; omega)) (.cons (Has.t rfl) (.cons (Has.t rfl) .nil))) ((show isZ _ = isZ (pd (i + 1) (rowB k A)) from isZ_eq (by rw [zv_nf, zv_nf]; rfl)))) rfl ?_
          refine Ops.store (Has.t rfl) (Has.t rfl) (i := 1) rfl ty59 rfl rfl (Ss' := [_, _]) rfl (M' := [_, (some _, cellM [_, _]), _, _]) rfl ?_
          refine nl ?_
          refine At.bln ?_
          refine At.thn (hK10 _ _ ?_); clear hK10
          refine Tri.region ?_
          refine st (OK1.addI (Has.t rfl) (Has.cI 1 rfl) (by first | omega | assumption) (by first | omega | assumption)) rfl ?_
          refine st (OK1.mv (Has.t rfl)) rfl ?_
          refine nl ?_
          refine At.thn ?_
          refine hK7 (⟨i + 1, by omega⟩) _ _ ?_ (Cv.trans (Cv.drop ((.cons _ (.cons_cons _ (.cons_cons _ (.cons_cons _ .slnil)))))) (Cv.mem (.cons (t := 25) (Has.t' rfl ?_) (.cons (t := 1) (Has.t rfl) (.cons (t := 2) (Has.t rfl) (.cons (t := 3) (Has.t rfl) (.cons (t := 4) (Has.t rfl) (.cons (t := 24) (Has.t rfl) .nil)))))) ?_))
          · show k - (i + 1) < k - i; omega
          · exact isI_eq (by omega)
          · rfl
    · have hc2 := BP.f hc2
      have hii : i = R := (by omega)
      subst hii
      refine Tri.exit ?_
      refine At.the ?_
      refine At.the ?_
      refine At.blh ?_
      refine At.thn (hK5 _ _ ?_); clear hK5
      refine Tri.seq fun K24 hK24 => ?_
      refine Tri.region ?_
      refine st (OK1.load (Has.t rfl) (i := 0) rfl ty59 rfl (Ss' := [_, _]) rfl) rfl ?_
      refine Ops.store (Has.t rfl) (Has.t rfl) (i := 1) rfl ty59 rfl rfl (Ss' := [_, _]) rfl (M' := [_, (some _, cellM [_, _]), _]) rfl ?_
      refine st (OK1.as (Has.cI 0 rfl)) rfl ?_
      refine nl ?_
      refine At.thn (hK24 _ _ ?_); clear hK24
      refine Tri.cv (Cv.wk (.cons (t := 2) (Has.t rfl) (.cons (t := 3) (Has.t rfl) .nil))) ?_
      refine Tri.ret ?_
      refine rtN (.inl rfl) Try.results57 rfl rfl (.cell rfl (i := 1) rfl ty59 rfl ?_ (.tmp (Has.t' rfl ?_) .nil))
      · rfl
      · rfl
set_option maxHeartbeats 4000000 in
theorem bareiss_Bound_bad {r c : Int} {xs : List (Bool × List Nat)} (hf : r ≠ c ∨ formB r c xs.length = false) : Ctr Try.prog 57 [isM r c xs] (isTup [isZ 0, isI 2]) := by
  refine Ctr.intro Try.func57 rfl (by kernel_rfl) Try.ntmps57 rfl fun w0 F0 => ?_
  refine Tri.cv (Cv.wk (.cons (t := 0) (Has.t rfl) .nil)) ?_
  refine Tri.seq fun K1 hK1 => ?_
  refine Tri.region ?_
  refine Ops.box (Has.t rfl) rfl fun b1 => ?_
  refine Ops.alloc [isB false, SlM isU []] zero59 (fun _ _ => ⟨rfl, nilM _ _, trivial⟩) rfl fun b2 => ?_
  refine st (OK1.as (Has.cI 0 rfl)) rfl ?_
  refine nl ?_
  refine At.thn (hK1 _ _ ?_); clear hK1
  refine Tri.seq fun K2 hK2 => ?_
  refine Tri.seq fun K3 hK3 => ?_
  refine Tri.region ?_
  refine st (OK1.load (Has.t rfl) (i := 1) rfl ty55 rfl (Ss' := [_, _, _]) rfl) rfl ?_
  refine st (OK1.call (zmat_Formed) (.cons (Has.t rfl) .nil)) rfl ?_
  refine st (OK1.not (Has.t rfl)) rfl ?_
  refine st (OK1.mv (Has.t rfl)) rfl ?_
  refine stF rfl rfl (fun hg => have hg' := BP.t hg; OK1.fieldAddr (Has.t rfl) fld55_0 ty3) rfl ?_
  refine stF rfl rfl (fun hg => have hg' := BP.t hg; OK1.load1 (Has.g rfl hg) (i := 1) rfl ty3 rfl) rfl ?_
  refine stF rfl rfl (fun hg => have hg' := BP.t hg; OK1.fieldAddr (Has.t rfl) fld55_1 ty3) rfl ?_
  refine stF rfl rfl (fun hg => have hg' := BP.t hg; OK1.load1 (Has.g rfl hg) (i := 1) rfl ty3 rfl) rfl ?_
  refine stF rfl rfl (fun hg => have hg' := BP.t hg; OK1.neI (Has.g rfl hg) (Has.g rfl hg)) rfl ?_
  refine st (OK1.pickOr (Has.t rfl) (fun h => Has.g rfl (ng h))) rfl ?_
  refine nl ?_
  refine At.thn (hK3 _ _ ?_); clear hK3
  refine Tri.cv (Cv.wk (.cons (t := 1) (Has.t rfl) (.cons (t := 2) (Has.t rfl) (.cons (t := 3) (Has.t rfl) (.cons (t := 20) (Has.t rfl) .nil))))) ?_
  refine Tri.cond (Has.t rfl) (fun hc1 => ?_) (fun hc1 => ?_)
  · have hc1 := BP.t hc1
    refine Tri.seq fun K4 hK4 => ?_
    refine Tri.region ?_
    refine st (OK1.build [isB false, SlM isU []] pl59 zero59 (fun _ _ => ⟨rfl, nilM _ _, trivial⟩) .nil (Z'' := [_, _]) rfl) rfl ?_
    refine Ops.store (Has.t rfl) (Has.t rfl) (i := 0) rfl ty59 rfl rfl (Ss' := [_, _]) rfl (M' := [(some _, cellM [_, _]), _]) rfl ?_
    refine st (OK1.as (Has.cI 2 rfl)) rfl ?_
    refine nl ?_
    refine At.thn (hK4 _ _ ?_); clear hK4
    refine Tri.ret ?_
    refine At.thr ?_
    refine rtN (.inl rfl) Try.results57 rfl rfl (.cell rfl (i := 0) rfl ty59 rfl ?_ (.tmp (Has.t' rfl ?_) .nil))
    · exact isZ0
    · rfl
  · have hc1 := BP.f hc1
    rcases hf with h | h <;> simp_all
theorem bareiss_BoundAll {r c : Int} {xs : List (Bool × List Nat)} (hx : Bd (vals xs) 2) (hr : r ≤ 5) : Ctr Try.prog 57 [isM r c xs] (isTup [isZ (if sqB r c xs.length = true then pd r.toNat (rowB r.toNat (mf r.toNat (vals xs))) else 0), isI (if sqB r c xs.length = true then 0 else 2)]) := by
  by_cases h : sqB r c xs.length = true
  · obtain ⟨R, rfl, rfl, h1, h2⟩ := sqB_true h
    rw [if_pos h, if_pos h, Int.toNat_natCast]
    exact bareiss_Bound hx (by omega) h2
  · rw [if_neg h, if_neg h]
    exact bareiss_Bound_bad (sqB_false h)
end Go.Proofs.Ytfoclelageohiaa
/- A law of layer 12: the bound of determinants, as a contract. -/
namespace Go.Proofs.Ytfoclelageohiaa
open Go.En Go.RowKit
set_option linter.unusedVariables false
set_option maxRecDepth 10000
open Go.Nt
open Go.Pz
open Go.Mz
open Go.Dt
set_option maxHeartbeats 4000000 in
theorem c_BareissBound (r c : Int) (xs : List (Bool × List Nat)) : Ctr Try.prog 11 [isM r c xs] (isB true) := by
  refine Ctr.intro Try.func11 rfl (by kernel_rfl) Try.ntmps11 rfl fun w0 F0 => ?_
  refine Tri.cv (Cv.wk (.cons (t := 0) (Has.t rfl) .nil)) ?_
  refine Tri.fact (Has.okM (Has.t (t := 0) rfl)) fun okp0 => ?_
  refine Tri.seq fun K1 hK1 => ?_
  refine Tri.region ?_
  refine Ops.box (Has.t rfl) rfl fun b1 => ?_
  refine st (OK1.as (Has.cB false)) rfl ?_
  refine nl ?_
  refine At.thn (hK1 _ _ ?_); clear hK1
  refine Tri.seq fun K2 hK2 => ?_
  refine Tri.seq fun K3 hK3 => ?_
  refine Tri.region ?_
  refine st (OK1.call (law12_awake) .nil) rfl ?_
  refine st (OK1.not (Has.t rfl)) rfl ?_
  refine st (OK1.mv (Has.t rfl)) rfl ?_
  refine stF rfl rfl (fun hg => have hg' := BP.t hg; OK1.load (Has.t rfl) (i := 0) rfl ty55 rfl (Ss' := [_, _, _]) rfl) rfl ?_
  refine stF rfl rfl (fun hg => have hg' := BP.t hg; OK1.call (ref11_Few) (.cons (Has.g rfl hg) (.cons (Has.cI 5 rfl) (.cons (Has.cI 2 rfl) .nil)))) rfl ?_
  refine stF rfl rfl (fun hg => have hg' := BP.t hg; OK1.not (Has.g rfl hg)) rfl ?_
  refine st (OK1.pickOr (Has.t rfl) (fun h => Has.g rfl (ng h))) rfl ?_
  refine nl ?_
  refine At.thn (hK3 _ _ ?_); clear hK3
  refine Tri.cv (Cv.wk (.cons (t := 1) (Has.t rfl) (.cons (t := 2) (Has.t rfl) (.cons (t := 13) (Has.t rfl) .nil)))) ?_
  refine Tri.cond (Has.t rfl) (fun hc1 => ?_) (fun hc1 => ?_)
  · have hc1 := BP.t hc1
    skip
    refine Tri.seq fun K4 hK4 => ?_
    refine Tri.region ?_
    refine st (OK1.call (law12_awake) .nil) rfl ?_
    refine st (OK1.as (Has.t rfl)) rfl ?_
    refine nl ?_
    refine At.thn (hK4 _ _ ?_); clear hK4
    refine Tri.ret ?_
    refine At.thr ?_
    refine rt1 (.inl rfl) Try.results11 rfl (.tmp (Has.t' rfl ?_) .nil)
    all_goals (rfl)
  · have hc1 := BP.f hc1
    have HF0 : (r ≤ 5 ∧ c ≤ 5) ∧ fewB xs 100 2 = true := (by simpa [and_assoc] using hc1)
    obtain ⟨⟨hr0, hcc0⟩, HF0⟩ := HF0
    obtain ⟨hl0, hb0⟩ := fewB_bd (N := 100) (K := 2) okp0 HF0 rfl rfl (by decide)
    obtain ⟨b, hbd⟩ : ∃ b : Int, b = if sqB r c xs.length = true then pd r.toNat (rowB r.toNat (mf r.toNat (vals xs))) else 0 := ⟨_, rfl⟩
    obtain ⟨e, he⟩ : ∃ e : Int, e = if sqB r c xs.length = true then 0 else 2 := ⟨_, rfl⟩
    refine Tri.skip ?_
    refine At.thn (hK2 _ _ ?_); clear hK2
    refine Tri.seq fun K5 hK5 => ?_
    refine Tri.region ?_
    refine st (OK1.load (Has.t rfl) (i := 0) rfl ty55 rfl (Ss' := [_, _, _]) rfl) rfl ?_
    refine st (OK1.eq (OK1.call (bareiss_BoundAll hb0 hr0) (.cons (Has.t rfl) .nil)) ((show isTup [isZ _, isI _] = isTup [isZ b, isI e] from by rw [hbd, he]))) rfl ?_
    refine st (OK1.mv (Has.t rfl)) rfl ?_
    refine st (OK1.ext (Has.t rfl) rfl) rfl ?_
    refine st (OK1.ext (Has.t rfl) rfl) rfl ?_
    refine Ops.alloc [isB false, SlM isU []] zero59 (fun _ _ => ⟨rfl, nilM _ _, trivial⟩) rfl fun b2 => ?_
    refine Ops.store (Has.t rfl) (Has.t rfl) (i := 0) rfl ty59 rfl rfl (Ss' := [_, _]) rfl (M' := [(some _, cellM [_, _]), _]) rfl ?_
    refine st (OK1.as (Has.t rfl)) rfl ?_
    refine nl ?_
    refine At.thn (hK5 _ _ ?_); clear hK5
    refine Tri.cv (Cv.wk (.cons (t := 1) (Has.t rfl) (.cons (t := 2) (Has.t rfl) (.cons (t := 3) (Has.t rfl) (.cons (t := 4) (Has.t rfl) .nil))))) ?_
    refine Tri.seq fun K6 hK6 => ?_
    refine Tri.seq fun K7 hK7 => ?_
    refine Tri.region ?_
    refine st (OK1.load (Has.t rfl) (i := 1) rfl ty55 rfl (Ss' := [_, _, _]) rfl) rfl ?_
    refine st (OK1.call (law12_square) (.cons (Has.t rfl) .nil)) rfl ?_
    refine st (OK1.not (Has.t rfl)) rfl ?_
    refine nl ?_
    refine At.thn (hK7 _ _ ?_); clear hK7
    refine Tri.cond (Has.t rfl) (fun hc2 => ?_) (fun hc2 => ?_)
    · have hc2 := BP.t hc2
      rw [hc2] at hbd he
      rw [if_neg (by decide)] at hbd he
      subst hbd
      subst he
      refine Tri.seq fun K8 hK8 => ?_
      refine Tri.region ?_
      refine st (OK1.mv (Has.t rfl)) rfl ?_
      refine st (OK1.eqI (Has.t rfl) (Has.cI 2 rfl)) rfl ?_
      refine st (OK1.mv (Has.t rfl)) rfl ?_
      refine stT rfl rfl (fun hg => have hg' := BP.t hg; OK1.load (Has.t rfl) (i := 0) rfl ty59 rfl (Ss' := [_, _]) rfl) rfl ?_
      refine stT rfl rfl (fun hg => have hg' := BP.t hg; OK1.call (zint_Sign (by rw [val_words]; exact Nat.le_trans (Nat.succ_le_succ (nw_small' (n := 0) (by decide))) (by decide))) (.cons (Has.g rfl hg) .nil)) rfl ?_
      refine stT rfl rfl (fun hg => have hg' := BP.t hg; OK1.eqI (Has.g rfl hg) (Has.cI 0 rfl)) rfl ?_
      refine st (OK1.pickAnd (Has.t rfl) (fun h => Has.g rfl h)) rfl ?_
      refine st (OK1.as (Has.t rfl)) rfl ?_
      refine nl ?_
      refine At.thn (hK8 _ _ ?_); clear hK8
      refine Tri.cv (Cv.wk (.cons (t := 1) (Has.t rfl) (.cons (t := 2) (Has.t rfl) (.cons (t := 3) (Has.t rfl) (.cons (t := 4) (Has.t rfl) .nil))))) ?_
      refine Tri.ret ?_
      refine At.thr ?_
      refine rt1 (.inl rfl) Try.results11 rfl (.tmp (Has.t' rfl ?_) .nil)
      all_goals (exact isB_eq (by rw [zv_nf]; rfl))
    · have hc2 := BP.f hc2
      obtain ⟨R, rfl, rfl, h1, h2⟩ := sqB_true hc2
      rw [hc2] at hbd he
      rw [if_pos rfl] at hbd he
      rw [Int.toNat_natCast] at hbd
      obtain ⟨x, hx⟩ : ∃ x : Int, x = det R (mf R (vals xs)) := ⟨_, rfl⟩
      have hxw := det_nw (mf_bd (C := R) hb0) R
      have hRR : R * (2 + R) ≤ 5 * 7 := Nat.mul_le_mul (by omega) (by omega)
      rw [← hx] at hxw
      have hle : ((x.natAbs : Nat) : Int) ≤ b := by rw [hx, hbd]; exact had_abs fun i _ => rowB_ok R _ i
      have hrw : ∀ i, (List.length (words (rowB R (mf R (vals xs)) i).natAbs)) ≤ 10 := fun i => by
        unfold rowB; rw [Int.natAbs_natCast]
        have h3 := cs_nw (gram R (mf R (vals xs)) i i).natAbs
        have h4 : (List.length (words (gram R (mf R (vals xs)) i i).natAbs)) ≤ 4 + R := sm_nw (K := 4) (fun k => by have h5 := nz_mul (mf R (vals xs) i k) (mf R (vals xs) i k); have h6 := mf_bd (C := R) hb0 i k; omega) R
        omega
      have hbw := pd_nw (f := rowB R (mf R (vals xs))) R (fun q _ => hrw q)
      rw [← hbd] at hbw
      refine Tri.skip ?_
      refine At.thn (hK6 _ _ ?_); clear hK6
      refine Tri.seq fun K9 hK9 => ?_
      refine Tri.region ?_
      refine st (OK1.load (Has.t rfl) (i := 1) rfl ty55 rfl (Ss' := [_, _, _]) rfl) rfl ?_
      refine st (OK1.eq (OK1.call (bareiss_Det hb0 (by decide) h1 h2 (Nat.le_trans (Nat.mul_le_mul_left _ (Nat.pow_le_pow_right (by decide) (show R ≤ 5 by omega))) (by decide))) (.cons (Has.t rfl) .nil)) ((show isTup [isZ _, isI 0] = isTup [isZ x, isI 0] from by rw [hx]))) rfl ?_
      refine st (OK1.mv (Has.t rfl)) rfl ?_
      refine st (OK1.ext (Has.t rfl) rfl) rfl ?_
      refine st (OK1.ext (Has.t rfl) rfl) rfl ?_
      refine Ops.alloc [isB false, SlM isU []] zero59 (fun _ _ => ⟨rfl, nilM _ _, trivial⟩) rfl fun b3 => ?_
      refine Ops.store (Has.t rfl) (Has.t rfl) (i := 0) rfl ty59 rfl rfl (Ss' := [_, _]) rfl (M' := [(some _, cellM [_, _]), _, _]) rfl ?_
      refine st (OK1.as (Has.t rfl)) rfl ?_
      refine nl ?_
      refine At.thn (hK9 _ _ ?_); clear hK9
      refine Tri.cv (Cv.wk (.cons (t := 1) (Has.t rfl) (.cons (t := 2) (Has.t rfl) (.cons (t := 3) (Has.t rfl) (.cons (t := 4) (Has.t rfl) (.cons (t := 5) (Has.t rfl) .nil)))))) ?_
      refine Tri.seq fun K10 hK10 => ?_
      refine Tri.seq fun K11 hK11 => ?_
      refine Tri.dr ?_
      refine DrG.st (i := 0) [] rfl rfl rfl (by kernel_rfl) (OKG.o rfl (OK1.mv (Has.t rfl))) ?_
      refine DrG.st (i := 1) [35] rfl rfl rfl (by kernel_rfl) (OKG.o rfl (OK1.neI (Has.t rfl) (Has.cI 0 rfl))) ?_
      refine DrG.st (i := 2) [36] rfl rfl rfl (by kernel_rfl) (OKG.o rfl (OK1.mv (Has.t rfl))) ?_
      refine DrG.st (i := 3) [37] rfl rfl rfl (by kernel_rfl) (OKG.F rfl rfl rfl (fun hg => have hg' := BP.t hg; OK1.load (Has.t rfl) (i := 0) rfl ty59 rfl (Ss' := [_, _]) rfl)) ?_
      refine DrG.st (i := 4) [37, 38] rfl rfl rfl (by kernel_rfl) (OKG.F rfl rfl rfl (fun hg => have hg' := BP.t hg; OK1.eq (OK1.call (zint_Abs (by rw [val_words]; omega)) (.cons (Has.g rfl hg) .nil)) ((show isZ _ = isZ ((x.natAbs : Nat) : Int) from isZ_eq (by rw [zv_nf]))))) ?_
      refine DrG.st (i := 5) [37] rfl rfl rfl (by kernel_rfl) (OKG.F rfl rfl rfl (fun hg => have hg' := BP.t hg; OK1.load (Has.t rfl) (i := 1) rfl ty59 rfl (Ss' := [_, _]) rfl)) ?_
      refine DrG.fin (n := 6) mixed (by kernel_rfl) (by kernel_rfl) (by kernel_rfl) ?_
      refine Ops.cv (Cv.wk (.cons (t := 1) (Has.t rfl) (.cons (t := 2) (Has.t rfl) (.cons (t := 3) (Has.t rfl) (.cons (t := 37) (Has.t rfl) (.cons (t := 39) (Has.t rfl) (.cons (t := 40) (Has.t rfl) .nil))))))) ?_
      refine stF rfl rfl (fun hg => have hg' := BP.t hg; OK1.eq (OK1.call (zint_Cmp (by rw [val_words, Int.natAbs_natCast]; omega) (by rw [val_words]; omega)) (.cons (Has.g rfl hg) (.cons (Has.g rfl hg) .nil))) ((show isI _ = isI (cmpZ ((x.natAbs : Nat) : Int) b) from isI_eq (by simp only [zv_nf])))) rfl ?_
      refine stF rfl rfl (fun hg => have hg' := BP.t hg; OK1.gtI (Has.g rfl hg) (Has.cI 0 rfl)) rfl ?_
      refine st (OK1.pickOr (Has.t rfl) (fun h => Has.g rfl (ng h))) rfl ?_
      refine nl ?_
      refine At.thn (hK11 _ _ ?_); clear hK11
      refine Tri.cv (Cv.wk (.cons (t := 1) (Has.t rfl) (.cons (t := 2) (Has.t rfl) (.cons (t := 3) (Has.t rfl) (.cons (t := 43) (Has.t rfl) .nil))))) ?_
      refine Tri.cond (Has.t rfl) (fun hc3 => ?_) (fun hc3 => ?_)
      · have hc3 := BP.t hc3
        exfalso
        have h2 := cmpZ_le hle
        rcases hc3 with h | h
        · exact h he
        · exact h2 h
      · have hc3 := BP.f hc3
        skip
        refine Tri.skip ?_
        refine At.thn (hK10 _ _ ?_); clear hK10
        refine Tri.seq fun K12 hK12 => ?_
        refine Tri.seq fun K13 hK13 => ?_
        refine Tri.region ?_
        refine st (OK1.fieldAddr (Has.t rfl) fld55_0 ty3) rfl ?_
        refine st (OK1.load1 (Has.t rfl) (i := 2) rfl ty3 rfl) rfl ?_
        refine st (OK1.neI (Has.t rfl) (Has.cI 1 rfl)) rfl ?_
        refine nl ?_
        refine At.thn (hK13 _ _ ?_); clear hK13
        refine Tri.cond (Has.t rfl) (fun hc4 => ?_) (fun hc4 => ?_)
        · have hc4 := BP.t hc4
          skip
          refine Tri.seq fun K14 hK14 => ?_
          refine Tri.dr ?_
          refine DrG.st (i := 0) [] rfl rfl rfl (by kernel_rfl) (OKG.o rfl (OK1.fieldAddr (Has.t rfl) fld55_0 ty3)) ?_
          refine DrG.st (i := 1) [47] rfl rfl rfl (by kernel_rfl) (OKG.o rfl (OK1.load1 (Has.t rfl) (i := 2) rfl ty3 rfl)) ?_
          refine DrG.st (i := 2) [48] rfl rfl rfl (by kernel_rfl) (OKG.o rfl (OK1.gtI (Has.t rfl) (Has.cI 0 rfl))) ?_
          refine DrG.st (i := 3) [49] rfl rfl rfl (by kernel_rfl) (OKG.o rfl (OK1.mv (Has.t rfl))) ?_
          refine DrG.st (i := 4) [50] rfl rfl rfl (by kernel_rfl) (OKG.F rfl rfl rfl (fun hg => have hg' := BP.t hg; OK1.load (Has.t rfl) (i := 1) rfl ty59 rfl (Ss' := [_, _]) rfl)) ?_
          refine DrG.st (i := 5) [50] rfl rfl rfl (by kernel_rfl) (OKG.F rfl rfl rfl (fun hg => have hg' := BP.t hg; OK1.call (zint_Of) (.cons (Has.cI 1 rfl) .nil))) ?_
          refine DrG.fin (n := 6) mixed (by kernel_rfl) (by kernel_rfl) (by kernel_rfl) ?_
          refine Ops.cv (Cv.wk (.cons (t := 1) (Has.t rfl) (.cons (t := 2) (Has.t rfl) (.cons (t := 3) (Has.t rfl) (.cons (t := 50) (Has.t rfl) (.cons (t := 51) (Has.t rfl) (.cons (t := 52) (Has.t rfl) .nil))))))) ?_
          refine stF rfl rfl (fun hg => have hg' := BP.t hg; OK1.eq (OK1.call (zint_Same (by rw [val_words]; omega) (by rw [val_words]; exact Nat.lt_of_le_of_lt (nw_small' (by decide)) (by decide))) (.cons (Has.g rfl hg) (.cons (Has.g rfl hg) .nil))) ((show isB _ = isB (decide (b = 1)) from isB_eq (by simp only [zv_nf])))) rfl ?_
          refine st (OK1.pickOr (Has.t rfl) (fun h => Has.g rfl (ng h))) rfl ?_
          refine st (OK1.as (Has.t rfl)) rfl ?_
          refine nl ?_
          refine At.thn (hK14 _ _ ?_); clear hK14
          refine Tri.cv (Cv.wk (.cons (t := 1) (Has.t rfl) (.cons (t := 2) (Has.t rfl) (.cons (t := 3) (Has.t rfl) .nil)))) ?_
          refine Tri.ret ?_
          refine At.thr ?_
          refine rt1 (.inl rfl) Try.results11 rfl (.tmp (Has.t' rfl ?_) .nil)
          all_goals (exact isB_eq (by
            by_cases h : 0 < (R : Int)
            · rw [decide_eq_true h]; rfl
            · have h0 : R = 0 := (by omega)
              have hb1 : b = 1 := by rw [hbd, h0]; rfl
              simp [hb1]))
        · have hc4 := BP.f hc4
          have hR1 : R = 1 := (by omega)
          subst hR1
          rw [rowB_one] at hbd
          have hxr := hb0.raw (0 * 1 + 0)
          refine Tri.skip ?_
          refine At.thn (hK12 _ _ ?_); clear hK12
          refine Tri.seq fun K15 hK15 => ?_
          refine Tri.dr ?_
          refine DrG.st (i := 0) [] rfl rfl rfl (by kernel_rfl) (OKG.o rfl (OK1.load (Has.t rfl) (i := 1) rfl ty59 rfl (Ss' := [_, _]) rfl)) ?_
          refine DrG.st (i := 1) [] rfl rfl rfl (by kernel_rfl) (OKG.o rfl (OK1.load (Has.t rfl) (i := 2) rfl ty55 rfl (Ss' := [_, _, _]) rfl)) ?_
          refine DrG.st (i := 2) [56] rfl rfl rfl (by kernel_rfl) (OKG.o rfl (OK1.call (ref11_At (C := 1) (i := 0) (k := 0) (by omega) (by omega)) (.cons (Has.t rfl) (.cons (Has.cI 0 rfl) (.cons (Has.cI 0 rfl) .nil))))) ?_
          refine DrG.st (i := 3) [57] rfl rfl rfl (by kernel_rfl) (OKG.o rfl (OK1.eq (OK1.call (zint_Abs (by omega)) (.cons (Has.t rfl) .nil)) ((show isZ _ = isZ b from isZ_eq (by rw [hbd, ← cf_vals]; rfl))))) ?_
          refine DrG.fin (n := 4) mixed (by kernel_rfl) (by kernel_rfl) (by kernel_rfl) ?_
          refine Ops.cv (Cv.wk (.cons (t := 2) (Has.t rfl) (.cons (t := 55) (Has.t rfl) (.cons (t := 58) (Has.t rfl) .nil)))) ?_
          refine st (OK1.eq (OK1.call (zint_Same (by rw [val_words]; omega) (by rw [val_words]; omega)) (.cons (Has.t rfl) (.cons (Has.t rfl) .nil))) ((show isB _ = isB true from isB_eq (decide_eq_true rfl)))) rfl ?_
          refine st (OK1.as (Has.t rfl)) rfl ?_
          refine nl ?_
          refine At.thn (hK15 _ _ ?_); clear hK15
          refine Tri.ret ?_
          refine rt1 (.inl rfl) Try.results11 rfl (.tmp (Has.t' rfl ?_) .nil)
          all_goals (rfl)
end Go.Proofs.Ytfoclelageohiaa
/- Slices of whole numbers that a law is handed. -/
namespace Go.En
open Go.RowKit Go.ChangeShapes Go.WideShapes Go.ChangeAt
set_option linter.unusedVariables false
theorem pair_get {α β : Type} (g h : α → β) : ∀ (l : List α) (j : Nat), (l.flatMap fun a => [g a, h a])[j]? = (l[j / 2]?).map (fun a => if j % 2 = 0 then g a else h a)
  | [], j => by simp
  | a :: l, 0 => by simp
  | a :: l, 1 => by simp
  | a :: l, j + 2 => by
    have := pair_get g h l j
    rw [show (j + 2) / 2 = j / 2 + 1 by omega, show (j + 2) % 2 = j % 2 by omega]
    simpa using this
section
variable {H : Type} {enc : TypeId × Value → H} {P : Program}
end
end Go.En
/- Matrices of whole numbers that a law is handed. -/
namespace Go.En
open Go.RowKit Go.ChangeShapes Go.WideShapes Go.ChangeAt
set_option linter.unusedVariables false
section
variable {H : Type} {enc : TypeId × Value → H} {P : Program}
theorem rd_Zs {W : World} {T e tb ts T' : TypeId} {fuel : Nat} {cs : List Value} {x : DataW H × List MemPlace} (hT : P.underlying T = some (.slice e)) (hfs : fsB P e = some [(tb, 0), (ts, 1)]) (hub : P.underlying tb = some .bool) (hu : P.underlying ts = some (.slice T')) (hu' : P.underlying T' = some (.int .u64)) (hc : P.cellsOf T' = 1) (hcb : P.cellsOf tb = 1) (hcs : P.cellsOf ts = 1) (hce : P.cellsOf e = 2)
    (hf : DataW.trod enc P W 0 (fun _ => true) true fuel T cs = some x) (hps : ∀ y ∈ x.2, y.block < W.heap.size) : ∃ (v : Value) (xs : List (Bool × List Nat)), cs = [v] ∧ (isZs xs).h W (fun b => b < W.heap.size) v := by
  obtain ⟨d, ps⟩ := x
  obtain ⟨fs, hue, hsz, hget⟩ := fsB_spec hfs
  obtain ⟨f0, g0, rfl, e0⟩ := hget 0 tb 0 rfl
  obtain ⟨f1, g1, rfl, e1⟩ := hget 1 ts 1 rfl
  have hfs2 : fs = #[f0, f1] := by
    apply Array.ext'
    have hl : fs.toList.length = 2 := by simpa using hsz
    match hq : fs.toList, hl with
    | [p, q], _ =>
      have a0 : fs.toList[0]? = some f0 := by simpa using g0
      have a1 : fs.toList[1]? = some f1 := by simpa using g1
      rw [hq] at a0 a1
      simp at a0 a1
      rw [a0, a1]
  subst hfs2
  rcases Deep.open_slice_pairs hT hue hce e0 e1 hcb hcs hf with ⟨h1, _⟩ | ⟨a, len, cap, m, n, V0, V1, D0, D1, P0, P1, h1, _, hlc, hcm, hm, hx, hel⟩
  · exact ⟨_, [], h1, nilK⟩
  · simp only [if_true] at hm
    subst m
    have hps' : ∀ i, i < cap → ∀ y ∈ P1 i, y.block < W.heap.size := fun i hi y hy => hps y (by
      have := (Prod.mk.inj hx).2
      rw [this]
      exact List.mem_append_right _ (List.mem_flatMap.2 ⟨i, List.mem_range.2 hi, List.mem_append_right _ hy⟩))
    obtain ⟨l, hl, hgl⟩ := list_of_get (p := fun i (x : Bool × List Nat) => V0 i = .bool x.1 ∧ (isWords x.2).h W (fun b => b < W.heap.size) (V1 i)) len (fun i hi => by
      obtain ⟨_, _, q0, q1⟩ := hel i (by omega)
      obtain ⟨b, hb, _⟩ := DataW.trod_bool hub q0
      obtain ⟨v, ws, hv1, hw⟩ := rd_row hu hu' hc word_of q1 (hps' i (by omega))
      obtain rfl : V1 i = v := by simpa using hv1
      exact ⟨(b, ws), by simpa using hb, hw⟩)
    refine ⟨_, l, h1, some a, cap, by rw [hl], by rw [hl]; exact hlc, hcm, flat_len zc_len l, ?_⟩
    rcases Nat.eq_zero_or_pos len with h0 | h0
    · exact .inl (by omega)
    · have hc0 := (hel 0 (by omega)).1
      have hs : a.spot = none := by
        cases hsp : a.spot with
        | none => rfl
        | some s =>
          simp only [Addr.add, Nat.zero_mul, if_true] at hc0
          unfold World.cell? at hc0
          rw [hsp] at hc0
          split at hc0 <;> simp at hc0
      obtain ⟨b, off, sp⟩ := a
      simp only at hs
      subst hs
      right
      refine ⟨b, off, rfl, ?_, (List.range len).flatMap (fun i => [V0 i, V1 i]), ?_, fun j u hj => ?_⟩
      · have : MemPlace.cell b (off + 0) ∈ ps := by
          have := (Prod.mk.inj hx).2
          rw [this]
          exact List.mem_append_left _ (List.mem_map.2 ⟨0, by simp; omega, rfl⟩)
        exact hps _ this
      · have hlen2 : ((List.range len).flatMap fun i => [V0 i, V1 i]).length = len * 2 := by
          have := flat_len (fk := fun (i : Nat) => [isB true, isB true]) (k := 2) (fun _ => rfl) (List.range len)
          rw [List.length_flatMap] at this ⊢
          simpa using this
        refine all2_of_get (by rw [flat_len zc_len, hlen2, hl]) (fun j S v hS hv => ?_)
        have hz := pair_get (fun p : Bool × List Nat => isB p.1) (fun p => isWords p.2) l j
        rw [show (l.flatMap fun a => [isB a.1, isWords a.2]) = l.flatMap zc from rfl, hS] at hz
        have hw := pair_get V0 V1 (List.range len) j
        rw [hv] at hw
        have hj : j / 2 < l.length := by
          rcases Nat.lt_or_ge (j / 2) l.length with h | h
          · exact h
          · rw [List.getElem?_eq_none h] at hz; cases hz
        rw [List.getElem?_eq_getElem hj] at hz
        rw [List.getElem?_range (by omega)] at hw
        simp only [Option.map_some, Option.some.injEq] at hz hw
        obtain ⟨k1, k2⟩ := hgl (j / 2) hj
        subst hz; subst hw
        by_cases hp : j % 2 = 0
        · rw [if_pos hp, if_pos hp, k1]; rfl
        · rw [if_neg hp, if_neg hp]; exact k2
      · have hw := pair_get V0 V1 (List.range len) j
        rw [hj] at hw
        have hjl : j / 2 < len := by
          rcases Nat.lt_or_ge (j / 2) len with h | h
          · exact h
          · rw [List.getElem?_eq_none (by simpa using h)] at hw; cases hw
        rw [List.getElem?_range hjl] at hw
        simp only [Option.map_some, Option.some.injEq] at hw
        obtain ⟨q0, q1, _, _⟩ := hel (j / 2) (by omega)
        rw [add_mk] at q0
        rw [add_mk] at q1
        by_cases hp : j % 2 = 0
        · rw [if_pos hp] at hw; subst hw
          rw [show off + j = off + j / 2 * 2 by omega]; exact q0
        · rw [if_neg hp] at hw; subst hw
          rw [show off + j = off + (j / 2 * 2 + 1) by omega]; exact q1
/-- two sides and numbers -/
theorem open_M {W : World} {base : Nat} {T ti tm e tb ts T' : TypeId} {v : Value} {d : DataW H} {ps : List MemPlace} (hfM : fsB P T = some [(ti, 0), (ti, 1), (tm, 2)]) (hui : P.underlying ti = some (.int .i64)) (hT : P.underlying tm = some (.slice e)) (hfs : fsB P e = some [(tb, 0), (ts, 1)]) (hub : P.underlying tb = some .bool) (hu : P.underlying ts = some (.slice T')) (hu' : P.underlying T' = some (.int .u64)) (hc : P.cellsOf T' = 1) (hcb : P.cellsOf tb = 1) (hcs : P.cellsOf ts = 1) (hce : P.cellsOf e = 2)
    (hci : P.cellsOf ti = 1) (hcm : P.cellsOf tm = 1) (hcT : P.cellsOf T = 3) (hv : Value.okWide P W .any base T v) (h : DataW.Trod enc P W 0 (fun _ => true) true T v d ps) (hps : ∀ x ∈ ps, x.block < W.heap.size) : ∃ x : Int × Int × List (Bool × List Nat), (isM x.1 x.2.1 x.2.2).h W (fun b => b < W.heap.size) v := by
  obtain ⟨fs, huT, hsz, hget⟩ := fsB_spec hfM
  have hv' := hv
  simp only [Value.okWide, huT] at hv'
  obtain ⟨cs, rfl, _, _⟩ := hv'
  obtain ⟨fuel, hf⟩ := h
  obtain ⟨xs, m, _, hx, hl, hxl, hfe⟩ := DataW.trod_struct huT hf
  simp [Value.cells] at hl hx
  obtain ⟨f0, g0, rfl, e0⟩ := hget 0 ti 0 rfl
  obtain ⟨f1, g1, k1, e1⟩ := hget 1 _ 1 rfl
  obtain ⟨f2, g2, rfl, e2⟩ := hget 2 tm 2 rfl
  have h0 := hfe 0 f0 g0
  have h1 := hfe 1 f1 g1
  have h2 := hfe 2 f2 g2
  rw [List.getElem?_eq_getElem (by rw [hxl, hsz]; simp)] at h0 h1 h2
  rw [e0, hci] at h0
  rw [e1, k1, hci] at h1
  rw [e2, hcm] at h2
  obtain ⟨r, hr, hr1, hr2⟩ := rd_I hui h0
  obtain ⟨c, hc1, hc2, hc3⟩ := rd_I hui h1
  obtain ⟨u, ws, hu1, hw⟩ := rd_Zs hT hfs hub hu hu' hc hcb hcs hce h2 (fun y hy => hps y (by
    rw [hx.2]
    exact List.mem_flatMap.2 ⟨_, List.getElem_mem _, hy⟩))
  refine ⟨(r, c, ws), cs.toList, by simp, ?_⟩
  have hcs2 : cs.toList = [.int .i64 r, .int .i64 c, u] := by
    have hlen : cs.toList.length = 3 := by rw [← hcT]; simpa using hl
    match hq : cs.toList, hlen with
    | [p, q, t], _ =>
      have a1 : [p] = [Value.int .i64 r] := by have := hr; simpa [Value.cells, hq] using this
      have a2 : [q] = [Value.int .i64 c] := by have := hc1; simpa [Value.cells, hq] using this
      have a3 : [t] = [u] := by have := hu1; simpa [Value.cells, hq] using this
      rw [List.cons.inj a1 |>.1, List.cons.inj a2 |>.1, List.cons.inj a3 |>.1]
  rw [hcs2]
  exact ⟨⟨rfl, hr1, hr2⟩, ⟨rfl, hc2, hc3⟩, hw, trivial⟩
end
end Go.En
/- A law of layer 12, as it is stated. -/
namespace Go.Proofs.Ytfoclelageohiaa
open Go.En Go.RowKit
set_option linter.unusedVariables false
set_option maxRecDepth 10000
open Go.ChangeShapes
open Go.WideShapes
open Go.ChangeAt
open Go.Nt
open Go.Pz
open Go.Mz
theorem opens_BareissBound : Opens Try.prog Try.f11 11 := by
  intro H enc W base args ds ps hval hA hlt
  rw [Try.params11] at hA hval
  obtain ⟨v0, vs0, d0, ds0, p0, q0, hargs, rfl, rfl, h0, r0⟩ := trodAll_cons hA
  obtain ⟨rfl, rfl, rfl⟩ := trodAll_nil r0
  obtain rfl : args = #[v0] := by cases args; simp_all
  obtain ⟨x0, o0⟩ := open_M fs55 un3 un53 fs59 un4 un57 un27 (by kernel_rfl) (by kernel_rfl) (by kernel_rfl) (by kernel_rfl) (by kernel_rfl) (by kernel_rfl) (by kernel_rfl) (hval 0 55 v0 rfl rfl) h0 (fun x hx => hlt x (by simp [hx]))
  refine ⟨_, ?_, c_BareissBound x0.1 x0.2.1 x0.2.2⟩
  exact ⟨o0, trivial⟩
theorem bareissBound_said : Rows.BareissBoundSaid :=
  OpenClaim.holds_of_wide 11 Try.f11 rfl rfl rfl rfl rfl rfl rfl ⟨rfl, rfl, rfl, rfl, rfl⟩ rfl rfl rfl rfl rfl (by kernel_rfl) Try.func11 (by kernel_rfl)
    (of_decide_eq_true (by kernel_rfl)) (by unfold Func.isWrapper; first | (rw [if_pos (by decide +kernel)]; kernel_rfl) | (rw [if_neg (by decide +kernel)]; exact ⟨rfl, rfl⟩))
    (fun os started H enc _ => lift_law (C := Try.checked) (s := Rows.bareissBoundSpec) (by kernel_rfl) started (by kernel_rfl) Try.func11
      (ChangeSpec.witness6 (enc := enc) (C := Try.checked) false ⟨#[], #[.agg #[.int .i64 0, .int .i64 0, .slice none 0 0]], []⟩ 8 (by kernel_rfl) (by kernel_rfl) (by kernel_rfl) (by kernel_rfl))
      (by kernel_rfl) (by kernel_rfl) rfl rfl un4 (fun ds h => by match ds, h with | [d0], _ => rfl) opens_BareissBound)
#print axioms bareissBound_said
end Go.Proofs.Ytfoclelageohiaa
