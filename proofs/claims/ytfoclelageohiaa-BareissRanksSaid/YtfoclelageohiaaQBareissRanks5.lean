/- The law BareissRanks, as it is stated, of the given program, for every input; no condition. -/
import Derived.Test.YtfoclelageohiaaQBareissRanks4
import Derived.Deep.SlicePairs
import Derived.Test.YtfoclelageohiaaRows
/- Contracts: the pivot's row is taken out of those below. -/
namespace Go.Proofs.Ytfoclelageohiaa
open Go.En Go.RowKit
set_option linter.unusedVariables false
set_option maxRecDepth 10000
open Go.Nt
open Go.Pz
open Go.Mz
set_option maxHeartbeats 4000000 in
theorem bareiss_clear {bw C : Nat} {gp : Gr Int} {gt : Gr Row} {rs : List Row} {ps : List Nat} {last : Int} {odd : Bool} {K : Nat} (hrow : ∀ r ∈ rs, r.2.length = C) (hb : ∀ r ∈ rs, Bd r.2 K) (hC : C ≤ 64) (hR : rs.length ≤ 64) (hpl : ps.length ≤ 64) {col : Nat} {r0 : Row} (hcol : col < C) (hK : K ≤ 100000000) (hlast : (List.length (words last.natAbs)) ≤ K) (h0 : rs[ps.length]? = some r0) : CtrX Try.prog 148 [isPtr bw 0, isI (col : Int)] (wkM bw gp gt rs C ps last odd) (fun S M => ∃ gp' gt' rs', S = isTup [] ∧ M = wkM bw gp' gt' rs' C (ps ++ [col]) (cf r0.2 col) odd ∧ ClrI rs ps.length col last r0.2 rs.length rs') := by
  refine CtrX.intro Try.func148 rfl (by kernel_rfl) Try.ntmps148 rfl fun w0 F0 => ?_
  refine Tri.cv (Cv.wk (.cons (t := 0) (Has.t rfl) (.cons (t := 1) (Has.t rfl) .nil))) ?_
  refine Tri.fact (Has.rngI (Has.t (t := 1) rfl)) fun lt1 => ?_
  have hpv := pv_len ps
  have hr0C := hrow r0 (List.mem_of_getElem? h0)
  have hr0B := hb r0 (List.mem_of_getElem? h0)
  have hr0L : (r0.2.map nz).length = C := by rw [List.length_map, hr0C]
  have htl : ps.length < rs.length := by rcases Nat.lt_or_ge ps.length rs.length with h | h; exact h; rw [List.getElem?_eq_none h] at h0; cases h0
  refine Tri.seq fun K1 hK1 => ?_
  refine Tri.region ?_
  refine st (OK1.mv (Has.t rfl)) rfl ?_
  refine st (OK1.nilc (Has.t rfl)) rfl ?_
  refine st (OK1.fieldAddr (Has.t rfl) fld111_2 ty32) rfl ?_
  refine st (OK1.load1 (Has.t rfl) (i := 0) rfl ty32 rfl) rfl ?_
  refine st (OK1.eq (OK1.len sl32 (Has.t rfl)) ((show isI _ = isI (ps.length : Int) from isI_eq (by omega)))) rfl ?_
  refine st (OK1.as (Has.t rfl)) rfl ?_
  refine nl ?_
  refine At.thn (hK1 _ _ ?_); clear hK1
  refine Tri.cv (Cv.wk (.cons (t := 0) (Has.t rfl) (.cons (t := 1) (Has.t rfl) (.cons (t := 4) (Has.t rfl) .nil)))) ?_
  refine Tri.seq fun K2 hK2 => ?_
  refine Tri.region ?_
  refine st (OK1.mv (Has.t rfl)) rfl ?_
  refine st (OK1.nilc (Has.t rfl)) rfl ?_
  refine st (OK1.fieldAddr (Has.t rfl) fld111_0 ty109) rfl ?_
  refine st (OK1.load1 (Has.t rfl) (i := 0) rfl ty109 rfl) rfl ?_
  refine st (OK1.mv (Has.t rfl)) rfl ?_
  refine st (OK1.ixGr sl109 ty53 (Has.t rfl) (Has.t rfl) ⟨by omega, by omega⟩) rfl ?_
  refine st (OK1.loadGM (Has.t rfl) (i := 2) rfl ty53 h0) rfl ?_
  refine st (OK1.as (Has.t rfl)) rfl ?_
  refine nl ?_
  refine At.thn (hK2 _ _ ?_); clear hK2
  refine Tri.cv (Cv.wk (.cons (t := 0) (Has.t rfl) (.cons (t := 1) (Has.t rfl) (.cons (t := 4) (Has.t rfl) (.cons (t := 5) (Has.t rfl) .nil))))) ?_
  refine Tri.seq fun K3 hK3 => ?_
  refine Tri.seq fun K4 hK4 => ?_
  refine Tri.region ?_
  refine st (OK1.mv (Has.t rfl)) rfl ?_
  refine st (OK1.addI (Has.t rfl) (Has.cI 1 rfl) (by first | omega | assumption) (by first | omega | assumption)) rfl ?_
  refine st (OK1.as (Has.t rfl)) rfl ?_
  refine nl ?_
  refine At.thn (hK4 _ _ ?_); clear hK4
  refine Tri.block ?_
  refine Tri.loopF [0, 1, 5] (fun (z : { z : Nat × List Row // ps.length < z.1 ∧ (z.1 ≤ rs.length) ∧ ClrI rs ps.length col last r0.2 z.1 z.2 }) => match z with | ⟨(i, rs'), hI⟩ => [(6, isI (i : Int))]) (fun M => fun (z : { z : Nat × List Row // ps.length < z.1 ∧ (z.1 ≤ rs.length) ∧ ClrI rs ps.length col last r0.2 z.1 z.2 }) => match z with | ⟨(i, rs'), hI⟩ => (wk0 bw gp gt rs.length C ps last odd :: grM isI gp (pv ps) :: grM rowV gt rs' :: rs'.map rowM)) (fun (z : { z : Nat × List Row // ps.length < z.1 ∧ (z.1 ≤ rs.length) ∧ ClrI rs ps.length col last r0.2 z.1 z.2 }) => match z with | ⟨(i, rs'), hI⟩ => rs.length - i) (⟨(ps.length + 1, rs), Nat.lt_succ_self _, htl, ClrI.start _ _ _ _ _⟩) (Cv.mem (.cons (t := 6) (Has.t' rfl ?_) (.cons (t := 0) (Has.t rfl) (.cons (t := 1) (Has.t rfl) (.cons (t := 5) (Has.t rfl) .nil)))) ?_) ?_
  · exact isI_eq (by omega)
  · rfl
  rintro ⟨⟨i, rs'⟩, hI⟩ K5 hK5
  refine Tri.cv (Cv.wk (.cons (t := 6) (Has.t rfl) (.cons (t := 0) (Has.t rfl) (.cons (t := 1) (Has.t rfl) (.cons (t := 5) (Has.t rfl) .nil))))) ?_
  refine Tri.memEq (M' := (wk0 bw gp gt rs.length C ps last odd :: grM isI gp (pv ps) :: grM rowV gt rs' :: rs'.map rowM)) rfl ?_
  simp only [] at hI
  obtain ⟨hti, hin, hcl⟩ := hI
  have hlen := hcl.len
  have h0' := (hcl.at (.inl (Nat.le_refl _))).trans h0
  refine Tri.seq fun K6 hK6 => ?_
  refine Tri.seq fun K7 hK7 => ?_
  refine Tri.region ?_
  refine st (OK1.mv (Has.t rfl)) rfl ?_
  refine st (OK1.mv (Has.t rfl)) rfl ?_
  refine st (OK1.nilc (Has.t rfl)) rfl ?_
  refine st (OK1.fieldAddr (Has.t rfl) fld111_0 ty109) rfl ?_
  refine st (OK1.load1 (Has.t rfl) (i := 0) rfl ty109 rfl) rfl ?_
  refine st (OK1.len sl109 (Has.t rfl)) rfl ?_
  refine st (OK1.ltI (Has.t rfl) (Has.t rfl)) rfl ?_
  refine nl ?_
  refine At.thn (hK7 _ _ ?_); clear hK7
  refine Tri.cond (Has.t rfl) (fun hc1 => ?_) (fun hc1 => ?_)
  · have hc1 := BP.t hc1
    obtain ⟨r, hr⟩ : ∃ r, rs[i]? = some r := ⟨_, List.getElem?_eq_getElem (by omega)⟩
    have hrC := hrow r (List.mem_of_getElem? hr)
    have hrB := hb r (List.mem_of_getElem? hr)
    have hrL : (r.2.map nz).length = C := by rw [List.length_map, hrC]
    have hri := (hcl.at (.inr (Nat.le_refl _))).trans hr
    refine Tri.skip ?_
    refine At.thn (hK6 _ _ ?_); clear hK6
    refine Tri.seq fun K8 hK8 => ?_
    refine Tri.block ?_
    refine Tri.seq fun K9 hK9 => ?_
    refine Tri.region ?_
    refine st (OK1.mv (Has.t rfl)) rfl ?_
    refine st (OK1.nilc (Has.t rfl)) rfl ?_
    refine st (OK1.fieldAddr (Has.t rfl) fld111_0 ty109) rfl ?_
    refine st (OK1.load1 (Has.t rfl) (i := 0) rfl ty109 rfl) rfl ?_
    refine st (OK1.mv (Has.t rfl)) rfl ?_
    refine st (OK1.ixGr sl109 ty53 (Has.t rfl) (Has.t rfl) ⟨by omega, by omega⟩) rfl ?_
    refine st (OK1.loadGM (Has.t rfl) (i := 2) rfl ty53 hri) rfl ?_
    refine st (OK1.as (Has.t rfl)) rfl ?_
    refine nl ?_
    refine At.thn (hK9 _ _ ?_); clear hK9
    refine Tri.seq fun K10 hK10 => ?_
    refine Tri.region ?_
    refine st (OK1.mv (Has.t rfl)) rfl ?_
    refine st (OK1.mv (Has.t rfl)) rfl ?_
    refine st (OK1.ixGr sl53 ty59 (Has.t rfl) (Has.t rfl) ⟨by omega, by omega⟩) rfl ?_
    refine st (OK1.loadGK zc_len (Has.t rfl) (i := 3 + i) (wkAt (pre := [_, _, _]) hri) ty59 (getZ (i := col) (by omega))) rfl ?_
    refine Ops.alloc [isB false, SlM isU []] zero59 (fun _ _ => ⟨rfl, nilM _ _, trivial⟩) rfl fun b1 => ?_
    refine Ops.store (Has.t rfl) (Has.t rfl) (i := 0) rfl ty59 rfl rfl (Ss' := [_, _]) rfl (M' := ((some _, cellM [_, _]) :: _ :: _ :: _ :: _)) rfl ?_
    refine nl ?_
    refine At.thn (hK10 _ _ ?_); clear hK10
    refine Tri.seq fun K11 hK11 => ?_
    refine Tri.region ?_
    refine st (OK1.mv (Has.t rfl)) rfl ?_
    refine st (OK1.len sl53 (Has.t rfl)) rfl ?_
    refine st (OK1.mv (Has.cI 0 rfl)) rfl ?_
    refine nl ?_
    refine At.thn (hK11 _ _ ?_); clear hK11
    refine Tri.block ?_
    refine Tri.loopF [0, 1, 5, 6, 25, 26, 27, 28, 29, 30, 31, 34, 35, 36, 37, 38, 39, 40, 7, 41, 42, 43, 44, 8, 45, 46] (fun (z : { k : Nat // k ≤ C }) => match z with | ⟨k, hk⟩ => [(47, isI (k : Int))]) (fun M => fun (z : { k : Nat // k ≤ C }) => match z with | ⟨k, hk⟩ => (zM b1 (cf r.2 col) :: wk0 bw gp gt rs.length C ps last odd :: grM isI gp (pv ps) :: grM rowV gt rs' :: (rs'.set i (r.1, mixR r0.2 r.2 col last k)).map rowM)) (fun (z : { k : Nat // k ≤ C }) => match z with | ⟨k, hk⟩ => C - k) (⟨0, Nat.zero_le _⟩) (Cv.mem (.cons (t := 47) (Has.t' rfl ?_) (.cons (t := 0) (Has.t rfl) (.cons (t := 1) (Has.t rfl) (.cons (t := 5) (Has.t rfl) (.cons (t := 6) (Has.t rfl) (.cons (t := 25) (Has.t rfl) (.cons (t := 26) (Has.t rfl) (.cons (t := 27) (Has.t rfl) (.cons (t := 28) (Has.t rfl) (.cons (t := 29) (Has.t rfl) (.cons (t := 30) (Has.t rfl) (.cons (t := 31) (Has.t rfl) (.cons (t := 34) (Has.t rfl) (.cons (t := 35) (Has.t rfl) (.cons (t := 36) (Has.t rfl) (.cons (t := 37) (Has.t rfl) (.cons (t := 38) (Has.t rfl) (.cons (t := 39) (Has.t rfl) (.cons (t := 40) (Has.t rfl) (.cons (t := 7) (Has.t rfl) (.cons (t := 41) (Has.t rfl) (.cons (t := 42) (Has.t rfl) (.cons (t := 43) (Has.t rfl) (.cons (t := 44) (Has.t rfl) (.cons (t := 8) (Has.t rfl) (.cons (t := 45) (Has.t rfl) (.cons (t := 46) (Has.t rfl) .nil))))))))))))))))))))))))))) ?_) ?_
    · rfl
    · exact tail4 (mix_start hri)
    rintro ⟨k, hk⟩ K12 hK12
    refine Tri.cv (Cv.wk (.cons (t := 47) (Has.t rfl) (.cons (t := 0) (Has.t rfl) (.cons (t := 1) (Has.t rfl) (.cons (t := 5) (Has.t rfl) (.cons (t := 6) (Has.t rfl) (.cons (t := 25) (Has.t rfl) (.cons (t := 26) (Has.t rfl) (.cons (t := 27) (Has.t rfl) (.cons (t := 28) (Has.t rfl) (.cons (t := 29) (Has.t rfl) (.cons (t := 30) (Has.t rfl) (.cons (t := 31) (Has.t rfl) (.cons (t := 34) (Has.t rfl) (.cons (t := 35) (Has.t rfl) (.cons (t := 36) (Has.t rfl) (.cons (t := 37) (Has.t rfl) (.cons (t := 38) (Has.t rfl) (.cons (t := 39) (Has.t rfl) (.cons (t := 40) (Has.t rfl) (.cons (t := 7) (Has.t rfl) (.cons (t := 41) (Has.t rfl) (.cons (t := 42) (Has.t rfl) (.cons (t := 43) (Has.t rfl) (.cons (t := 44) (Has.t rfl) (.cons (t := 8) (Has.t rfl) (.cons (t := 45) (Has.t rfl) (.cons (t := 46) (Has.t rfl) .nil)))))))))))))))))))))))))))) ?_
    refine Tri.memEq (M' := (zM b1 (cf r.2 col) :: wk0 bw gp gt rs.length C ps last odd :: grM isI gp (pv ps) :: grM rowV gt rs' :: (rs'.set i (r.1, mixR r0.2 r.2 col last k)).map rowM)) rfl ?_
    have hset : (rs'.set i (r.1, mixR r0.2 r.2 col last k))[i]? = some (r.1, mixR r0.2 r.2 col last k) := List.getElem?_set_self (by omega)
    have hset0 : (rs'.set i (r.1, mixR r0.2 r.2 col last k))[ps.length]? = some r0 := (List.getElem?_set_ne (by omega)).trans h0'
    refine Tri.seq fun K13 hK13 => ?_
    refine Tri.region ?_
    refine st (OK1.ltI (Has.t rfl) (Has.t rfl)) rfl ?_
    refine nl ?_
    refine At.thn (hK13 _ _ ?_); clear hK13
    refine Tri.seq fun K14 hK14 => ?_
    refine Tri.cond (Has.t rfl) (fun hc2 => ?_) (fun hc2 => ?_)
    · have hc2 := BP.t hc2
      refine Tri.skip ?_
      refine At.thn (hK14 _ _ ?_); clear hK14
      refine Tri.seq fun K15 hK15 => ?_
      refine Tri.block ?_
      refine Tri.seq fun K16 hK16 => ?_
      refine Tri.region ?_
      refine st (OK1.mv (Has.t rfl)) rfl ?_
      refine st (OK1.as (Has.t rfl)) rfl ?_
      refine nl ?_
      refine At.thn (hK16 _ _ ?_); clear hK16
      refine Tri.seq fun K17 hK17 => ?_
      refine Tri.drhS (.cons_cons _ (.cons_cons _ (.cons_cons _ (.cons_cons _ (List.Sublist.refl _))))) ?_
      refine DrH.st (i := 0) [] rfl rfl rfl (by kernel_rfl) (OKG.o rfl (OK1.mv (Has.t rfl))) ?_
      refine DrH.st (i := 1) [] rfl rfl rfl (by kernel_rfl) (OKG.o rfl (OK1.mv (Has.t rfl))) ?_
      refine DrH.st (i := 2) [50, 51] rfl rfl rfl (by kernel_rfl) (OKG.o rfl (OK1.ixGr sl53 ty59 (Has.t rfl) (Has.t rfl) ⟨by omega, by omega⟩)) ?_
      refine DrH.st (i := 3) [52] rfl rfl rfl (by kernel_rfl) (OKG.o rfl (OK1.loadGK zc_len (Has.t rfl) (i := 4 + i) (wkAt (pre := [_, _, _, _]) (r := (r.1, mixR r0.2 r.2 col last k)) hset) ty59 (show ((mixR r0.2 r.2 col last k).map nz)[k]? = some (nz (cf r.2 k)) from by rw [List.getElem?_map, mixR_at _ _ _ _ (by omega)]; rfl))) ?_
      refine DrH.st (i := 4) [] rfl rfl rfl (by kernel_rfl) (OKG.o rfl (OK1.mv (Has.t rfl))) ?_
      refine DrH.st (i := 5) [] rfl rfl rfl (by kernel_rfl) (OKG.o rfl (OK1.mv (Has.t rfl))) ?_
      refine DrH.st (i := 6) [54, 55] rfl rfl rfl (by kernel_rfl) (OKG.o rfl (OK1.ixGr sl53 ty59 (Has.t rfl) (Has.t rfl) ⟨by omega, by omega⟩)) ?_
      refine DrH.st (i := 7) [56] rfl rfl rfl (by kernel_rfl) (OKG.o rfl (OK1.loadGK zc_len (Has.t rfl) (i := 4 + ps.length) (wkAt (pre := [_, _, _, _]) hset0) ty59 (getZ (i := col) (by omega)))) ?_
      refine DrH.st (i := 8) [53, 57] rfl rfl rfl (by kernel_rfl) (OKG.o rfl (OK1.eq (OK1.call (zint_Mul (by rw [val_words]; have := hrB k; omega) (by rw [val_words]; have := hr0B col; omega)) (.cons (Has.t rfl) (.cons (Has.t rfl) .nil))) ((show isZ _ = isZ (cf r.2 k * cf r0.2 col) from isZ_eq (by (try simp only [zv_nz]); (try simp only [zv_nf])))))) ?_
      refine DrH.st (i := 9) [] rfl rfl rfl (by kernel_rfl) (OKG.o rfl (OK1.load (Has.t rfl) (i := 0) rfl ty59 rfl (Ss' := [_, _]) rfl)) ?_
      refine DrH.st (i := 10) [] rfl rfl rfl (by kernel_rfl) (OKG.o rfl (OK1.mv (Has.t rfl))) ?_
      refine DrH.st (i := 11) [] rfl rfl rfl (by kernel_rfl) (OKG.o rfl (OK1.mv (Has.t rfl))) ?_
      refine DrH.st (i := 12) [60, 61] rfl rfl rfl (by kernel_rfl) (OKG.o rfl (OK1.ixGr sl53 ty59 (Has.t rfl) (Has.t rfl) ⟨by omega, by omega⟩)) ?_
      refine DrH.st (i := 13) [62] rfl rfl rfl (by kernel_rfl) (OKG.o rfl (OK1.loadGK zc_len (Has.t rfl) (i := 4 + ps.length) (wkAt (pre := [_, _, _, _]) hset0) ty59 (getZ (i := k) (by omega)))) ?_
      refine DrH.st (i := 14) [59, 63] rfl rfl rfl (by kernel_rfl) (OKG.o rfl (OK1.eq (OK1.call (zint_Mul (by rw [val_words]; have := hrB col; omega) (by rw [val_words]; have := hr0B k; omega)) (.cons (Has.t rfl) (.cons (Has.t rfl) .nil))) ((show isZ _ = isZ (cf r.2 col * cf r0.2 k) from isZ_eq (by rw [zv_nf, zv_nz]))))) ?_
      refine DrH.st (i := 15) [58, 64] rfl rfl rfl (by kernel_rfl) (OKG.o rfl (OK1.eq (OK1.call (zint_Sub (by rw [val_words]; have := nz_mul (cf r.2 k) (cf r0.2 col); have := hrB k; have := hr0B col; omega) (by rw [val_words]; have := nz_mul (cf r.2 col) (cf r0.2 k); have := hrB col; have := hr0B k; omega)) (.cons (Has.t rfl) (.cons (Has.t rfl) .nil))) ((show isZ _ = isZ (cf r.2 k * cf r0.2 col - cf r.2 col * cf r0.2 k) from isZ_eq (by simp only [zv_nf]))))) ?_
      refine DrH.als (n1 := 17) (ds := [10]) (zs := [[isB false, SlM isU []]]) rfl (.cons rfl rfl zero59 (fun _ _ => ⟨rfl, nilM _ _, trivial⟩) .nil) (.cons_cons _ (.cons_cons _ (.cons_cons _ (.cons_cons _ (List.Sublist.refl _))))) (Cs := [_]) rfl ?_
      refine DrN.fin (n := 17) mixed rfl (by kernel_rfl) (by kernel_rfl) (by kernel_rfl) (fun bs hbs => ?_)
      obtain ⟨b2, rfl⟩ := len1 hbs
      refine Ops.memEq (M' := (_ :: _ :: _ :: _ :: _ :: _)) rfl ?_
      refine Ops.cv (Cv.wk (.cons (t := 0) (Has.t rfl) (.cons (t := 1) (Has.t rfl) (.cons (t := 5) (Has.t rfl) (.cons (t := 6) (Has.t rfl) (.cons (t := 25) (Has.t rfl) (.cons (t := 26) (Has.t rfl) (.cons (t := 27) (Has.t rfl) (.cons (t := 28) (Has.t rfl) (.cons (t := 29) (Has.t rfl) (.cons (t := 30) (Has.t rfl) (.cons (t := 31) (Has.t rfl) (.cons (t := 34) (Has.t rfl) (.cons (t := 35) (Has.t rfl) (.cons (t := 36) (Has.t rfl) (.cons (t := 37) (Has.t rfl) (.cons (t := 38) (Has.t rfl) (.cons (t := 39) (Has.t rfl) (.cons (t := 40) (Has.t rfl) (.cons (t := 7) (Has.t rfl) (.cons (t := 41) (Has.t rfl) (.cons (t := 42) (Has.t rfl) (.cons (t := 43) (Has.t rfl) (.cons (t := 44) (Has.t rfl) (.cons (t := 8) (Has.t rfl) (.cons (t := 45) (Has.t rfl) (.cons (t := 46) (Has.t rfl) (.cons (t := 47) (Has.t rfl) (.cons (t := 48) (Has.t rfl) (.cons (t := 49) (Has.t rfl) (.cons (t := 9) (Has.t rfl) (.cons (t := 50) (Has.t rfl) (.cons (t := 51) (Has.t rfl) (.cons (t := 52) (Has.t rfl) (.cons (t := 53) (Has.t rfl) (.cons (t := 54) (Has.t rfl) (.cons (t := 55) (Has.t rfl) (.cons (t := 56) (Has.t rfl) (.cons (t := 57) (Has.t rfl) (.cons (t := 58) (Has.t rfl) (.cons (t := 59) (Has.t rfl) (.cons (t := 60) (Has.t rfl) (.cons (t := 61) (Has.t rfl) (.cons (t := 62) (Has.t rfl) (.cons (t := 63) (Has.t rfl) (.cons (t := 64) (Has.t rfl) (.cons (t := 65) (Has.t rfl) (.cons (t := 10) (Has.op rfl) .nil)))))))))))))))))))))))))))))))))))))))))))))))) ?_
      refine Ops.store (Has.t rfl) (Has.t rfl) (i := 0) rfl ty59 rfl rfl (Ss' := [_, _]) rfl (M' := ((some _, cellM [_, _]) :: _ :: _ :: _ :: _ :: _)) rfl ?_
      refine nl ?_
      refine At.thn (hK17 _ _ ?_); clear hK17
      refine Tri.dry mixed ?_
      refine DrB.take (i := 0) rfl rfl rfl rfl (by kernel_rfl) (by kernel_rfl) (by kernel_rfl) (by kernel_rfl) (fun _ _ _ _ h => h) (OKY.mv (Has.t rfl)) ?_
      refine DrB.take (i := 1) rfl rfl rfl rfl (by kernel_rfl) (by kernel_rfl) (by kernel_rfl) (by kernel_rfl) (fun _ _ _ _ h => h) (OKY.mv (Has.t rfl)) ?_
      refine DrB.take (i := 3) rfl rfl rfl rfl (by kernel_rfl) (by kernel_rfl) (by kernel_rfl) (by kernel_rfl) (fun _ _ _ _ h => h) (OKY.mv (Has.t rfl)) ?_
      refine DrB.take (i := 4) rfl rfl rfl rfl (by kernel_rfl) (by kernel_rfl) (by kernel_rfl) (by kernel_rfl) (fun _ _ _ _ h => h) (OKY.nilc (Has.t rfl)) ?_
      refine DrB.take (i := 5) rfl rfl rfl rfl (by kernel_rfl) (by kernel_rfl) (by kernel_rfl) (by kernel_rfl) (fun _ _ _ _ h => h) (OKY.fieldAddr (Has.t rfl) fld111_3 ty59) ?_
      refine DrB.go [10] ?_
      refine DrC.st (i := 2) [] rfl rfl rfl (by kernel_rfl) (by kernel_rfl) (OKG.o rfl (OK1.load (Has.t rfl) (i := 0) rfl ty59 rfl (Ss' := [_, _]) rfl)) ?_
      refine DrC.st (i := 6) [] rfl rfl rfl (by kernel_rfl) (by kernel_rfl) (OKG.o rfl (OK1.load (Has.t rfl) (i := 2) rfl ty59 rfl (Ss' := [_, _]) rfl)) ?_
      refine DrC.st (i := 7) [69, 73] rfl rfl rfl (by kernel_rfl) (by kernel_rfl) (OKG.o rfl (OK1.call (zint_Exact (by rw [val_words]; have := nz_sub (cf r.2 k * cf r0.2 col) (cf r.2 col * cf r0.2 k); have := nz_mul (cf r.2 k) (cf r0.2 col); have := nz_mul (cf r.2 col) (cf r0.2 k); have := hrB k; have := hrB col; have := hr0B k; have := hr0B col; omega) (by rw [val_words]; omega)) (.cons (Has.t rfl) (.cons (Has.t rfl) .nil)))) ?_
      refine DrC.st (i := 8) [74] rfl rfl rfl (by kernel_rfl) (by kernel_rfl) (OKG.o rfl (OK1.mv (Has.t rfl))) ?_
      refine DrC.ea (i := 10) [66] rfl rfl rfl (by kernel_rfl) rfl (OKY.ext (Has.t rfl) rfl) ?_
      refine DrC.fin [9, 11, 12] (by kernel_rfl) (by kernel_rfl) (fun _ _ _ _ _ h => h) (by kernel_rfl) (by kernel_rfl) (by kernel_rfl) (by kernel_rfl) (by kernel_rfl) (by kernel_rfl) (by kernel_rfl) (by kernel_rfl) (by kernel_rfl) ?_
      refine Ops.cv (Cv.wk (.cons (t := 0) (Has.t rfl) (.cons (t := 1) (Has.t rfl) (.cons (t := 5) (Has.t rfl) (.cons (t := 6) (Has.t rfl) (.cons (t := 25) (Has.t rfl) (.cons (t := 26) (Has.t rfl) (.cons (t := 27) (Has.t rfl) (.cons (t := 28) (Has.t rfl) (.cons (t := 29) (Has.t rfl) (.cons (t := 30) (Has.t rfl) (.cons (t := 31) (Has.t rfl) (.cons (t := 34) (Has.t rfl) (.cons (t := 35) (Has.t rfl) (.cons (t := 36) (Has.t rfl) (.cons (t := 37) (Has.t rfl) (.cons (t := 38) (Has.t rfl) (.cons (t := 39) (Has.t rfl) (.cons (t := 40) (Has.t rfl) (.cons (t := 7) (Has.t rfl) (.cons (t := 41) (Has.t rfl) (.cons (t := 42) (Has.t rfl) (.cons (t := 43) (Has.t rfl) (.cons (t := 44) (Has.t rfl) (.cons (t := 8) (Has.t rfl) (.cons (t := 45) (Has.t rfl) (.cons (t := 46) (Has.t rfl) (.cons (t := 47) (Has.t rfl) (.cons (t := 48) (Has.t rfl) (.cons (t := 49) (Has.t rfl) (.cons (t := 9) (Has.t rfl) (.cons (t := 50) (Has.t rfl) (.cons (t := 51) (Has.t rfl) (.cons (t := 52) (Has.t rfl) (.cons (t := 53) (Has.t rfl) (.cons (t := 54) (Has.t rfl) (.cons (t := 55) (Has.t rfl) (.cons (t := 56) (Has.t rfl) (.cons (t := 57) (Has.t rfl) (.cons (t := 58) (Has.t rfl) (.cons (t := 59) (Has.t rfl) (.cons (t := 60) (Has.t rfl) (.cons (t := 61) (Has.t rfl) (.cons (t := 62) (Has.t rfl) (.cons (t := 63) (Has.t rfl) (.cons (t := 64) (Has.t rfl) (.cons (t := 65) (Has.t rfl) (.cons (t := 10) (Has.t rfl) (.cons (t := 67) (Has.t rfl) (.cons (t := 68) (Has.t rfl) (.cons (t := 70) (Has.t rfl) (.cons (t := 71) (Has.t rfl) (.cons (t := 72) (Has.t rfl) (.cons (t := 69) (Has.t rfl) (.cons (t := 73) (Has.t rfl) (.cons (t := 74) (Has.t rfl) (.cons (t := 66) (Has.t rfl) .nil))))))))))))))))))))))))))))))))))))))))))))))))))))))))) ?_
      refine st (OK1.eq (OK1.ext (Has.t rfl) rfl) ((show isZ _ = Flat (zc (nz (clr r0.2 r.2 col last k))) from isZ_eq (by rw [zv_nf, zv_nf]; rfl)))) rfl ?_
      refine st (OK1.ixGr sl53 ty59 (Has.t rfl) (Has.t rfl) ⟨by omega, by omega⟩) rfl ?_
      refine Ops.storeGK (z := nz (clr r0.2 r.2 col last k)) zc_len (Has.t rfl) (Has.t rfl) (i := 5 + i) (wkAt (pre := [_, _, _, _, _]) (r := (r.1, mixR r0.2 r.2 col last k)) hset) ty59 (by rw [List.length_map, mixR_len _ _ _ _ (by omega)]; omega) (M' := (_ :: _ :: _ :: _ :: _ :: (rs'.set i (r.1, mixR r0.2 r.2 col last (k + 1))).map rowM)) (wkStore (pre := [_, _, _, _, _]) (X := (r.1, mixR r0.2 r.2 col last k)) hset (mixR_set _ _ _ _ (by omega))) ?_
      refine nl ?_
      refine At.bln ?_
      refine At.thn (hK15 _ _ ?_); clear hK15
      refine Tri.region ?_
      refine st (OK1.addI (Has.t rfl) (Has.cI 1 rfl) (by first | omega | assumption) (by first | omega | assumption)) rfl ?_
      refine st (OK1.mv (Has.t rfl)) rfl ?_
      refine nl ?_
      refine At.thn ?_
      refine hK12 (⟨k + 1, by omega⟩) _ _ ?_ (Cv.trans (Cv.drop ((.cons _ (.cons_cons _ (.cons_cons _ (.cons_cons _ (.cons_cons _ (List.Sublist.refl _)))))))) (Cv.mem (.cons (t := 47) (Has.t' rfl ?_) (.cons (t := 0) (Has.t rfl) (.cons (t := 1) (Has.t rfl) (.cons (t := 5) (Has.t rfl) (.cons (t := 6) (Has.t rfl) (.cons (t := 25) (Has.t rfl) (.cons (t := 26) (Has.t rfl) (.cons (t := 27) (Has.t rfl) (.cons (t := 28) (Has.t rfl) (.cons (t := 29) (Has.t rfl) (.cons (t := 30) (Has.t rfl) (.cons (t := 31) (Has.t rfl) (.cons (t := 34) (Has.t rfl) (.cons (t := 35) (Has.t rfl) (.cons (t := 36) (Has.t rfl) (.cons (t := 37) (Has.t rfl) (.cons (t := 38) (Has.t rfl) (.cons (t := 39) (Has.t rfl) (.cons (t := 40) (Has.t rfl) (.cons (t := 7) (Has.t rfl) (.cons (t := 41) (Has.t rfl) (.cons (t := 42) (Has.t rfl) (.cons (t := 43) (Has.t rfl) (.cons (t := 44) (Has.t rfl) (.cons (t := 8) (Has.t rfl) (.cons (t := 45) (Has.t rfl) (.cons (t := 46) (Has.t rfl) .nil))))))))))))))))))))))))))) ?_))
      · show C - (k + 1) < C - k; omega
      · exact isI_eq (by omega)
      · rfl
    · have hc2 := BP.f hc2
      refine Tri.exit ?_
      refine At.the ?_
      refine At.the ?_
      refine At.blh ?_
      refine At.bln ?_
      refine At.thn (hK8 _ _ ?_); clear hK8
      refine Tri.region ?_
      refine st (OK1.mv (Has.t rfl)) rfl ?_
      refine st (OK1.addI (Has.t rfl) (Has.cI 1 rfl) (by first | omega | assumption) (by first | omega | assumption)) rfl ?_
      refine st (OK1.as (Has.t rfl)) rfl ?_
      refine nl ?_
      refine At.thn ?_
      have hkC : k = r.2.length := by omega
      subst hkC
      refine hK5 (⟨(i + 1, rs'.set i (r.1, clrL r0.2 r.2 col last)), by show ps.length < i + 1; omega, by show i + 1 ≤ _; omega, hcl.step hti hr⟩) _ _ ?_ (Cv.trans (Cv.drop ((.cons _ (.cons_cons _ (.cons_cons _ (.cons_cons _ (List.Sublist.refl _))))))) (Cv.mem (.cons (t := 6) (Has.t' rfl ?_) (.cons (t := 0) (Has.t rfl) (.cons (t := 1) (Has.t rfl) (.cons (t := 5) (Has.t rfl) .nil)))) ?_))
      · show rs.length - (i + 1) < rs.length - i; omega
      · exact isI_eq (by omega)
      · exact wk_round hri
  · have hc1 := BP.f hc1
    refine Tri.exit ?_
    refine At.the ?_
    refine At.the ?_
    refine At.blh ?_
    refine At.thn (hK3 _ _ ?_); clear hK3
    refine Tri.cv (Cv.wk (.cons (t := 0) (Has.t rfl) (.cons (t := 1) (Has.t rfl) (.cons (t := 5) (Has.t rfl) .nil)))) ?_
    refine Tri.seq fun K18 hK18 => ?_
    refine Tri.region ?_
    refine st (OK1.mv (Has.t rfl)) rfl ?_
    refine st (OK1.mv (Has.t rfl)) rfl ?_
    refine st (OK1.mv (Has.t rfl)) rfl ?_
    refine st (OK1.ixGr sl53 ty59 (Has.t rfl) (Has.t rfl) ⟨by omega, by omega⟩) rfl ?_
    refine st (OK1.loadGK zc_len (Has.t rfl) (i := 3 + ps.length) (wkAt (pre := [_, _, _]) h0') ty59 (getZ (i := col) (by omega))) rfl ?_
    refine st (OK1.nilc (Has.t rfl)) rfl ?_
    refine st (OK1.fieldAddr (Has.t rfl) fld111_3 ty59) rfl ?_
    refine Ops.store (Has.t rfl) (Has.t rfl) (i := 0) rfl ty59 rfl rfl (Ss' := [_, _, _, _, _, _]) rfl (M' := ((some _, cellM [_, _, _, _, _, _]) :: _ :: _ :: _)) rfl ?_
    refine nl ?_
    refine At.thn (hK18 _ _ ?_); clear hK18
    refine Tri.cv (Cv.wk (.cons (t := 0) (Has.t rfl) (.cons (t := 1) (Has.t rfl) .nil))) ?_
    refine Tri.region ?_
    refine st (OK1.mv (Has.t rfl)) rfl ?_
    refine st (OK1.mv (Has.t rfl)) rfl ?_
    refine st (OK1.nilc (Has.t rfl)) rfl ?_
    refine st (OK1.fieldAddr (Has.t rfl) fld111_2 ty32) rfl ?_
    refine st (OK1.load1 (Has.t rfl) (i := 0) rfl ty32 rfl) rfl ?_
    refine st (OK1.mv (Has.t rfl)) rfl ?_
    refine st (OK1.buildS [isI 0] sl32 ty3 zero3 (fun _ _ => ⟨⟨rfl, by decide, by decide⟩, trivial⟩) rfl rfl (.cons (Has.t rfl) rfl rfl rfl .nil) rfl (S := SlM isI [(col : Int)]) rfl) rfl ?_
    refine Ops.appendG (f := isI) (u := 0) sl32 ty3 zero3 (fun _ _ => ⟨⟨rfl, by decide, by decide⟩, trivial⟩) (fun _ => inferInstance) by3 (Has.t rfl) (i := 1) rfl (Has.t rfl) (by rw [hpv]; show ps.length + 1 ≤ _; omega) (by simp) rfl fun gr1 => ?_
    refine Ops.memEq (M' := (_ :: grM _ _ _ :: _ :: _)) rfl ?_
    refine st (OK1.nilc (Has.t rfl)) rfl ?_
    refine st (OK1.fieldAddr (Has.t rfl) fld111_2 ty32) rfl ?_
    refine Ops.store (Has.t rfl) (Has.t rfl) (i := 0) rfl ty32 rfl rfl (Ss' := [_, _, _, _, _, _]) rfl (M' := ((some _, cellM [_, _, _, _, _, _]) :: _ :: _ :: _)) rfl ?_
    refine nl ?_
    refine rtX0 (.inr rfl) Try.results148 rfl ?_
    exact ⟨gr1, gt, rs', rfl, wk_clr hlen.symm rfl, by obtain rfl : i = rs.length := (by omega); exact hcl⟩
end Go.Proofs.Ytfoclelageohiaa
/- Contracts: all steps. -/
namespace Go.Proofs.Ytfoclelageohiaa
open Go.En Go.RowKit
set_option linter.unusedVariables false
set_option maxRecDepth 10000
open Go.Nt
open Go.Pz
open Go.Mz
set_option maxHeartbeats 4000000 in
theorem bareiss_run {bw C : Nat} {gp : Gr Int} {gt : Gr Row} {rs : List Row} {K : Nat} (hrow : ∀ r ∈ rs, r.2.length = C) (hb : ∀ r ∈ rs, Bd r.2 K) (hC : C ≤ 64) (hR : rs.length ≤ 64) (hK1 : 1 ≤ K) (hK : (K + 1) * 2 ^ rs.length ≤ 100000000) : CtrX Try.prog 124 [isPtr bw 0] (wkM bw gp gt rs C [] 1 false) (fun S M => ∃ gp' gt' rs' ps' last' odd', S = isTup [] ∧ M = wkM bw gp' gt' rs' C ps' last' odd' ∧ RunI ⟨rs.map Prod.snd, [], 1, false⟩ C K rs.length C rs' ps' last' odd') := by
  refine CtrX.intro Try.func124 rfl (by kernel_rfl) Try.ntmps124 rfl fun w0 F0 => ?_
  refine Tri.cv (Cv.wk (.cons (t := 0) (Has.t rfl) .nil)) ?_
  refine Tri.seq fun K1 hK1 => ?_
  refine Tri.region ?_
  refine st (OK1.as (Has.cI 0 rfl)) rfl ?_
  refine nl ?_
  refine At.thn (hK1 _ _ ?_); clear hK1
  refine Tri.block ?_
  refine Tri.loopF [0] (fun (z : { z : Nat × Gr Int × Gr Row × List Row × List Nat × Int × Bool // RunI ⟨rs.map Prod.snd, [], 1, false⟩ C K rs.length z.1 z.2.2.2.1 z.2.2.2.2.1 z.2.2.2.2.2.1 z.2.2.2.2.2.2 }) => match z with | ⟨(c, gp1, gt1, rs1, ps1, last1, odd1), hI⟩ => [(2, isI (c : Int))]) (fun M => fun (z : { z : Nat × Gr Int × Gr Row × List Row × List Nat × Int × Bool // RunI ⟨rs.map Prod.snd, [], 1, false⟩ C K rs.length z.1 z.2.2.2.1 z.2.2.2.2.1 z.2.2.2.2.2.1 z.2.2.2.2.2.2 }) => match z with | ⟨(c, gp1, gt1, rs1, ps1, last1, odd1), hI⟩ => wkM bw gp1 gt1 rs1 C ps1 last1 odd1) (fun (z : { z : Nat × Gr Int × Gr Row × List Row × List Nat × Int × Bool // RunI ⟨rs.map Prod.snd, [], 1, false⟩ C K rs.length z.1 z.2.2.2.1 z.2.2.2.2.1 z.2.2.2.2.2.1 z.2.2.2.2.2.2 }) => match z with | ⟨(c, gp1, gt1, rs1, ps1, last1, odd1), hI⟩ => C - c) (⟨(0, gp, gt, rs, [], 1, false), Nat.zero_le _, rfl, hrow, Nat.zero_le _, fun r hr => (hb r hr).mono (by show K ≤ (K + 1) * 1 - 1; omega), (by show (List.length (words (1 : Int).natAbs)) ≤ (K + 1) * 1 - 1; rw [nz_one]; omega), .zero⟩) (Cv.mem (.cons (t := 2) (Has.t' rfl ?_) (.cons (t := 0) (Has.t rfl) .nil)) ?_) ?_
  · rfl
  · rfl
  rintro ⟨⟨c, gp1, gt1, rs1, ps1, last1, odd1⟩, hI⟩ K2 hK2
  refine Tri.cv (Cv.wk (.cons (t := 2) (Has.t rfl) (.cons (t := 0) (Has.t rfl) .nil))) ?_
  refine Tri.memEq (M' := wkM bw gp1 gt1 rs1 C ps1 last1 odd1) rfl ?_
  simp only [] at hI
  have hbn := hI.bnd
  have hpv := pv_len ps1
  have hlen1 := hI.hlen
  have hps1 := hI.hps
  have hcC := hI.hc
  refine Tri.seq fun K3 hK3 => ?_
  refine Tri.seq fun K4 hK4 => ?_
  refine Tri.dr ?_
  refine DrG.st (i := 0) [] rfl rfl rfl (by kernel_rfl) (OKG.o rfl (OK1.mv (Has.t rfl))) ?_
  refine DrG.st (i := 1) [] rfl rfl rfl (by kernel_rfl) (OKG.o rfl (OK1.mv (Has.t rfl))) ?_
  refine DrG.st (i := 2) [4] rfl rfl rfl (by kernel_rfl) (OKG.o rfl (OK1.nilc (Has.t rfl))) ?_
  refine DrG.st (i := 3) [5] rfl rfl rfl (by kernel_rfl) (OKG.o rfl (OK1.fieldAddr (Has.t rfl) fld111_1 ty3)) ?_
  refine DrG.st (i := 4) [6] rfl rfl rfl (by kernel_rfl) (OKG.o rfl (OK1.load1 (Has.t rfl) (i := 0) rfl ty3 rfl)) ?_
  refine DrG.st (i := 5) [3, 7] rfl rfl rfl (by kernel_rfl) (OKG.o rfl (OK1.ltI (Has.t rfl) (Has.t rfl))) ?_
  refine DrG.st (i := 6) [8] rfl rfl rfl (by kernel_rfl) (OKG.o rfl (OK1.mv (Has.t rfl))) ?_
  refine DrG.st (i := 7) [9] rfl rfl rfl (by kernel_rfl) (OKG.T rfl rfl rfl (fun hg => have hg' := BP.t hg; OK1.mv (Has.t rfl))) ?_
  refine DrG.st (i := 8) [9, 10] rfl rfl rfl (by kernel_rfl) (OKG.T rfl rfl rfl (fun hg => have hg' := BP.t hg; OK1.nilc (Has.g rfl hg))) ?_
  refine DrG.st (i := 9) [9, 11] rfl rfl rfl (by kernel_rfl) (OKG.T rfl rfl rfl (fun hg => have hg' := BP.t hg; OK1.fieldAddr (Has.g rfl hg) fld111_2 ty32)) ?_
  refine DrG.st (i := 10) [9, 12] rfl rfl rfl (by kernel_rfl) (OKG.T rfl rfl rfl (fun hg => have hg' := BP.t hg; OK1.load1 (Has.g rfl hg) (i := 0) rfl ty32 rfl)) ?_
  refine DrG.st (i := 11) [9, 13] rfl rfl rfl (by kernel_rfl) (OKG.T rfl rfl rfl (fun hg => have hg' := BP.t hg; OK1.len sl32 (Has.g rfl hg))) ?_
  refine DrG.st (i := 12) [9] rfl rfl rfl (by kernel_rfl) (OKG.T rfl rfl rfl (fun hg => have hg' := BP.t hg; OK1.mv (Has.t rfl))) ?_
  refine DrG.st (i := 13) [9, 15] rfl rfl rfl (by kernel_rfl) (OKG.T rfl rfl rfl (fun hg => have hg' := BP.t hg; OK1.nilc (Has.g rfl hg))) ?_
  refine DrG.st (i := 14) [9, 16] rfl rfl rfl (by kernel_rfl) (OKG.T rfl rfl rfl (fun hg => have hg' := BP.t hg; OK1.fieldAddr (Has.g rfl hg) fld111_0 ty109)) ?_
  refine DrG.st (i := 15) [9, 17] rfl rfl rfl (by kernel_rfl) (OKG.T rfl rfl rfl (fun hg => have hg' := BP.t hg; OK1.load1 (Has.g rfl hg) (i := 0) rfl ty109 rfl)) ?_
  refine DrG.st (i := 16) [9, 18] rfl rfl rfl (by kernel_rfl) (OKG.T rfl rfl rfl (fun hg => have hg' := BP.t hg; OK1.len sl109 (Has.g rfl hg))) ?_
  refine DrG.fin (n := 17) mixed (by kernel_rfl) (by kernel_rfl) (by kernel_rfl) ?_
  refine Ops.cv (Cv.wk (.cons (t := 0) (Has.t rfl) (.cons (t := 2) (Has.t rfl) (.cons (t := 3) (Has.t rfl) (.cons (t := 4) (Has.t rfl) (.cons (t := 5) (Has.t rfl) (.cons (t := 6) (Has.t rfl) (.cons (t := 7) (Has.t rfl) (.cons (t := 8) (Has.t rfl) (.cons (t := 9) (Has.t rfl) (.cons (t := 10) (Has.t rfl) (.cons (t := 11) (Has.t rfl) (.cons (t := 12) (Has.t rfl) (.cons (t := 13) (Has.t rfl) (.cons (t := 14) (Has.t rfl) (.cons (t := 15) (Has.t rfl) (.cons (t := 16) (Has.t rfl) (.cons (t := 17) (Has.t rfl) (.cons (t := 18) (Has.t rfl) (.cons (t := 19) (Has.t rfl) .nil)))))))))))))))))))) ?_
  refine stT rfl rfl (fun hg => have hg' := BP.t hg; OK1.ltI (Has.g rfl hg) (Has.g rfl hg)) rfl ?_
  refine st (OK1.pickAnd (Has.t rfl) (fun h => Has.g rfl h)) rfl ?_
  refine nl ?_
  refine At.thn (hK4 _ _ ?_); clear hK4
  refine Tri.cond (Has.t rfl) (fun hc1 => ?_) (fun hc1 => ?_)
  · have hc1 := BP.t hc1
    refine Tri.skip ?_
    refine At.thn (hK3 _ _ ?_); clear hK3
    refine Tri.seq fun K5 hK5 => ?_
    refine Tri.block ?_
    refine Tri.seq fun K6 hK6 => ?_
    refine Tri.region ?_
    refine st (OK1.mv (Has.t rfl)) rfl ?_
    refine st (OK1.mv (Has.t rfl)) rfl ?_
    refine Ops.callX (bareiss_find (col := c) hI.hrow hI.hb hC (by omega) (by omega) (by omega) (by omega)) (perm0 _) (.cons (Has.t rfl) (.cons (Has.t rfl) .nil)) rfl ?_
    rintro _ _ ⟨rs2, odd2, ok, rfl, rfl, hF⟩
    refine Ops.memEq (M' := wkM bw gp1 gt1 rs2 C ps1 last1 odd2) (List.append_nil _) ?_
    refine nl ?_
    refine At.thn (hK6 _ _ ?_); clear hK6
    refine Tri.cond (Has.t rfl) (fun hc2 => ?_) (fun hc2 => ?_)
    · have hc2 := BP.t hc2
      subst hc2
      obtain ⟨r0, h0, hl2, htR, hrow2, hb2, hrun⟩ := hI.yes (by omega) hF
      refine Tri.region ?_
      refine st (OK1.mv (Has.t rfl)) rfl ?_
      refine st (OK1.mv (Has.t rfl)) rfl ?_
      refine Ops.callX (bareiss_clear (col := c) (r0 := r0) hrow2 hb2 hC (by omega) (by omega) (by omega) (by omega) hI.hl h0) (perm0 _) (.cons (Has.t rfl) (.cons (Has.t rfl) .nil)) rfl ?_
      rintro _ _ ⟨gp3, gt3, rs3, rfl, rfl, hcl⟩
      refine Ops.memEq (M' := wkM bw gp3 gt3 rs3 C (ps1 ++ [c]) (cf r0.2 c) odd2) (List.append_nil _) ?_
      refine nl ?_
      refine At.bln ?_
      refine At.thn (hK5 _ _ ?_); clear hK5
      refine Tri.region ?_
      refine st (OK1.mv (Has.t rfl)) rfl ?_
      refine st (OK1.addI (Has.t rfl) (Has.cI 1 rfl) (by first | omega | assumption) (by first | omega | assumption)) rfl ?_
      refine st (OK1.as (Has.t rfl)) rfl ?_
      refine nl ?_
      refine At.thn ?_
      refine hK2 (⟨(c + 1, gp3, gt3, rs3, ps1 ++ [c], cf r0.2 c, odd2), hrun rs3 hcl⟩) _ _ ?_ (Cv.mem (.cons (t := 2) (Has.t' rfl ?_) (.cons (t := 0) (Has.t rfl) .nil)) ?_)
      · show C - (c + 1) < C - c; omega
      · exact isI_eq (by omega)
      · rfl
    · have hc2 := BP.f hc2
      subst hc2
      have hno := hI.no (by omega) hF
      refine Tri.skip ?_
      refine At.bln ?_
      refine At.thn (hK5 _ _ ?_); clear hK5
      refine Tri.region ?_
      refine st (OK1.mv (Has.t rfl)) rfl ?_
      refine st (OK1.addI (Has.t rfl) (Has.cI 1 rfl) (by first | omega | assumption) (by first | omega | assumption)) rfl ?_
      refine st (OK1.as (Has.t rfl)) rfl ?_
      refine nl ?_
      refine At.thn ?_
      refine hK2 (⟨(c + 1, gp1, gt1, rs2, ps1, last1, odd2), hno⟩) _ _ ?_ (Cv.mem (.cons (t := 2) (Has.t' rfl ?_) (.cons (t := 0) (Has.t rfl) .nil)) ?_)
      · show C - (c + 1) < C - c; omega
      · exact isI_eq (by omega)
      · rfl
  · have hc1 := BP.f hc1
    refine Tri.exit ?_
    refine At.the ?_
    refine At.the ?_
    refine At.blh ?_
    refine rtX0 (.inr rfl) Try.results124 rfl ?_
    exact ⟨gp1, gt1, rs1, ps1, last1, odd1, rfl, rfl, hI.fin (by omega)⟩
end Go.Proofs.Ytfoclelageohiaa
/- A matrix that has been reckoned on, handed on. -/
namespace Go.En
open Go.RowKit Go.Nt Go.Pz
set_option linter.unusedVariables false
section
variable {E : Env} {P : Program} {Γ : Ctx} {M : Mem}
theorem Sat.freezeRows {a : Act} {w : World} {A : Mem} (hW : E.W = []) : ∀ (rs : List Row) (F : Blk), Sat E Γ (A ++ rs.map rowM) a w F →
    ∃ F', (∀ b, F b → F' b) ∧ Sat E Γ A a w F' ∧ ∀ r ∈ rs, ∀ v, (rowV r).h w F v → (isP r.2).h w F' v
  | [], F, s => ⟨F, fun _ h => h, by rw [List.map_nil, List.append_nil] at s; exact s, by simp⟩
  | r :: rs, F, s => by
    have hM : (A ++ (r :: rs).map rowM)[A.length]? = some (r.1.ob, cellM ((r.2.map nz ++ r.1.sp).flatMap zc)) := by
      rw [List.getElem?_append_right (Nat.le_refl _), Nat.sub_self]; rfl
    obtain ⟨F1, h1, s1, c1⟩ := s.freezeGr (k := 2) (g := r.1) (n := (r.2.map nz).length) hW hM (gr_lenK zc_len) (gr_takeK zc_len)
    have he : (A ++ (r :: rs).map rowM).eraseIdx A.length = A ++ rs.map rowM := by
      rw [List.eraseIdx_append_of_length_le (Nat.le_refl _), Nat.sub_self]; rfl
    rw [he] at s1
    obtain ⟨F2, h2, s2, c2⟩ := Sat.freezeRows hW rs F1 s1
    refine ⟨F2, fun b hb => h2 b (h1 b hb), s2, fun q hq v hv => ?_⟩
    rcases List.mem_cons.1 hq with rfl | hq
    · exact (isP q.2).mono _ _ _ _ _ (c1 v hv) (fun _ _ => rfl) h2
    · exact c2 q hq v hv
theorem All2.conv {α : Type} {f g : α → VP} {w : World} {F : Blk} : ∀ {xs : List α} {Us : List VP} {vs : List Value}, (∀ x ∈ xs, ∀ v, (f x).h w F v → (g x).h w F v) → All2 (xs.map f ++ Us) w F vs → All2 (xs.map g ++ Us) w F vs
  | [], Us, vs, _, h => h
  | x :: xs, Us, v :: vs, hc, h => ⟨hc x (by simp) v h.1, All2.conv (fun y hy => hc y (by simp [hy])) h.2⟩
  | _ :: _, _, [], _, h => h.elim
theorem Sat.memSetO {a : Act} {w : World} {F : Blk} {i : Nat} {ob : Option Nat} {C C' : MP} (s : Sat E Γ M a w F) (hM : M[i]? = some (ob, C)) (h : ∀ o, C.h w F o → C'.h w F o) : Sat E Γ (M.set i (ob, C')) a w F := by
  cases ob with
  | some b => exact s.memSet hM h
  | none =>
    refine { s with mem := ⟨?_, fun b D hb => ?_⟩ }
    · rw [List.pairwise_iff_getElem]
      intro j k hj hk hjk
      have hp := List.pairwise_iff_getElem.1 s.mem.apart j k (by simpa using hj) (by simpa using hk) hjk
      simp only [List.getElem_set]
      have hi : i < M.length := by
        rcases Nat.lt_or_ge i M.length with h' | h'
        · exact h'
        · rw [List.getElem?_eq_none h'] at hM; cases hM
      have hMi : M[i] = (none, C) := by rw [List.getElem?_eq_getElem hi] at hM; exact Option.some.inj hM
      by_cases e1 : i = j
      · simp [e1]
      · by_cases e2 : i = k
        · subst e2
          simp only [e1, if_true, if_false]
          rw [hMi] at hp
          exact hp
        · simp only [e1, e2, if_false]; exact hp
    · obtain ⟨j, hj, he⟩ := List.mem_iff_getElem.1 hb
      simp only [List.getElem_set] at he
      by_cases e1 : i = j
      · simp only [e1, if_true] at he; cases he
      · simp only [e1, if_false] at he
        exact s.mem.each b D (he ▸ List.getElem_mem _)
theorem Cv.freezeRows {A : Mem} {i : Nat} {gt : Gr Row} {rs : List Row} (hW : E.W = []) (hA : A[i]? = some (grM rowV gt rs)) :
    Cv E Γ (A ++ rs.map rowM) Γ (A.set i (gt.ob, cellM (rs.map (fun r => isP r.2) ++ gt.sp.map rowV))) := fun a w F s => by
  obtain ⟨F', hsub, s', hc⟩ := s.freezeRows hW rs F
  refine ⟨F', s'.memSetO hA fun o ⟨vs, ty, e, h⟩ => ⟨vs, ty, e, ?_⟩⟩
  rw [List.map_append] at h
  exact All2.conv (f := rowV) (g := fun r => isP r.2) (fun r hr v hv => hc r hr v hv) h
theorem rowsOf_all {R C K : Nat} {L : List Int} {rs : List Row} (hL : Bd L K) (h : rs.map Prod.snd = Go.En.rowsOf R C L) : (∀ r ∈ rs, r.2.length = C) ∧ ∀ r ∈ rs, Bd r.2 K := by
  have key : ∀ r ∈ rs, ∃ i, r.2 = (List.range C).map fun k => cf L (i * C + k) := by
    intro r hr
    have hm : r.2 ∈ rs.map Prod.snd := List.mem_map.2 ⟨r, hr, rfl⟩
    rw [h] at hm
    obtain ⟨i, _, e⟩ := List.mem_map.1 hm
    exact ⟨i, e.symm⟩
  refine ⟨fun r hr => ?_, fun r hr => ?_⟩
  · obtain ⟨i, e⟩ := key r hr
    rw [e, List.length_map, List.length_range]
  · obtain ⟨i, e⟩ := key r hr
    intro k
    rw [e, cf_tab]
    split
    · exact hL _
    · rw [Int.natAbs_zero, words_zero]; exact Nat.zero_le _
theorem rowsSl {rs : List Row} : SlL 1 rs.length (rs.map fun r => isP r.2) = SlM isP (rs.map Prod.snd) := by
  unfold SlM
  rw [List.length_map, List.map_map]; rfl
/-- all that a work knows, as it stays -/
abbrev wkF (rows : List (List Int)) (C : Nat) (ps : List Nat) (last : Int) (odd : Bool) : VP := PtrL [SlM isP rows, isI (C : Int), SlM isI (pv ps), isB (decide (last < 0)), SlM isU (words last.natAbs), isB odd]
theorem Cv.freezeWk {t bw C : Nat} {gp : Gr Int} {gt : Gr Row} {rs : List Row} {ps : List Nat} {last : Int} {odd : Bool} (hW : E.W = []) (ht : look Γ t = some (isPtr bw 0)) :
    Cv E Γ (wkM bw gp gt rs C ps last odd) ((t, wkF (rs.map Prod.snd) C ps last odd) :: Γ) [] := by
  have h1 := Cv.freezeRows (E := E) (Γ := Γ) (A := [wk0 bw gp gt rs.length C ps last odd, grM isI gp (pv ps), grM rowV gt rs]) (i := 2) hW rfl
  refine Cv.trans h1 ?_
  have hl : rs.length * 1 ≤ (rs.map (fun r => isP r.2) ++ gt.sp.map rowV).length := by rw [List.length_append, List.length_map]; omega
  have he : (rs.map (fun r => isP r.2) ++ gt.sp.map rowV).take (rs.length * 1) = rs.map fun r => isP r.2 := by rw [Nat.mul_one, List.take_left' (by rw [List.length_map])]
  have h2 := Cv.freezeF (E := E) (Γ := Γ) (M := [wk0 bw gp gt rs.length C ps last odd, grM isI gp (pv ps), (gt.ob, cellM (rs.map (fun r => isP r.2) ++ gt.sp.map rowV))]) (k := 1) (i := 2) (j := 0) (o := 0) (g := gt) (n := rs.length) hW rfl rfl rfl hl he rfl
  refine Cv.trans h2 ?_
  have h3 := Cv.freezeF (E := E) (Γ := Γ) (M := [(some bw, cellM [SlL 1 rs.length (rs.map fun r => isP r.2), isI (C : Int), isGr gp (pv ps).length, isB (decide (last < 0)), SlM isU (words last.natAbs), isB odd]), grM isI gp (pv ps)]) (k := 1) (i := 1) (j := 0) (o := 2) (g := gp) (n := (pv ps).length) hW rfl rfl rfl gr_lenM gr_takeM rfl
  refine Cv.trans h3 ?_
  rw [rowsSl]
  exact Cv.freezeBox (i := 0) hW ht rfl
end
end Go.En
/- Contracts: a determinant, as it is reckoned. -/
namespace Go.Proofs.Ytfoclelageohiaa
open Go.En Go.RowKit
set_option linter.unusedVariables false
set_option maxRecDepth 10000
open Go.Nt
open Go.Pz
open Go.Mz
set_option maxHeartbeats 4000000 in
theorem bareiss_done {R C K : Nat} {xs : List (Bool × List Nat)} (hx : Bd (vals xs) K) (hK1 : 1 ≤ K) (hR : R ≤ 64) (hC : C ≤ 64) (hl : xs.length = R * C) (hK : (K + 1) * 2 ^ R ≤ 100000000) : CtrX Try.prog 92 [isM (R : Int) (C : Int) xs] ([]) (fun S M => ∃ rs ps last odd, S = isTup [wkF (rs.map Prod.snd) C ps last odd, isI 0] ∧ M = [] ∧ RunI ⟨rowsOf R C (vals xs), [], 1, false⟩ C K R C rs ps last odd) := by
  refine CtrX.intro Try.func92 rfl (by kernel_rfl) Try.ntmps92 rfl fun w0 F0 => ?_
  refine Tri.cv (Cv.wk (.cons (t := 0) (Has.t rfl) .nil)) ?_
  have hfo := formB_true hR hC hl
  refine Tri.seq fun K1 hK1 => ?_
  refine Tri.region ?_
  refine Ops.box (Has.t rfl) rfl fun b1 => ?_
  refine st (OK1.as Has.cP) rfl ?_
  refine st (OK1.as (Has.cI 0 rfl)) rfl ?_
  refine nl ?_
  refine At.thn (hK1 _ _ ?_); clear hK1
  refine Tri.seq fun K2 hK2 => ?_
  refine Tri.seq fun K3 hK3 => ?_
  refine Tri.region ?_
  refine st (OK1.load (Has.t rfl) (i := 0) rfl ty55 rfl (Ss' := [_, _, _]) rfl) rfl ?_
  refine st (OK1.eq (OK1.call (zmat_Formed) (.cons (Has.t rfl) .nil)) ((show isB _ = isB true from isB_eq hfo))) rfl ?_
  refine st (OK1.not (Has.t rfl)) rfl ?_
  refine nl ?_
  refine At.thn (hK3 _ _ ?_); clear hK3
  refine Tri.cond (Has.t rfl) (fun hc1 => ?_) (fun hc1 => ?_)
  · have hc1 := BP.t hc1
    simp at hc1
  · have hc1 := BP.f hc1
    refine Tri.skip ?_
    refine At.thn (hK2 _ _ ?_); clear hK2
    refine Tri.seq fun K4 hK4 => ?_
    refine Tri.region ?_
    refine st (OK1.load (Has.t rfl) (i := 0) rfl ty55 rfl (Ss' := [_, _, _]) rfl) rfl ?_
    refine Ops.cv (Cv.drop ((.cons _ .slnil))) ?_
    refine Ops.cv (Cv.wk (.cons (t := 0) (Has.t rfl) (.cons (t := 2) (Has.t rfl) (.cons (t := 3) (Has.t rfl) (.cons (t := 5) (Has.t rfl) (.cons (t := 6) (Has.t rfl) (.cons (t := 7) (Has.t rfl) (.cons (t := 8) (Has.t rfl) .nil)))))))) ?_
    refine Ops.callX (bareiss_begun hx (by have := Nat.mul_le_mul_left (K + 1) (Nat.one_le_pow R 2 (by decide)); omega) hR hC hl) (perm0 _) (.cons (Has.t rfl) .nil) rfl ?_
    rintro _ _ ⟨bw, gt, rs0, rfl, rfl, hrs0⟩
    have hl0 : rs0.length = R := by have := congrArg List.length hrs0; rwa [List.length_map, rowsOf_len] at this
    obtain ⟨hrow0, hb0⟩ := rowsOf_all hx hrs0
    refine Ops.memEq (M' := wkM bw Gr.nil gt rs0 C [] 1 false) (List.append_nil _) ?_
    refine st (OK1.as (Has.t rfl)) rfl ?_
    refine nl ?_
    refine At.thn (hK4 _ _ ?_); clear hK4
    refine Tri.cv (Cv.wk (.cons (t := 2) (Has.t rfl) (.cons (t := 3) (Has.t rfl) (.cons (t := 4) (Has.t rfl) .nil)))) ?_
    refine Tri.seq fun K5 hK5 => ?_
    refine Tri.region ?_
    refine st (OK1.mv (Has.t rfl)) rfl ?_
    refine Ops.callX (bareiss_run (rs := rs0) hrow0 hb0 hC (by omega) hK1 (by rw [hl0]; exact hK)) (perm0 _) (.cons (Has.t rfl) .nil) rfl ?_
    rintro _ _ ⟨gp, gt2, rs, ps, last, odd, rfl, rfl, hRun⟩
    rw [hrs0, hl0] at hRun
    refine Ops.memEq (M' := wkM bw gp gt2 rs C ps last odd) (List.append_nil _) ?_
    refine nl ?_
    refine At.thn (hK5 _ _ ?_); clear hK5
    refine Tri.seq fun K6 hK6 => ?_
    refine Tri.cv (Cv.freezeWk (t := 4) rfl rfl) ?_
    refine Tri.region ?_
    refine st (OK1.mv (Has.t rfl)) rfl ?_
    refine st (OK1.as (Has.t rfl)) rfl ?_
    refine st (OK1.as (Has.cI 0 rfl)) rfl ?_
    refine nl ?_
    refine At.thn (hK6 _ _ ?_); clear hK6
    refine Tri.ret ?_
    refine rtXN (.inl rfl) Try.results92 rfl rfl (.tmp (Has.t rfl) (.tmp (Has.t rfl) .nil)) ?_
    exact ⟨rs, ps, last, odd, rfl, rfl, hRun⟩
set_option maxHeartbeats 4000000 in
theorem bareiss_done_bad {r c : Int} {xs : List (Bool × List Nat)} (hf : formB r c xs.length = false) : Ctr Try.prog 92 [isM r c xs] (isTup [nilP, isI 2]) := by
  refine Ctr.intro Try.func92 rfl (by kernel_rfl) Try.ntmps92 rfl fun w0 F0 => ?_
  refine Tri.cv (Cv.wk (.cons (t := 0) (Has.t rfl) .nil)) ?_
  refine Tri.seq fun K1 hK1 => ?_
  refine Tri.region ?_
  refine Ops.box (Has.t rfl) rfl fun b1 => ?_
  refine st (OK1.as Has.cP) rfl ?_
  refine st (OK1.as (Has.cI 0 rfl)) rfl ?_
  refine nl ?_
  refine At.thn (hK1 _ _ ?_); clear hK1
  refine Tri.seq fun K2 hK2 => ?_
  refine Tri.seq fun K3 hK3 => ?_
  refine Tri.region ?_
  refine st (OK1.load (Has.t rfl) (i := 0) rfl ty55 rfl (Ss' := [_, _, _]) rfl) rfl ?_
  refine st (OK1.eq (OK1.call (zmat_Formed) (.cons (Has.t rfl) .nil)) ((show isB _ = isB false from isB_eq hf))) rfl ?_
  refine st (OK1.not (Has.t rfl)) rfl ?_
  refine nl ?_
  refine At.thn (hK3 _ _ ?_); clear hK3
  refine Tri.cond (Has.t rfl) (fun hc1 => ?_) (fun hc1 => ?_)
  · have hc1 := BP.t hc1
    refine Tri.seq fun K4 hK4 => ?_
    refine Tri.region ?_
    refine st (OK1.as Has.cP) rfl ?_
    refine st (OK1.as (Has.cI 2 rfl)) rfl ?_
    refine nl ?_
    refine At.thn (hK4 _ _ ?_); clear hK4
    refine Tri.ret ?_
    refine At.thr ?_
    refine rtN (.inl rfl) Try.results92 rfl rfl (.tmp (Has.t' rfl ?_) (.tmp (Has.t' rfl ?_) .nil))
    all_goals (rfl)
  · have hc1 := BP.f hc1
    simp at hc1
set_option maxHeartbeats 4000000 in
theorem bareiss_DetX {R K : Nat} {xs : List (Bool × List Nat)} (hx : Bd (vals xs) K) (hK1 : 1 ≤ K) (hR : R ≤ 64) (hl : xs.length = R * R) (hK : (K + 1) * 2 ^ R ≤ 100000000) : CtrX Try.prog 43 [isM (R : Int) (R : Int) xs] ([]) (fun S M => ∃ rs ps last odd, S = isTup [isZ (if ps.length < R then 0 else if odd = true then -last else last), isI 0] ∧ RunI ⟨rowsOf R R (vals xs), [], 1, false⟩ R K R R rs ps last odd) := by
  refine CtrX.intro Try.func43 rfl (by kernel_rfl) Try.ntmps43 rfl fun w0 F0 => ?_
  refine Tri.cv (Cv.wk (.cons (t := 0) (Has.t rfl) .nil)) ?_
  refine Tri.seq fun K1 hK1 => ?_
  refine Tri.region ?_
  refine Ops.box (Has.t rfl) rfl fun b1 => ?_
  refine Ops.alloc [isB false, SlM isU []] zero59 (fun _ _ => ⟨rfl, nilM _ _, trivial⟩) rfl fun b2 => ?_
  refine st (OK1.as (Has.cI 0 rfl)) rfl ?_
  refine nl ?_
  refine At.thn (hK1 _ _ ?_); clear hK1
  refine Tri.seq fun K2 hK2 => ?_
  refine Tri.seq fun K3 hK3 => ?_
  refine Tri.region ?_
  refine st (OK1.fieldAddr (Has.t rfl) fld55_0 ty3) rfl ?_
  refine st (OK1.load1 (Has.t rfl) (i := 1) rfl ty3 rfl) rfl ?_
  refine st (OK1.fieldAddr (Has.t rfl) fld55_1 ty3) rfl ?_
  refine st (OK1.load1 (Has.t rfl) (i := 1) rfl ty3 rfl) rfl ?_
  refine st (OK1.neI (Has.t rfl) (Has.t rfl)) rfl ?_
  refine nl ?_
  refine At.thn (hK3 _ _ ?_); clear hK3
  refine Tri.cv (Cv.wk (.cons (t := 1) (Has.t rfl) (.cons (t := 2) (Has.t rfl) (.cons (t := 3) (Has.t rfl) (.cons (t := 10) (Has.t rfl) .nil))))) ?_
  refine Tri.cond (Has.t rfl) (fun hc1 => ?_) (fun hc1 => ?_)
  · have hc1 := BP.t hc1
    exact absurd rfl hc1
  · have hc1 := BP.f hc1
    refine Tri.skip ?_
    refine At.thn (hK2 _ _ ?_); clear hK2
    refine Tri.seq fun K4 hK4 => ?_
    refine Tri.region ?_
    refine st (OK1.load (Has.t rfl) (i := 1) rfl ty55 rfl (Ss' := [_, _, _]) rfl) rfl ?_
    refine Ops.callX (bareiss_done hx hK1 hR hR hl hK) (List.Perm.refl _) (.cons (Has.t rfl) .nil) rfl ?_
    rintro _ _ ⟨rs, ps, last, odd, rfl, rfl, hRun⟩
    have hpv := pv_len ps
    have hps := hRun.hps
    have hbn := hRun.bnd
    have hl1 := hRun.hl
    refine st (OK1.mv (Has.t rfl)) rfl ?_
    refine st (OK1.ext (Has.t rfl) rfl) rfl ?_
    refine st (OK1.ext (Has.t rfl) rfl) rfl ?_
    refine st (OK1.as (Has.t rfl)) rfl ?_
    refine st (OK1.as (Has.t rfl)) rfl ?_
    refine nl ?_
    refine At.thn (hK4 _ _ ?_); clear hK4
    refine Tri.cv (Cv.wk (.cons (t := 1) (Has.t rfl) (.cons (t := 2) (Has.t rfl) (.cons (t := 3) (Has.t rfl) (.cons (t := 4) (Has.t rfl) (.cons (t := 5) (Has.t rfl) .nil)))))) ?_
    refine Tri.seq fun K5 hK5 => ?_
    refine Tri.block ?_
    refine Tri.seq fun K6 hK6 => ?_
    refine Tri.region ?_
    refine st (OK1.mv (Has.t rfl)) rfl ?_
    refine st (OK1.neI (Has.t rfl) (Has.cI 0 rfl)) rfl ?_
    refine st (OK1.as (Has.t rfl)) rfl ?_
    refine nl ?_
    refine At.thn (hK6 _ _ ?_); clear hK6
    refine Tri.cond (Has.t rfl) (fun hc2 => ?_) (fun hc2 => ?_)
    · have hc2 := BP.t hc2
      simp at hc2
    · have hc2 := BP.f hc2
      refine Tri.seq fun K7 hK7 => ?_
      refine Tri.dr ?_
      refine DrG.st (i := 0) [] rfl rfl rfl (by kernel_rfl) (OKG.o rfl (OK1.mv (Has.t rfl))) ?_
      refine DrG.st (i := 1) [23] rfl rfl rfl (by kernel_rfl) (OKG.o rfl (OK1.nilcP (Has.t rfl))) ?_
      refine DrG.st (i := 2) [24] rfl rfl rfl (by kernel_rfl) (OKG.o rfl (OK1.fieldAddrP (Has.t rfl) fld111_2 ty32 (Ss' := [_, _, _, _]) rfl)) ?_
      refine DrG.st (i := 3) [25] rfl rfl rfl (by kernel_rfl) (OKG.o rfl (OK1.loadP1 (Has.t rfl) ty32)) ?_
      refine DrG.st (i := 4) [26] rfl rfl rfl (by kernel_rfl) (OKG.o rfl (OK1.len sl32 (Has.t rfl))) ?_
      refine DrG.st (i := 5) [] rfl rfl rfl (by kernel_rfl) (OKG.o rfl (OK1.fieldAddr (Has.t rfl) fld55_0 ty3)) ?_
      refine DrG.st (i := 6) [28] rfl rfl rfl (by kernel_rfl) (OKG.o rfl (OK1.load1 (Has.t rfl) (i := 1) rfl ty3 rfl)) ?_
      refine DrG.fin (n := 7) mixed (by kernel_rfl) (by kernel_rfl) (by kernel_rfl) ?_
      refine Ops.cv (Cv.wk (.cons (t := 2) (Has.t rfl) (.cons (t := 3) (Has.t rfl) (.cons (t := 4) (Has.t rfl) (.cons (t := 27) (Has.t rfl) (.cons (t := 29) (Has.t rfl) .nil)))))) ?_
      refine st (OK1.ltI (Has.t rfl) (Has.t rfl)) rfl ?_
      refine st (OK1.as (Has.t rfl)) rfl ?_
      refine nl ?_
      refine At.thn (hK7 _ _ ?_); clear hK7
      refine Tri.cond (Has.t rfl) (fun hc3 => ?_) (fun hc3 => ?_)
      · have hc3 := BP.t hc3
        refine Tri.seq fun K8 hK8 => ?_
        refine Tri.region ?_
        refine st (OK1.build [isB false, SlM isU []] pl59 zero59 (fun _ _ => ⟨rfl, nilM _ _, trivial⟩) .nil (Z'' := [_, _]) rfl) rfl ?_
        refine Ops.store (Has.t rfl) (Has.t rfl) (i := 0) rfl ty59 rfl rfl (Ss' := [_, _]) rfl (M' := [(some _, cellM [_, _]), _]) rfl ?_
        refine st (OK1.as (Has.cI 0 rfl)) rfl ?_
        refine nl ?_
        refine At.thn (hK8 _ _ ?_); clear hK8
        refine Tri.cv (Cv.wk (.cons (t := 2) (Has.t rfl) (.cons (t := 3) (Has.t rfl) (.cons (t := 4) (Has.t rfl) .nil)))) ?_
        refine Tri.ret ?_
        refine At.blr ?_
        refine At.thr ?_
        refine rtXN (.inl rfl) Try.results43 rfl rfl (.cell rfl (i := 0) rfl ty59 rfl rfl (.tmp (Has.t rfl) .nil)) ?_
        exact ⟨rs, ps, last, odd, congrArg (fun s => isTup [s, isI 0]) (isZ0.trans (isZ_eq (by rw [if_pos (by omega)]))), hRun⟩
      · have hc3 := BP.f hc3
        refine Tri.seq fun K9 hK9 => ?_
        refine Tri.region ?_
        refine st (OK1.mv (Has.t rfl)) rfl ?_
        refine st (OK1.nilcP (Has.t rfl)) rfl ?_
        refine st (OK1.fieldAddrP (Has.t rfl) fld111_4 ty4 (Ss' := [_]) rfl) rfl ?_
        refine st (OK1.loadP1 (Has.t rfl) ty4) rfl ?_
        refine st (OK1.as (Has.t rfl)) rfl ?_
        refine nl ?_
        refine At.thn (hK9 _ _ ?_); clear hK9
        refine Tri.cv (Cv.wk (.cons (t := 2) (Has.t rfl) (.cons (t := 3) (Has.t rfl) (.cons (t := 4) (Has.t rfl) (.cons (t := 32) (Has.t rfl) .nil))))) ?_
        refine Tri.cond (Has.t rfl) (fun hc4 => ?_) (fun hc4 => ?_)
        · have hc4 := BP.t hc4
          refine Tri.seq fun K10 hK10 => ?_
          refine Tri.region ?_
          refine st (OK1.mv (Has.t rfl)) rfl ?_
          refine st (OK1.nilcP (Has.t rfl)) rfl ?_
          refine st (OK1.fieldAddrP (Has.t rfl) fld111_3 ty59 (Ss' := [_, _, _]) rfl) rfl ?_
          refine st (OK1.loadP (Has.t rfl) ty59 rfl (Ss' := [_, _]) rfl) rfl ?_
          refine st (OK1.eq (OK1.call (zint_Neg (by rw [val_words]; omega)) (.cons (Has.t rfl) .nil)) ((show isZ _ = isZ (-last) from isZ_eq (by rw [zv_nf])))) rfl ?_
          refine Ops.store (Has.t rfl) (Has.t rfl) (i := 0) rfl ty59 rfl rfl (Ss' := [_, _]) rfl (M' := [(some _, cellM [_, _]), _]) rfl ?_
          refine st (OK1.as (Has.cI 0 rfl)) rfl ?_
          refine nl ?_
          refine At.thn (hK10 _ _ ?_); clear hK10
          refine Tri.cv (Cv.wk (.cons (t := 2) (Has.t rfl) (.cons (t := 3) (Has.t rfl) (.cons (t := 4) (Has.t rfl) .nil)))) ?_
          refine Tri.ret ?_
          refine At.blr ?_
          refine At.thr ?_
          refine rtXN (.inl rfl) Try.results43 rfl rfl (.cell rfl (i := 0) rfl ty59 rfl rfl (.tmp (Has.t rfl) .nil)) ?_
          exact ⟨rs, ps, last, odd, congrArg (fun s => isTup [s, isI 0]) (isZ_eq (by rw [if_neg (by omega), if_pos (by assumption)])), hRun⟩
        · have hc4 := BP.f hc4
          refine Tri.skip ?_
          refine At.bln ?_
          refine At.thn (hK5 _ _ ?_); clear hK5
          refine Tri.seq fun K11 hK11 => ?_
          refine Tri.region ?_
          refine st (OK1.mv (Has.t rfl)) rfl ?_
          refine st (OK1.nilcP (Has.t rfl)) rfl ?_
          refine st (OK1.fieldAddrP (Has.t rfl) fld111_3 ty59 (Ss' := [_, _, _]) rfl) rfl ?_
          refine st (OK1.loadP (Has.t rfl) ty59 rfl (Ss' := [_, _]) rfl) rfl ?_
          refine Ops.store (Has.t rfl) (Has.t rfl) (i := 0) rfl ty59 rfl rfl (Ss' := [_, _]) rfl (M' := [(some _, cellM [_, _]), _]) rfl ?_
          refine st (OK1.as (Has.cI 0 rfl)) rfl ?_
          refine nl ?_
          refine At.thn (hK11 _ _ ?_); clear hK11
          refine Tri.cv (Cv.wk (.cons (t := 2) (Has.t rfl) (.cons (t := 3) (Has.t rfl) .nil))) ?_
          refine Tri.ret ?_
          refine rtXN (.inl rfl) Try.results43 rfl rfl (.cell rfl (i := 0) rfl ty59 rfl rfl (.tmp (Has.t rfl) .nil)) ?_
          exact ⟨rs, ps, last, odd, congrArg (fun s => isTup [s, isI 0]) (isZ_eq (by rw [if_neg (by omega), if_neg (by simp [*])])), hRun⟩
end Go.Proofs.Ytfoclelageohiaa
/- Contracts: ranks. -/
namespace Go.Proofs.Ytfoclelageohiaa
open Go.En Go.RowKit
set_option linter.unusedVariables false
set_option maxRecDepth 10000
open Go.Nt
open Go.Pz
open Go.Mz
open Go.Dt
set_option maxHeartbeats 4000000 in
theorem bareiss_matrix {rs : List (List Int)} {C : Nat} {ps : List Nat} {last : Int} {odd : Bool} (hrow : ∀ r ∈ rs, r.length ≤ 64) (hR : rs.length ≤ 64) : Ctr Try.prog 104 [wkF rs C ps last odd] (isMz rs.length C (fltn rs)) := by
  refine Ctr.intro Try.func104 rfl (by kernel_rfl) Try.ntmps104 rfl fun w0 F0 => ?_
  refine Tri.cv (Cv.wk (.cons (t := 0) (Has.t rfl) .nil)) ?_
  have hmx : ∀ i, (fltn (rs.take i)).length ≤ 4096 := fun i => Nat.le_trans (fltn_len (W := 64) fun r hr => hrow r (List.mem_of_mem_take hr)) (by rw [List.length_take]; exact Nat.le_trans (Nat.mul_le_mul_right 64 (show min i rs.length ≤ 64 by omega)) (by decide))
  refine Tri.seq fun K1 hK1 => ?_
  refine Tri.region ?_
  refine Ops.alloc [isI 0, isI 0, nilS] zero55 (fun _ _ => ⟨⟨rfl, by decide, by decide⟩, ⟨rfl, by decide, by decide⟩, rfl, trivial⟩) rfl fun b1 => ?_
  refine nl ?_
  refine At.thn (hK1 _ _ ?_); clear hK1
  refine Tri.seq fun K2 hK2 => ?_
  refine Tri.drh [true] (Ms := [_]) rfl ?_
  refine DrH.st (i := 0) [] rfl rfl rfl (by kernel_rfl) (OKG.o rfl (OK1.mv (Has.t rfl))) ?_
  refine DrH.st (i := 1) [6] rfl rfl rfl (by kernel_rfl) (OKG.o rfl (OK1.nilcP (Has.t rfl))) ?_
  refine DrH.st (i := 2) [7] rfl rfl rfl (by kernel_rfl) (OKG.o rfl (OK1.fieldAddrP (Has.t rfl) fld111_0 ty109 (Ss' := [_, _, _, _, _, _]) rfl)) ?_
  refine DrH.st (i := 3) [8] rfl rfl rfl (by kernel_rfl) (OKG.o rfl (OK1.loadP1 (Has.t rfl) ty109)) ?_
  refine DrH.st (i := 4) [9] rfl rfl rfl (by kernel_rfl) (OKG.o rfl (OK1.len sl109 (Has.t rfl))) ?_
  refine DrH.st (i := 5) [] rfl rfl rfl (by kernel_rfl) (OKG.o rfl (OK1.mv (Has.t rfl))) ?_
  refine DrH.st (i := 6) [11] rfl rfl rfl (by kernel_rfl) (OKG.o rfl (OK1.nilcP (Has.t rfl))) ?_
  refine DrH.st (i := 7) [12] rfl rfl rfl (by kernel_rfl) (OKG.o rfl (OK1.fieldAddrP (Has.t rfl) fld111_1 ty3 (Ss' := [_, _, _, _, _]) rfl)) ?_
  refine DrH.st (i := 8) [13] rfl rfl rfl (by kernel_rfl) (OKG.o rfl (OK1.loadP1 (Has.t rfl) ty3)) ?_
  refine DrH.st (i := 9) [10, 14] rfl rfl rfl (by kernel_rfl) (OKG.o rfl (OK1.build [isI 0, isI 0, nilS] pl55 zero55 (fun _ _ => ⟨⟨rfl, by decide, by decide⟩, ⟨rfl, by decide, by decide⟩, rfl, trivial⟩) (.cons (Has.t rfl) rfl rfl rfl (.cons (Has.t rfl) rfl rfl rfl .nil)) (Z'' := [_, _, _]) rfl)) ?_
  refine DrH.als (n1 := 11) (ds := [3]) (zs := [[isI 0, isI 0, nilS]]) rfl (.cons rfl rfl zero55 (fun _ _ => ⟨⟨rfl, by decide, by decide⟩, ⟨rfl, by decide, by decide⟩, rfl, trivial⟩) .nil) (.cons_cons _ .slnil) (Cs := [_]) rfl ?_
  refine DrN.fin (n := 11) mixed rfl (by kernel_rfl) (by kernel_rfl) (by kernel_rfl) (fun bs hbs => ?_)
  obtain ⟨b2, rfl⟩ := len1 hbs
  refine Ops.memEq (M' := [_, _]) rfl ?_
  refine Ops.cv (Cv.wk (.cons (t := 0) (Has.t rfl) (.cons (t := 2) (Has.t rfl) (.cons (t := 15) (Has.t rfl) (.cons (t := 3) (Has.op rfl) .nil))))) ?_
  refine Ops.store (Has.t rfl) (Has.t rfl) (i := 0) rfl ty55 rfl rfl (Ss' := [_, _, _]) rfl (M' := [(some _, cellM [_, _, _]), _]) rfl ?_
  refine nl ?_
  refine At.thn (hK2 _ _ ?_); clear hK2
  refine Tri.seq fun K3 hK3 => ?_
  refine Tri.seq fun K4 hK4 => ?_
  refine Tri.cv (Cv.growF (Bool × List Nat) (i := 0) (o := 2) rfl rfl rfl) ?_
  refine Tri.memEq (M' := [grMK zc Gr.nil [], _, _]) rfl ?_
  refine Tri.region ?_
  refine st (OK1.mv (Has.t rfl)) rfl ?_
  refine st (OK1.nilcP (Has.t rfl)) rfl ?_
  refine st (OK1.fieldAddrP (Has.t rfl) fld111_0 ty109 (Ss' := [_, _, _, _, _, _]) rfl) rfl ?_
  refine st (OK1.loadP1 (Has.t rfl) ty109) rfl ?_
  refine st (OK1.len sl109 (Has.t rfl)) rfl ?_
  refine st (OK1.mv (Has.cI 0 rfl)) rfl ?_
  refine nl ?_
  refine At.thn (hK4 _ _ ?_); clear hK4
  refine Tri.cv (Cv.wk (.cons (t := 2) (Has.t rfl) (.cons (t := 3) (Has.t rfl) (.cons (t := 19) (Has.t rfl) (.cons (t := 20) (Has.t rfl) (.cons (t := 21) (Has.t rfl) .nil)))))) ?_
  refine Tri.block ?_
  refine Tri.loopF [2, 3, 19, 20] (fun (z : { z : Nat × Gr (Bool × List Nat) // z.1 ≤ rs.length }) => match z with | ⟨(i, g), hI⟩ => [(21, isI (i : Int))]) (fun M => fun (z : { z : Nat × Gr (Bool × List Nat) // z.1 ≤ rs.length }) => match z with | ⟨(i, g), hI⟩ => [grMK zc g ((fltn (rs.take i)).map nz), (some b2, cellM [isI (rs.length : Int), isI (C : Int), isGr g ((fltn (rs.take i)).map nz).length]), (some b1, cellM [isI 0, isI 0, nilS])]) (fun (z : { z : Nat × Gr (Bool × List Nat) // z.1 ≤ rs.length }) => match z with | ⟨(i, g), hI⟩ => rs.length - i) (⟨(0, Gr.nil), Nat.zero_le _⟩) (Cv.mem (.cons (t := 21) (Has.t' rfl ?_) (.cons (t := 2) (Has.t rfl) (.cons (t := 3) (Has.t rfl) (.cons (t := 19) (Has.t rfl) (.cons (t := 20) (Has.t rfl) .nil))))) ?_) ?_
  · rfl
  · rfl
  rintro ⟨⟨i, g⟩, hI⟩ K5 hK5
  refine Tri.cv (Cv.wk (.cons (t := 21) (Has.t rfl) (.cons (t := 2) (Has.t rfl) (.cons (t := 3) (Has.t rfl) (.cons (t := 19) (Has.t rfl) (.cons (t := 20) (Has.t rfl) .nil)))))) ?_
  refine Tri.memEq (M' := [grMK zc g ((fltn (rs.take i)).map nz), (some b2, cellM [isI (rs.length : Int), isI (C : Int), isGr g ((fltn (rs.take i)).map nz).length]), (some b1, cellM [isI 0, isI 0, nilS])]) rfl ?_
  simp only [] at hI
  have hfl := hmx i
  refine Tri.seq fun K6 hK6 => ?_
  refine Tri.region ?_
  refine st (OK1.ltI (Has.t rfl) (Has.t rfl)) rfl ?_
  refine nl ?_
  refine At.thn (hK6 _ _ ?_); clear hK6
  refine Tri.seq fun K7 hK7 => ?_
  refine Tri.cond (Has.t rfl) (fun hc1 => ?_) (fun hc1 => ?_)
  · have hc1 := BP.t hc1
    obtain ⟨r, hr⟩ : ∃ r, rs[i]? = some r := ⟨_, List.getElem?_eq_getElem (by omega)⟩
    have hrW := hrow r (List.mem_of_getElem? hr)
    refine Tri.skip ?_
    refine At.thn (hK7 _ _ ?_); clear hK7
    refine Tri.seq fun K8 hK8 => ?_
    refine Tri.block ?_
    refine Tri.seq fun K9 hK9 => ?_
    refine Tri.region ?_
    refine st (OK1.ixP sl109 ty53 (Has.t rfl) (Has.t rfl) ⟨by omega, by omega⟩ hr) rfl ?_
    refine st (OK1.loadP1 (Has.t rfl) ty53) rfl ?_
    refine st (OK1.as (Has.t rfl)) rfl ?_
    refine nl ?_
    refine At.thn (hK9 _ _ ?_); clear hK9
    refine Tri.region ?_
    refine st (OK1.fieldAddr (Has.t rfl) fld55_2 ty53) rfl ?_
    refine st (OK1.load1 (Has.t rfl) (i := 1) rfl ty53 rfl) rfl ?_
    refine st (OK1.mv (Has.t rfl)) rfl ?_
    refine Ops.appendGK0 (fk := zc) (u := (false, [])) zc_len (by decide) (fun _ => inferInstance) sl53 ty59 zero59 (fun _ _ => ⟨rfl, nilM _ _, trivial⟩) by59 (Has.t rfl) (i := 0) rfl (Has.t rfl) (by rw [List.length_map, List.length_map]; omega) rfl fun gr1 => ?_
    refine Ops.memEq (M' := [grMK _ _ _, _, _]) rfl ?_
    refine st (OK1.fieldAddr (Has.t rfl) fld55_2 ty53) rfl ?_
    refine Ops.store (Has.t rfl) (Has.t rfl) (i := 1) rfl ty53 rfl rfl (Ss' := [_, _, _]) rfl (M' := [_, (some _, cellM [_, _, _]), _]) rfl ?_
    refine nl ?_
    refine At.bln ?_
    refine At.thn (hK8 _ _ ?_); clear hK8
    refine Tri.region ?_
    refine st (OK1.addI (Has.t rfl) (Has.cI 1 rfl) (by first | omega | assumption) (by first | omega | assumption)) rfl ?_
    refine st (OK1.mv (Has.t rfl)) rfl ?_
    refine nl ?_
    refine At.thn ?_
    refine hK5 (⟨(i + 1, gr1), by show i + 1 ≤ rs.length; omega⟩) _ _ ?_ (Cv.mem (.cons (t := 21) (Has.t' rfl ?_) (.cons (t := 2) (Has.t rfl) (.cons (t := 3) (Has.t rfl) (.cons (t := 19) (Has.t rfl) (.cons (t := 20) (Has.t rfl) .nil))))) ?_)
    · show rs.length - (i + 1) < rs.length - i; omega
    · exact isI_eq (by omega)
    · exact grF_eq (by rw [fltn_snoc hr, List.map_append, List.length_append]) (by rw [fltn_snoc hr, List.map_append])
  · have hc1 := BP.f hc1
    refine Tri.exit ?_
    refine At.the ?_
    refine At.the ?_
    refine At.blh ?_
    refine At.thn (hK3 _ _ ?_); clear hK3
    refine Tri.seq fun K10 hK10 => ?_
    refine Tri.cv (Cv.freezeF (k := 2) (i := 0) (j := 0) (o := 2) rfl rfl rfl rfl (gr_lenK zc_len) (gr_takeK zc_len) (Ss' := [_, _, SlK 2 zc ((fltn (rs.take i)).map nz)]) rfl) ?_
    refine Tri.memEq (M' := [(some _, cellM [_, _, SlK 2 zc ((fltn (rs.take i)).map nz)]), _]) rfl ?_
    refine Tri.cv (Cv.wk (.cons (t := 2) (Has.t rfl) (.cons (t := 3) (Has.t rfl) (.cons (t := 19) (Has.t rfl) (.cons (t := 20) (Has.t rfl) (.cons (t := 21) (Has.t rfl) (.cons (t := 22) (Has.t rfl) .nil))))))) ?_
    refine Tri.region ?_
    refine st (OK1.load (Has.t rfl) (i := 0) rfl ty55 rfl (Ss' := [_, _, _]) rfl) rfl ?_
    refine Ops.store (Has.t rfl) (Has.t rfl) (i := 1) rfl ty55 rfl rfl (Ss' := [_, _, _]) rfl (M' := [_, (some _, cellM [_, _, _])]) rfl ?_
    refine nl ?_
    refine At.thn (hK10 _ _ ?_); clear hK10
    refine Tri.cv (Cv.wk (.cons (t := 2) (Has.t rfl) .nil)) ?_
    refine Tri.ret ?_
    refine rt1 (.inl rfl) Try.results104 rfl (.cell rfl (i := 1) rfl ty55 rfl ?_ .nil)
    all_goals (exact isMz_eq (by rw [List.take_of_length_le (by omega)]))
set_option maxHeartbeats 4000000 in
theorem bareiss_RankX {R C K : Nat} {xs : List (Bool × List Nat)} (hx : Bd (vals xs) K) (hK1 : 1 ≤ K) (hR : R ≤ 64) (hC : C ≤ 64) (hl : xs.length = R * C) (hK : (K + 1) * 2 ^ R ≤ 100000000) : CtrX Try.prog 51 [isM (R : Int) (C : Int) xs] ([]) (fun S M => ∃ rs ps last odd, S = isTup [isI (ps.length : Int), isI 0] ∧ M = [] ∧ RunI ⟨rowsOf R C (vals xs), [], 1, false⟩ C K R C rs ps last odd) := by
  refine CtrX.intro Try.func51 rfl (by kernel_rfl) Try.ntmps51 rfl fun w0 F0 => ?_
  refine Tri.cv (Cv.wk (.cons (t := 0) (Has.t rfl) .nil)) ?_
  refine Tri.seq fun K1 hK1 => ?_
  refine Tri.region ?_
  refine Ops.box (Has.t rfl) rfl fun b1 => ?_
  refine st (OK1.as (Has.cI 0 rfl)) rfl ?_
  refine st (OK1.as (Has.cI 0 rfl)) rfl ?_
  refine nl ?_
  refine At.thn (hK1 _ _ ?_); clear hK1
  refine Tri.seq fun K2 hK2 => ?_
  refine Tri.region ?_
  refine st (OK1.load (Has.t rfl) (i := 0) rfl ty55 rfl (Ss' := [_, _, _]) rfl) rfl ?_
  refine Ops.callX (bareiss_done hx hK1 hR hC hl hK) (List.Perm.refl _) (.cons (Has.t rfl) .nil) rfl ?_
  rintro _ _ ⟨rs, ps, last, odd, rfl, rfl, hRun⟩
  have hpv := pv_len ps
  have hps := hRun.hps
  refine st (OK1.mv (Has.t rfl)) rfl ?_
  refine st (OK1.ext (Has.t rfl) rfl) rfl ?_
  refine st (OK1.ext (Has.t rfl) rfl) rfl ?_
  refine st (OK1.as (Has.t rfl)) rfl ?_
  refine st (OK1.as (Has.t rfl)) rfl ?_
  refine nl ?_
  refine At.thn (hK2 _ _ ?_); clear hK2
  refine Tri.cv (Cv.wk (.cons (t := 2) (Has.t rfl) (.cons (t := 3) (Has.t rfl) (.cons (t := 4) (Has.t rfl) (.cons (t := 5) (Has.t rfl) .nil))))) ?_
  refine Tri.seq fun K3 hK3 => ?_
  refine Tri.seq fun K4 hK4 => ?_
  refine Tri.region ?_
  refine st (OK1.mv (Has.t rfl)) rfl ?_
  refine st (OK1.neI (Has.t rfl) (Has.cI 0 rfl)) rfl ?_
  refine nl ?_
  refine At.thn (hK4 _ _ ?_); clear hK4
  refine Tri.cond (Has.t rfl) (fun hc1 => ?_) (fun hc1 => ?_)
  · have hc1 := BP.t hc1
    exact absurd rfl hc1
  · have hc1 := BP.f hc1
    skip
    refine Tri.skip ?_
    refine At.thn (hK3 _ _ ?_); clear hK3
    refine Tri.seq fun K5 hK5 => ?_
    refine Tri.region ?_
    refine st (OK1.mv (Has.t rfl)) rfl ?_
    refine st (OK1.nilcP (Has.t rfl)) rfl ?_
    refine st (OK1.fieldAddrP (Has.t rfl) fld111_2 ty32 (Ss' := [_, _, _, _]) rfl) rfl ?_
    refine st (OK1.loadP1 (Has.t rfl) ty32) rfl ?_
    refine st (OK1.len sl32 (Has.t rfl)) rfl ?_
    refine st (OK1.as (Has.t rfl)) rfl ?_
    refine st (OK1.as (Has.cI 0 rfl)) rfl ?_
    refine nl ?_
    refine At.thn (hK5 _ _ ?_); clear hK5
    refine Tri.cv (Cv.wk (.cons (t := 2) (Has.t rfl) (.cons (t := 3) (Has.t rfl) .nil))) ?_
    refine Tri.ret ?_
    refine rtXND (.cons _ .slnil) (.inl rfl) Try.results51 rfl rfl (.tmp (Has.t rfl) (.tmp (Has.t rfl) .nil)) ?_
    exact ⟨rs, ps, last, odd, congrArg (fun s => isTup [s, isI 0]) (isI_eq (by rw [hpv])), rfl, hRun⟩
set_option maxHeartbeats 4000000 in
theorem bareiss_Rank_bad {r c : Int} {xs : List (Bool × List Nat)} (hf : formB r c xs.length = false) : Ctr Try.prog 51 [isM r c xs] (isTup [isI 0, isI 2]) := by
  refine Ctr.intro Try.func51 rfl (by kernel_rfl) Try.ntmps51 rfl fun w0 F0 => ?_
  refine Tri.cv (Cv.wk (.cons (t := 0) (Has.t rfl) .nil)) ?_
  refine Tri.seq fun K1 hK1 => ?_
  refine Tri.region ?_
  refine Ops.box (Has.t rfl) rfl fun b1 => ?_
  refine st (OK1.as (Has.cI 0 rfl)) rfl ?_
  refine st (OK1.as (Has.cI 0 rfl)) rfl ?_
  refine nl ?_
  refine At.thn (hK1 _ _ ?_); clear hK1
  refine Tri.seq fun K2 hK2 => ?_
  refine Tri.region ?_
  refine st (OK1.load (Has.t rfl) (i := 0) rfl ty55 rfl (Ss' := [_, _, _]) rfl) rfl ?_
  refine st (OK1.call (bareiss_done_bad hf) (.cons (Has.t rfl) .nil)) rfl ?_
  refine st (OK1.mv (Has.t rfl)) rfl ?_
  refine st (OK1.ext (Has.t rfl) rfl) rfl ?_
  refine st (OK1.ext (Has.t rfl) rfl) rfl ?_
  refine st (OK1.as (Has.t rfl)) rfl ?_
  refine st (OK1.as (Has.t rfl)) rfl ?_
  refine nl ?_
  refine At.thn (hK2 _ _ ?_); clear hK2
  refine Tri.cv (Cv.wk (.cons (t := 2) (Has.t rfl) (.cons (t := 3) (Has.t rfl) (.cons (t := 4) (Has.t rfl) (.cons (t := 5) (Has.t rfl) .nil))))) ?_
  refine Tri.seq fun K3 hK3 => ?_
  refine Tri.seq fun K4 hK4 => ?_
  refine Tri.region ?_
  refine st (OK1.mv (Has.t rfl)) rfl ?_
  refine st (OK1.neI (Has.t rfl) (Has.cI 0 rfl)) rfl ?_
  refine nl ?_
  refine At.thn (hK4 _ _ ?_); clear hK4
  refine Tri.cond (Has.t rfl) (fun hc1 => ?_) (fun hc1 => ?_)
  · have hc1 := BP.t hc1
    refine Tri.seq fun K5 hK5 => ?_
    refine Tri.region ?_
    refine st (OK1.mv (Has.t rfl)) rfl ?_
    refine st (OK1.as (Has.cI 0 rfl)) rfl ?_
    refine st (OK1.as (Has.t rfl)) rfl ?_
    refine nl ?_
    refine At.thn (hK5 _ _ ?_); clear hK5
    refine Tri.ret ?_
    refine At.thr ?_
    refine rtN (.inl rfl) Try.results51 rfl rfl (.tmp (Has.t' rfl ?_) (.tmp (Has.t' rfl ?_) .nil))
    · rfl
    · rfl
  · have hc1 := BP.f hc1
    exfalso; simp at hc1
set_option maxHeartbeats 4000000 in
theorem bareiss_EchelonX {R C K : Nat} {xs : List (Bool × List Nat)} (hx : Bd (vals xs) K) (hK1 : 1 ≤ K) (hR : R ≤ 64) (hC : C ≤ 64) (hl : xs.length = R * C) (hK : (K + 1) * 2 ^ R ≤ 100000000) : CtrX Try.prog 52 [isM (R : Int) (C : Int) xs] ([]) (fun S M => ∃ rs ps last odd, ∃ L : List Int, S = isTup [isMz rs.length C L, SlM isI (pv ps), isI 0] ∧ M = [] ∧ RunI ⟨rowsOf R C (vals xs), [], 1, false⟩ C K R C rs ps last odd) := by
  refine CtrX.intro Try.func52 rfl (by kernel_rfl) Try.ntmps52 rfl fun w0 F0 => ?_
  refine Tri.cv (Cv.wk (.cons (t := 0) (Has.t rfl) .nil)) ?_
  refine Tri.seq fun K1 hK1 => ?_
  refine Tri.region ?_
  refine Ops.box (Has.t rfl) rfl fun b1 => ?_
  refine Ops.alloc [isI 0, isI 0, nilS] zero55 (fun _ _ => ⟨⟨rfl, by decide, by decide⟩, ⟨rfl, by decide, by decide⟩, rfl, trivial⟩) rfl fun b2 => ?_
  refine st (OK1.as (Has.cW (f := isI))) rfl ?_
  refine st (OK1.as (Has.cI 0 rfl)) rfl ?_
  refine nl ?_
  refine At.thn (hK1 _ _ ?_); clear hK1
  refine Tri.seq fun K2 hK2 => ?_
  refine Tri.region ?_
  refine st (OK1.load (Has.t rfl) (i := 1) rfl ty55 rfl (Ss' := [_, _, _]) rfl) rfl ?_
  refine Ops.callX (bareiss_done hx hK1 hR hC hl hK) (List.Perm.refl _) (.cons (Has.t rfl) .nil) rfl ?_
  rintro _ _ ⟨rs, ps, last, odd, rfl, rfl, hRun⟩
  have hpv := pv_len ps
  have hps := hRun.hps
  refine st (OK1.mv (Has.t rfl)) rfl ?_
  refine st (OK1.ext (Has.t rfl) rfl) rfl ?_
  refine st (OK1.ext (Has.t rfl) rfl) rfl ?_
  refine st (OK1.as (Has.t rfl)) rfl ?_
  refine st (OK1.as (Has.t rfl)) rfl ?_
  refine nl ?_
  refine At.thn (hK2 _ _ ?_); clear hK2
  refine Tri.cv (Cv.wk (.cons (t := 2) (Has.t rfl) (.cons (t := 3) (Has.t rfl) (.cons (t := 4) (Has.t rfl) (.cons (t := 5) (Has.t rfl) (.cons (t := 6) (Has.t rfl) .nil)))))) ?_
  refine Tri.seq fun K3 hK3 => ?_
  refine Tri.seq fun K4 hK4 => ?_
  refine Tri.region ?_
  refine st (OK1.mv (Has.t rfl)) rfl ?_
  refine st (OK1.neI (Has.t rfl) (Has.cI 0 rfl)) rfl ?_
  refine nl ?_
  refine At.thn (hK4 _ _ ?_); clear hK4
  refine Tri.cond (Has.t rfl) (fun hc1 => ?_) (fun hc1 => ?_)
  · have hc1 := BP.t hc1
    exact absurd rfl hc1
  · have hc1 := BP.f hc1
    skip
    refine Tri.skip ?_
    refine At.thn (hK3 _ _ ?_); clear hK3
    refine Tri.seq fun K5 hK5 => ?_
    refine Tri.drh [false, true] (Ms := [_]) rfl ?_
    refine DrH.st (i := 0) [] rfl rfl rfl (by kernel_rfl) (OKG.o rfl (OK1.mv (Has.t rfl))) ?_
    refine DrH.st (i := 1) [16] rfl rfl rfl (by kernel_rfl) (OKG.o rfl (OK1.eq (OK1.call (bareiss_matrix (fun r hr => by obtain ⟨q, hq, rfl⟩ := List.mem_map.1 hr; have := hRun.hrow q hq; omega) (by rw [List.length_map]; have := hRun.hlen; omega)) (.cons (Has.t rfl) .nil)) ((show _ = isMz rs.length C (fltn (rs.map Prod.snd)) from by rw [List.length_map])))) ?_
    refine DrH.st (i := 2) [] rfl rfl rfl (by kernel_rfl) (OKG.o rfl (OK1.mv (Has.t rfl))) ?_
    refine DrH.st (i := 3) [18] rfl rfl rfl (by kernel_rfl) (OKG.o rfl (OK1.nilcP (Has.t rfl))) ?_
    refine DrH.st (i := 4) [19] rfl rfl rfl (by kernel_rfl) (OKG.o rfl (OK1.fieldAddrP (Has.t rfl) fld111_2 ty32 (Ss' := [_, _, _, _]) rfl)) ?_
    refine DrH.st (i := 5) [20] rfl rfl rfl (by kernel_rfl) (OKG.o rfl (OK1.loadP1 (Has.t rfl) ty32)) ?_
    refine DrH.mid (.cons _ (.cons_cons _ .slnil)) ?_
    refine DrM.st [17] rfl rfl (by kernel_rfl) (by kernel_rfl) (StS.store (Has.t rfl) (Has.t rfl) (i := 0) rfl ty55 rfl rfl (Ss' := [_, _, _]) rfl (M' := [(some _, cellM [_, _, _]), _]) rfl) (.cons _ (.cons_cons _ .slnil)) ?_
    refine DrM.fin (n := 7) mixed rfl (by kernel_rfl) (by kernel_rfl) (by kernel_rfl) ?_
    refine Ops.cv (Cv.wk (.cons (t := 2) (Has.t rfl) (.cons (t := 3) (Has.t rfl) (.cons (t := 4) (Has.t rfl) (.cons (t := 21) (Has.t rfl) .nil))))) ?_
    refine st (OK1.as (Has.t rfl)) rfl ?_
    refine st (OK1.as (Has.cI 0 rfl)) rfl ?_
    refine nl ?_
    refine At.thn (hK5 _ _ ?_); clear hK5
    refine Tri.ret ?_
    refine rtXND (.cons _ (.cons _ .slnil)) (.inl rfl) Try.results52 rfl rfl (.cell rfl (i := 0) rfl ty55 rfl rfl (.tmp (Has.t rfl) (.tmp (Has.t rfl) .nil))) ?_
    exact ⟨rs, ps, last, odd, fltn (rs.map Prod.snd), rfl, rfl, hRun⟩
set_option maxHeartbeats 4000000 in
theorem bareiss_Echelon_bad {r c : Int} {xs : List (Bool × List Nat)} (hf : formB r c xs.length = false) : Ctr Try.prog 52 [isM r c xs] (isTup [isM0, SlM isI [], isI 2]) := by
  refine Ctr.intro Try.func52 rfl (by kernel_rfl) Try.ntmps52 rfl fun w0 F0 => ?_
  refine Tri.cv (Cv.wk (.cons (t := 0) (Has.t rfl) .nil)) ?_
  refine Tri.seq fun K1 hK1 => ?_
  refine Tri.region ?_
  refine Ops.box (Has.t rfl) rfl fun b1 => ?_
  refine Ops.alloc [isI 0, isI 0, SlK 2 zc ([] : List (Bool × List Nat))] zero55 (fun _ _ => ⟨⟨rfl, by decide, by decide⟩, ⟨rfl, by decide, by decide⟩, nilK, trivial⟩) rfl fun b2 => ?_
  refine st (OK1.as (Has.cW (f := isI))) rfl ?_
  refine st (OK1.as (Has.cI 0 rfl)) rfl ?_
  refine nl ?_
  refine At.thn (hK1 _ _ ?_); clear hK1
  refine Tri.seq fun K2 hK2 => ?_
  refine Tri.region ?_
  refine st (OK1.load (Has.t rfl) (i := 1) rfl ty55 rfl (Ss' := [_, _, _]) rfl) rfl ?_
  refine st (OK1.call (bareiss_done_bad hf) (.cons (Has.t rfl) .nil)) rfl ?_
  refine st (OK1.mv (Has.t rfl)) rfl ?_
  refine st (OK1.ext (Has.t rfl) rfl) rfl ?_
  refine st (OK1.ext (Has.t rfl) rfl) rfl ?_
  refine st (OK1.as (Has.t rfl)) rfl ?_
  refine st (OK1.as (Has.t rfl)) rfl ?_
  refine nl ?_
  refine At.thn (hK2 _ _ ?_); clear hK2
  refine Tri.cv (Cv.wk (.cons (t := 2) (Has.t rfl) (.cons (t := 3) (Has.t rfl) (.cons (t := 4) (Has.t rfl) (.cons (t := 5) (Has.t rfl) (.cons (t := 6) (Has.t rfl) .nil)))))) ?_
  refine Tri.seq fun K3 hK3 => ?_
  refine Tri.seq fun K4 hK4 => ?_
  refine Tri.region ?_
  refine st (OK1.mv (Has.t rfl)) rfl ?_
  refine st (OK1.neI (Has.t rfl) (Has.cI 0 rfl)) rfl ?_
  refine nl ?_
  refine At.thn (hK4 _ _ ?_); clear hK4
  refine Tri.cond (Has.t rfl) (fun hc1 => ?_) (fun hc1 => ?_)
  · have hc1 := BP.t hc1
    refine Tri.seq fun K5 hK5 => ?_
    refine Tri.region ?_
    refine st (OK1.build [isI 0, isI 0, SlK 2 zc ([] : List (Bool × List Nat))] pl55 zero55 (fun _ _ => ⟨⟨rfl, by decide, by decide⟩, ⟨rfl, by decide, by decide⟩, nilK, trivial⟩) .nil (Z'' := [_, _, _]) rfl) rfl ?_
    refine st (OK1.mv (Has.t rfl)) rfl ?_
    refine Ops.store (Has.t rfl) (Has.t rfl) (i := 0) rfl ty55 rfl rfl (Ss' := [_, _, _]) rfl (M' := [(some _, cellM [_, _, _]), _]) rfl ?_
    refine st (OK1.as (Has.cW (f := isI))) rfl ?_
    refine st (OK1.as (Has.t rfl)) rfl ?_
    refine nl ?_
    refine At.thn (hK5 _ _ ?_); clear hK5
    refine Tri.cv (Cv.wk (.cons (t := 2) (Has.t rfl) (.cons (t := 3) (Has.t rfl) (.cons (t := 4) (Has.t rfl) (.cons (t := 5) (Has.t rfl) .nil))))) ?_
    refine Tri.ret ?_
    refine At.thr ?_
    refine rtN (.inl rfl) Try.results52 rfl rfl (.cell rfl (i := 0) rfl ty55 rfl ?_ (.tmp (Has.t' rfl ?_) (.tmp (Has.t' rfl ?_) .nil)))
    · rfl
    · rfl
    · rfl
  · have hc1 := BP.f hc1
    exfalso; simp at hc1
end Go.Proofs.Ytfoclelageohiaa
/- Contracts: a determinant. -/
namespace Go.Proofs.Ytfoclelageohiaa
open Go.En Go.RowKit
set_option linter.unusedVariables false
set_option maxRecDepth 10000
open Go.Nt
open Go.Pz
open Go.Mz
open Go.Dt
theorem bareiss_Det {R K : Nat} {xs : List (Bool × List Nat)} (hx : Bd (vals xs) K) (hK1 : 1 ≤ K) (hR : R ≤ 64) (hl : xs.length = R * R) (hK : (K + 1) * 2 ^ R ≤ 100000000) : Ctr Try.prog 43 [isM (R : Int) (R : Int) xs] (isTup [isZ (det R (mf R (vals xs))), isI 0]) :=
  (bareiss_DetX hx hK1 hR hl hK).toCtr fun S' M' hh => by
    obtain ⟨rs, ps, last, odd, e, hr⟩ := hh
    obtain ⟨q, hq⟩ := BI.all (BI.start (mf R (vals xs)) (R := R) (C := R) (L := vals xs) fun _ _ _ _ => rfl) hr.run (Nat.le_refl _)
    have hd := hq.detE
    simp only [] at hd
    rw [e, ← hd]
end Go.Proofs.Ytfoclelageohiaa
/- Contracts: what the laws of layer 12 share. -/
namespace Go.Proofs.Ytfoclelageohiaa
open Go.En Go.RowKit
set_option linter.unusedVariables false
set_option maxRecDepth 10000
open Go.Nt
open Go.Pz
open Go.Mz
open Go.Dt
theorem aw12 : det 2 (mf 2 (vals ([1, 2, 3, 4].map nz))) = -2 := by rw [vals_nz]; decide
theorem aw12_tab : tab (2 * 2) 2 (fun i k => cf [1, 2, 3, 4] (i * 2 + k)) = [1, 2, 3, 4] := by decide
theorem aw12_b : Bd [1, 2, 3, 4] 1 := bd64 (by decide)
theorem aw12_2 : (List.length (words (-2 : Int).natAbs)) ≤ 1 := nw_small' (by decide)
set_option maxHeartbeats 4000000 in
theorem law12_awake  : Ctr Try.prog 41 [] (isB true) := by
  refine Ctr.intro Try.func41 rfl (by kernel_rfl) Try.ntmps41 rfl fun w0 F0 => ?_
  refine Tri.cv (Cv.wk .nil) ?_
  refine Tri.seq fun K1 hK1 => ?_
  refine Tri.region ?_
  refine st (OK1.as (Has.cB false)) rfl ?_
  refine nl ?_
  refine At.thn (hK1 _ _ ?_); clear hK1
  refine Tri.seq fun K2 hK2 => ?_
  refine Tri.region ?_
  refine st (OK1.buildS [isI 0, isI 0, isI 0, isI 0] sl132 ty2 zero2 (fun _ _ => ⟨⟨rfl, by decide, by decide⟩, ⟨rfl, by decide, by decide⟩, ⟨rfl, by decide, by decide⟩, ⟨rfl, by decide, by decide⟩, trivial⟩) rfl rfl (.cons (Has.cI 1 rfl) rfl rfl rfl (.cons (Has.cI 2 rfl) rfl rfl rfl (.cons (Has.cI 3 rfl) rfl rfl rfl (.cons (Has.cI 4 rfl) rfl rfl rfl .nil)))) rfl (S := SlM isI [_, _, _, _]) rfl) rfl ?_
  refine st (OK1.eq (OK1.call (zmat_Of (R := 2) (C := 2) (l := [1, 2, 3, 4]) (by decide) (by decide) rfl (by decide)) (.cons (Has.cI 2 rfl) (.cons (Has.cI 2 rfl) (.cons (Has.t rfl) .nil)))) ((show isTup [isMz 2 2 _, isI 0] = isTup [isMz 2 2 [1, 2, 3, 4], isI 0] from by rw [aw12_tab]))) rfl ?_
  refine st (OK1.mv (Has.t rfl)) rfl ?_
  refine st (OK1.ext (Has.t rfl) rfl) rfl ?_
  refine st (OK1.ext (Has.t rfl) rfl) rfl ?_
  refine Ops.alloc [isI 0, isI 0, nilS] zero55 (fun _ _ => ⟨⟨rfl, by decide, by decide⟩, ⟨rfl, by decide, by decide⟩, rfl, trivial⟩) rfl fun b1 => ?_
  refine Ops.store (Has.t rfl) (Has.t rfl) (i := 0) rfl ty55 rfl rfl (Ss' := [_, _, _]) rfl (M' := [(some _, cellM [_, _, _])]) rfl ?_
  refine st (OK1.as (Has.t rfl)) rfl ?_
  refine nl ?_
  refine At.thn (hK2 _ _ ?_); clear hK2
  refine Tri.cv (Cv.wk (.cons (t := 0) (Has.t rfl) (.cons (t := 1) (Has.t rfl) .nil))) ?_
  refine Tri.seq fun K3 hK3 => ?_
  refine Tri.region ?_
  refine st (OK1.load (Has.t rfl) (i := 0) rfl ty55 rfl (Ss' := [_, _, _]) rfl) rfl ?_
  refine st (OK1.eq (OK1.call (bareiss_Det (R := 2) (K := 1) (xs := [1, 2, 3, 4].map nz) (by rw [vals_nz]; exact aw12_b) (by decide) (by decide) rfl (by decide)) (.cons (Has.t rfl) .nil)) ((show isTup [isZ _, isI 0] = isTup [isZ (-2), isI 0] from by rw [aw12]))) rfl ?_
  refine st (OK1.mv (Has.t rfl)) rfl ?_
  refine st (OK1.ext (Has.t rfl) rfl) rfl ?_
  refine st (OK1.ext (Has.t rfl) rfl) rfl ?_
  refine Ops.alloc [isB false, SlM isU []] zero59 (fun _ _ => ⟨rfl, nilM _ _, trivial⟩) rfl fun b2 => ?_
  refine Ops.store (Has.t rfl) (Has.t rfl) (i := 0) rfl ty59 rfl rfl (Ss' := [_, _]) rfl (M' := [(some _, cellM [_, _]), _]) rfl ?_
  refine st (OK1.as (Has.t rfl)) rfl ?_
  refine nl ?_
  refine At.thn (hK3 _ _ ?_); clear hK3
  refine Tri.cv (Cv.wk (.cons (t := 0) (Has.t rfl) (.cons (t := 3) (Has.t rfl) (.cons (t := 4) (Has.t rfl) .nil)))) ?_
  refine Tri.seq fun K4 hK4 => ?_
  refine Tri.dr ?_
  refine DrG.st (i := 0) [] rfl rfl rfl (by kernel_rfl) (OKG.o rfl (OK1.mv (Has.t rfl))) ?_
  refine DrG.st (i := 1) [15] rfl rfl rfl (by kernel_rfl) (OKG.o rfl (OK1.eqI (Has.t rfl) (Has.cI 0 rfl))) ?_
  refine DrG.st (i := 2) [16] rfl rfl rfl (by kernel_rfl) (OKG.o rfl (OK1.mv (Has.t rfl))) ?_
  refine DrG.st (i := 3) [17] rfl rfl rfl (by kernel_rfl) (OKG.T rfl rfl rfl (fun hg => have hg' := BP.t hg; OK1.load (Has.t rfl) (i := 0) rfl ty59 rfl (Ss' := [_, _]) rfl)) ?_
  refine DrG.st (i := 4) [17] rfl rfl rfl (by kernel_rfl) (OKG.T rfl rfl rfl (fun hg => have hg' := BP.t hg; OK1.call (zint_Of) (.cons (Has.cI (-2) rfl) .nil))) ?_
  refine DrG.fin (n := 5) mixed (by kernel_rfl) (by kernel_rfl) (by kernel_rfl) ?_
  refine Ops.cv (Cv.wk (.cons (t := 0) (Has.t rfl) (.cons (t := 3) (Has.t rfl) (.cons (t := 17) (Has.t rfl) (.cons (t := 18) (Has.t rfl) (.cons (t := 19) (Has.t rfl) .nil)))))) ?_
  refine stT rfl rfl (fun hg => have hg' := BP.t hg; OK1.eq (OK1.call (zint_Same (by rw [val_words]; exact Nat.le_trans (Nat.succ_le_succ aw12_2) (by decide)) (by rw [val_words]; exact Nat.le_trans (Nat.succ_le_succ aw12_2) (by decide))) (.cons (Has.g rfl hg) (.cons (Has.g rfl hg) .nil))) ((show isB _ = isB true from isB_eq (decide_eq_true (by first | rfl | simp only [zv_nf]))))) rfl ?_
  refine st (OK1.pickAnd (Has.t rfl) (fun h => Has.g rfl h)) rfl ?_
  refine st (OK1.mv (Has.t rfl)) rfl ?_
  refine stT rfl rfl (fun hg => have hg' := BP.t hg; OK1.load (Has.t rfl) (i := 0) rfl ty59 rfl (Ss' := [_, _]) rfl) rfl ?_
  refine stT rfl rfl (fun hg => have hg' := BP.t hg; OK1.eq (OK1.call (zint_Sign (by rw [val_words]; exact Nat.le_trans (Nat.succ_le_succ aw12_2) (by decide))) (.cons (Has.g rfl hg) .nil)) ((show isI _ = isI (-1) from isI_eq (by rw [zv_nf]; rfl)))) rfl ?_
  refine stT rfl rfl (fun hg => have hg' := BP.t hg; OK1.eqI (Has.g rfl hg) (Has.cI (-1) rfl)) rfl ?_
  refine st (OK1.pickAnd (Has.t rfl) (fun h => Has.g rfl h)) rfl ?_
  refine st (OK1.as (Has.t rfl)) rfl ?_
  refine nl ?_
  refine At.thn (hK4 _ _ ?_); clear hK4
  refine Tri.cv (Cv.wk (.cons (t := 0) (Has.t rfl) .nil)) ?_
  refine Tri.ret ?_
  refine rt1 (.inl rfl) Try.results41 rfl (.tmp (Has.t' rfl ?_) .nil)
  all_goals (rfl)
end Go.Proofs.Ytfoclelageohiaa
/- A law of layer 12: ranks, as a contract. -/
namespace Go.Proofs.Ytfoclelageohiaa
open Go.En Go.RowKit
set_option linter.unusedVariables false
set_option maxRecDepth 10000
open Go.Nt
open Go.Pz
open Go.Mz
open Go.Dt
set_option maxHeartbeats 4000000 in
theorem ref11_None12 {r c : Int} {xs : List (Bool × List Nat)} : Ctr Try.prog 54 [isM r c xs] (isB (decide (r = 0) && decide (c = 0) && decide ((xs.length : Int) = 0))) := by
  refine Ctr.intro Try.func54 rfl (by kernel_rfl) Try.ntmps54 rfl fun w0 F0 => ?_
  refine Tri.cv (Cv.wk (.cons (t := 0) (Has.t rfl) .nil)) ?_
  refine Tri.seq fun K1 hK1 => ?_
  refine Tri.region ?_
  refine Ops.box (Has.t rfl) rfl fun b1 => ?_
  refine st (OK1.as (Has.cB false)) rfl ?_
  refine nl ?_
  refine At.thn (hK1 _ _ ?_); clear hK1
  refine Tri.seq fun K2 hK2 => ?_
  refine Tri.region ?_
  refine st (OK1.fieldAddr (Has.t rfl) fld55_0 ty3) rfl ?_
  refine st (OK1.load1 (Has.t rfl) (i := 0) rfl ty3 rfl) rfl ?_
  refine st (OK1.eqI (Has.t rfl) (Has.cI 0 rfl)) rfl ?_
  refine st (OK1.mv (Has.t rfl)) rfl ?_
  refine stT rfl rfl (fun hg => have hg' := BP.t hg; OK1.fieldAddr (Has.t rfl) fld55_1 ty3) rfl ?_
  refine stT rfl rfl (fun hg => have hg' := BP.t hg; OK1.load1 (Has.g rfl hg) (i := 0) rfl ty3 rfl) rfl ?_
  refine stT rfl rfl (fun hg => have hg' := BP.t hg; OK1.eqI (Has.g rfl hg) (Has.cI 0 rfl)) rfl ?_
  refine st (OK1.pickAnd (Has.t rfl) (fun h => Has.g rfl h)) rfl ?_
  refine st (OK1.mv (Has.t rfl)) rfl ?_
  refine stT rfl rfl (fun hg => have hg' := BP.t hg; OK1.fieldAddr (Has.t rfl) fld55_2 ty53) rfl ?_
  refine stT rfl rfl (fun hg => have hg' := BP.t hg; OK1.load1 (Has.g rfl hg) (i := 0) rfl ty53 rfl) rfl ?_
  refine stT rfl rfl (fun hg => have hg' := BP.t hg; OK1.len sl53 (Has.g rfl hg)) rfl ?_
  refine stT rfl rfl (fun hg => have hg' := BP.t hg; OK1.eqI (Has.g rfl hg) (Has.cI 0 rfl)) rfl ?_
  refine st (OK1.pickAnd (Has.t rfl) (fun h => Has.g rfl h)) rfl ?_
  refine st (OK1.as (Has.t rfl)) rfl ?_
  refine nl ?_
  refine At.thn (hK2 _ _ ?_); clear hK2
  refine Tri.cv (Cv.wk (.cons (t := 2) (Has.t rfl) .nil)) ?_
  refine Tri.ret ?_
  refine rt1 (.inl rfl) Try.results54 rfl (.tmp (Has.t' rfl ?_) .nil)
  all_goals (rfl)
set_option maxHeartbeats 4000000 in
theorem c_BareissRanks_bad (r c : Int) (xs : List (Bool × List Nat)) (hf : formB r c xs.length = false) : Ctr Try.prog 10 [isM r c xs] (isB true) := by
  refine Ctr.intro Try.func10 rfl (by kernel_rfl) Try.ntmps10 rfl fun w0 F0 => ?_
  refine Tri.cv (Cv.wk (.cons (t := 0) (Has.t rfl) .nil)) ?_
  refine Tri.seq fun K1 hK1 => ?_
  refine Tri.region ?_
  refine Ops.box (Has.t rfl) rfl fun b1 => ?_
  refine st (OK1.as (Has.cB false)) rfl ?_
  refine nl ?_
  refine At.thn (hK1 _ _ ?_); clear hK1
  refine Tri.seq fun K2 hK2 => ?_
  refine Tri.seq fun K3 hK3 => ?_
  refine Tri.region ?_
  refine st (OK1.call (law12_awake) .nil) rfl ?_
  refine st (OK1.not (Has.t rfl)) rfl ?_
  refine st (OK1.mv (Has.t rfl)) rfl ?_
  refine stF rfl rfl (fun hg => have hg' := BP.t hg; OK1.load (Has.t rfl) (i := 0) rfl ty55 rfl (Ss' := [_, _, _]) rfl) rfl ?_
  refine stF rfl rfl (fun hg => have hg' := BP.t hg; OK1.call (ref11_Few) (.cons (Has.g rfl hg) (.cons (Has.cI 4 rfl) (.cons (Has.cI 2 rfl) .nil)))) rfl ?_
  refine stF rfl rfl (fun hg => have hg' := BP.t hg; OK1.not (Has.g rfl hg)) rfl ?_
  refine st (OK1.pickOr (Has.t rfl) (fun h => Has.g rfl (ng h))) rfl ?_
  refine nl ?_
  refine At.thn (hK3 _ _ ?_); clear hK3
  refine Tri.cv (Cv.wk (.cons (t := 1) (Has.t rfl) (.cons (t := 2) (Has.t rfl) (.cons (t := 15) (Has.t rfl) .nil)))) ?_
  refine Tri.cond (Has.t rfl) (fun hc1 => ?_) (fun hc1 => ?_)
  · have hc1 := BP.t hc1
    refine Tri.seq fun K4 hK4 => ?_
    refine Tri.region ?_
    refine st (OK1.call (law12_awake) .nil) rfl ?_
    refine st (OK1.as (Has.t rfl)) rfl ?_
    refine nl ?_
    refine At.thn (hK4 _ _ ?_); clear hK4
    refine Tri.ret ?_
    refine At.thr ?_
    refine rt1 (.inl rfl) Try.results10 rfl (.tmp (Has.t' rfl ?_) .nil)
    all_goals (rfl)
  · have hc1 := BP.f hc1
    refine Tri.skip ?_
    refine At.thn (hK2 _ _ ?_); clear hK2
    refine Tri.seq fun K5 hK5 => ?_
    refine Tri.region ?_
    refine st (OK1.load (Has.t rfl) (i := 0) rfl ty55 rfl (Ss' := [_, _, _]) rfl) rfl ?_
    refine st (OK1.call (bareiss_Rank_bad hf) (.cons (Has.t rfl) .nil)) rfl ?_
    refine st (OK1.mv (Has.t rfl)) rfl ?_
    refine st (OK1.ext (Has.t rfl) rfl) rfl ?_
    refine st (OK1.ext (Has.t rfl) rfl) rfl ?_
    refine st (OK1.as (Has.t rfl)) rfl ?_
    refine st (OK1.as (Has.t rfl)) rfl ?_
    refine nl ?_
    refine At.thn (hK5 _ _ ?_); clear hK5
    refine Tri.cv (Cv.wk (.cons (t := 1) (Has.t rfl) (.cons (t := 2) (Has.t rfl) (.cons (t := 3) (Has.t rfl) (.cons (t := 4) (Has.t rfl) .nil))))) ?_
    refine Tri.seq fun K6 hK6 => ?_
    refine Tri.region ?_
    refine st (OK1.load (Has.t rfl) (i := 0) rfl ty55 rfl (Ss' := [_, _, _]) rfl) rfl ?_
    refine st (OK1.call (bareiss_Echelon_bad hf) (.cons (Has.t rfl) .nil)) rfl ?_
    refine st (OK1.mv (Has.t rfl)) rfl ?_
    refine st (OK1.ext (Has.t rfl) rfl) rfl ?_
    refine st (OK1.ext (Has.t rfl) rfl) rfl ?_
    refine st (OK1.ext (Has.t rfl) rfl) rfl ?_
    refine Ops.alloc [isI 0, isI 0, nilS] zero55 (fun _ _ => ⟨⟨rfl, by decide, by decide⟩, ⟨rfl, by decide, by decide⟩, rfl, trivial⟩) rfl fun b2 => ?_
    refine Ops.store (Has.t rfl) (Has.t rfl) (i := 0) rfl ty55 rfl rfl (Ss' := [_, _, _]) rfl (M' := [(some _, cellM [_, _, _]), _]) rfl ?_
    refine st (OK1.as (Has.t rfl)) rfl ?_
    refine st (OK1.as (Has.t rfl)) rfl ?_
    refine nl ?_
    refine At.thn (hK6 _ _ ?_); clear hK6
    refine Tri.cv (Cv.wk (.cons (t := 1) (Has.t rfl) (.cons (t := 2) (Has.t rfl) (.cons (t := 3) (Has.t rfl) (.cons (t := 4) (Has.t rfl) (.cons (t := 5) (Has.t rfl) (.cons (t := 6) (Has.t rfl) (.cons (t := 7) (Has.t rfl) .nil)))))))) ?_
    refine Tri.seq fun K7 hK7 => ?_
    refine Tri.seq fun K8 hK8 => ?_
    refine Tri.region ?_
    refine st (OK1.load (Has.t rfl) (i := 1) rfl ty55 rfl (Ss' := [_, _, _]) rfl) rfl ?_
    refine st (OK1.eq (OK1.call (ref11_Formed) (.cons (Has.t rfl) .nil)) ((show isB _ = isB false from isB_eq hf))) rfl ?_
    refine st (OK1.not (Has.t rfl)) rfl ?_
    refine nl ?_
    refine At.thn (hK8 _ _ ?_); clear hK8
    refine Tri.cond (Has.t rfl) (fun hc2 => ?_) (fun hc2 => ?_)
    · have hc2 := BP.t hc2
      refine Tri.seq fun K9 hK9 => ?_
      refine Tri.region ?_
      refine st (OK1.mv (Has.t rfl)) rfl ?_
      refine st (OK1.eqI (Has.t rfl) (Has.cI 2 rfl)) rfl ?_
      refine st (OK1.mv (Has.t rfl)) rfl ?_
      refine stT rfl rfl (fun hg => have hg' := BP.t hg; OK1.mv (Has.t rfl)) rfl ?_
      refine stT rfl rfl (fun hg => have hg' := BP.t hg; OK1.eqI (Has.g rfl hg) (Has.cI 2 rfl)) rfl ?_
      refine st (OK1.pickAnd (Has.t rfl) (fun h => Has.g rfl h)) rfl ?_
      refine st (OK1.mv (Has.t rfl)) rfl ?_
      refine stT rfl rfl (fun hg => have hg' := BP.t hg; OK1.mv (Has.t rfl)) rfl ?_
      refine stT rfl rfl (fun hg => have hg' := BP.t hg; OK1.eqI (Has.g rfl hg) (Has.cI 0 rfl)) rfl ?_
      refine st (OK1.pickAnd (Has.t rfl) (fun h => Has.g rfl h)) rfl ?_
      refine st (OK1.mv (Has.t rfl)) rfl ?_
      refine stT rfl rfl (fun hg => have hg' := BP.t hg; OK1.load (Has.t rfl) (i := 0) rfl ty55 rfl (Ss' := [_, _, _]) rfl) rfl ?_
      refine stT rfl rfl (fun hg => have hg' := BP.t hg; OK1.call (ref11_None12 (r := 0) (c := 0) (xs := [])) (.cons (Has.g rfl hg) .nil)) rfl ?_
      refine st (OK1.pickAnd (Has.t rfl) (fun h => Has.g rfl h)) rfl ?_
      refine st (OK1.mv (Has.t rfl)) rfl ?_
      refine stT rfl rfl (fun hg => have hg' := BP.t hg; OK1.mv (Has.t rfl)) rfl ?_
      refine stT rfl rfl (fun hg => have hg' := BP.t hg; OK1.len sl32 (Has.g rfl hg)) rfl ?_
      refine stT rfl rfl (fun hg => have hg' := BP.t hg; OK1.eqI (Has.g rfl hg) (Has.cI 0 rfl)) rfl ?_
      refine st (OK1.pickAnd (Has.t rfl) (fun h => Has.g rfl h)) rfl ?_
      refine st (OK1.as (Has.t rfl)) rfl ?_
      refine nl ?_
      refine At.thn (hK9 _ _ ?_); clear hK9
      refine Tri.cv (Cv.wk (.cons (t := 1) (Has.t rfl) (.cons (t := 2) (Has.t rfl) (.cons (t := 3) (Has.t rfl) (.cons (t := 4) (Has.t rfl) (.cons (t := 6) (Has.t rfl) (.cons (t := 7) (Has.t rfl) .nil))))))) ?_
      refine Tri.ret ?_
      refine At.thr ?_
      refine rt1 (.inl rfl) Try.results10 rfl (.tmp (Has.t' rfl ?_) .nil)
      all_goals (rfl)
    · have hc2 := BP.f hc2
      exfalso; simp at hc2
set_option maxHeartbeats 4000000 in
theorem c_BareissRanks_ok (R C : Nat) (xs : List (Bool × List Nat)) (hR : R ≤ 64) (hC : C ≤ 64) (hl : xs.length = R * C) : CtrX Try.prog 10 [isM (R : Int) (C : Int) xs] ([]) (fun S M => S = isB true) := by
  refine CtrX.intro Try.func10 rfl (by kernel_rfl) Try.ntmps10 rfl fun w0 F0 => ?_
  refine Tri.cv (Cv.wk (.cons (t := 0) (Has.t rfl) .nil)) ?_
  refine Tri.fact (Has.okM (Has.t (t := 0) rfl)) fun okp0 => ?_
  have hfo := formB_true hR hC hl
  obtain ⟨pl, hpl⟩ : ∃ pl, pl = (pivs (mf C (vals xs)) R C) := ⟨_, rfl⟩
  have hpp := pv_len pl
  refine Tri.seq fun K1 hK1 => ?_
  refine Tri.region ?_
  refine Ops.box (Has.t rfl) rfl fun b1 => ?_
  refine st (OK1.as (Has.cB false)) rfl ?_
  refine nl ?_
  refine At.thn (hK1 _ _ ?_); clear hK1
  refine Tri.seq fun K2 hK2 => ?_
  refine Tri.seq fun K3 hK3 => ?_
  refine Tri.region ?_
  refine st (OK1.call (law12_awake) .nil) rfl ?_
  refine st (OK1.not (Has.t rfl)) rfl ?_
  refine st (OK1.mv (Has.t rfl)) rfl ?_
  refine stF rfl rfl (fun hg => have hg' := BP.t hg; OK1.load (Has.t rfl) (i := 0) rfl ty55 rfl (Ss' := [_, _, _]) rfl) rfl ?_
  refine stF rfl rfl (fun hg => have hg' := BP.t hg; OK1.call (ref11_Few) (.cons (Has.g rfl hg) (.cons (Has.cI 4 rfl) (.cons (Has.cI 2 rfl) .nil)))) rfl ?_
  refine stF rfl rfl (fun hg => have hg' := BP.t hg; OK1.not (Has.g rfl hg)) rfl ?_
  refine st (OK1.pickOr (Has.t rfl) (fun h => Has.g rfl (ng h))) rfl ?_
  refine nl ?_
  refine At.thn (hK3 _ _ ?_); clear hK3
  refine Tri.cv (Cv.wk (.cons (t := 1) (Has.t rfl) (.cons (t := 2) (Has.t rfl) (.cons (t := 15) (Has.t rfl) .nil)))) ?_
  refine Tri.cond (Has.t rfl) (fun hc1 => ?_) (fun hc1 => ?_)
  · have hc1 := BP.t hc1
    skip
    refine Tri.seq fun K4 hK4 => ?_
    refine Tri.region ?_
    refine st (OK1.call (law12_awake) .nil) rfl ?_
    refine st (OK1.as (Has.t rfl)) rfl ?_
    refine nl ?_
    refine At.thn (hK4 _ _ ?_); clear hK4
    refine Tri.ret ?_
    refine At.thr ?_
    refine rtX1 (.inl rfl) Try.results10 rfl (.tmp (Has.t rfl) .nil) ?_
    exact rfl
  · have hc1 := BP.f hc1
    have HF0 : ((R : Int) ≤ 4 ∧ (C : Int) ≤ 4) ∧ fewB xs 100 2 = true := (by simpa [and_assoc] using hc1)
    obtain ⟨⟨hR4, hC4⟩, HF⟩ := HF0
    obtain ⟨hl0, hb⟩ := fewB_bd (N := 100) (K := 2) okp0 HF rfl rfl (by decide)
    have p4 : 2 ^ R ≤ 16 := Nat.le_trans (Nat.pow_le_pow_right (by decide) (show R ≤ 4 by omega)) (by decide)
    refine Tri.skip ?_
    refine At.thn (hK2 _ _ ?_); clear hK2
    refine Tri.seq fun K5 hK5 => ?_
    refine Tri.region ?_
    refine st (OK1.load (Has.t rfl) (i := 0) rfl ty55 rfl (Ss' := [_, _, _]) rfl) rfl ?_
    refine Ops.callX (bareiss_RankX hb (by decide) hR hC hl (by omega)) (List.Perm.refl _) (.cons (Has.t rfl) .nil) rfl ?_
    rintro _ _ ⟨rs1, ps1, last1, odd1, rfl, rfl, hRun1⟩
    obtain rfl : ps1 = pl := by rw [hpl]; exact run_pivs hRun1
    refine st (OK1.mv (Has.t rfl)) rfl ?_
    refine st (OK1.ext (Has.t rfl) rfl) rfl ?_
    refine st (OK1.ext (Has.t rfl) rfl) rfl ?_
    refine st (OK1.as (Has.t rfl)) rfl ?_
    refine st (OK1.as (Has.t rfl)) rfl ?_
    refine nl ?_
    refine At.thn (hK5 _ _ ?_); clear hK5
    refine Tri.cv (Cv.wk (.cons (t := 1) (Has.t rfl) (.cons (t := 2) (Has.t rfl) (.cons (t := 3) (Has.t rfl) (.cons (t := 4) (Has.t rfl) .nil))))) ?_
    refine Tri.seq fun K6 hK6 => ?_
    refine Tri.region ?_
    refine st (OK1.load (Has.t rfl) (i := 0) rfl ty55 rfl (Ss' := [_, _, _]) rfl) rfl ?_
    refine Ops.callX (bareiss_EchelonX hb (by decide) hR hC hl (by omega)) (List.Perm.refl _) (.cons (Has.t rfl) .nil) rfl ?_
    rintro _ _ ⟨rs2, ps2, last2, odd2, L2, rfl, rfl, hRun2⟩
    obtain rfl : ps2 = ps1 := by rw [hpl]; exact run_pivs hRun2
    refine st (OK1.mv (Has.t rfl)) rfl ?_
    refine st (OK1.ext (Has.t rfl) rfl) rfl ?_
    refine st (OK1.ext (Has.t rfl) rfl) rfl ?_
    refine st (OK1.ext (Has.t rfl) rfl) rfl ?_
    refine Ops.alloc [isI 0, isI 0, nilS] zero55 (fun _ _ => ⟨⟨rfl, by decide, by decide⟩, ⟨rfl, by decide, by decide⟩, rfl, trivial⟩) rfl fun b2 => ?_
    refine Ops.store (Has.t rfl) (Has.t rfl) (i := 0) rfl ty55 rfl rfl (Ss' := [_, _, _]) rfl (M' := [(some _, cellM [_, _, _]), _]) rfl ?_
    refine st (OK1.as (Has.t rfl)) rfl ?_
    refine st (OK1.as (Has.t rfl)) rfl ?_
    refine nl ?_
    refine At.thn (hK6 _ _ ?_); clear hK6
    refine Tri.cv (Cv.wk (.cons (t := 1) (Has.t rfl) (.cons (t := 2) (Has.t rfl) (.cons (t := 3) (Has.t rfl) (.cons (t := 4) (Has.t rfl) (.cons (t := 5) (Has.t rfl) (.cons (t := 6) (Has.t rfl) (.cons (t := 7) (Has.t rfl) .nil)))))))) ?_
    refine Tri.seq fun K7 hK7 => ?_
    refine Tri.seq fun K8 hK8 => ?_
    refine Tri.region ?_
    refine st (OK1.load (Has.t rfl) (i := 1) rfl ty55 rfl (Ss' := [_, _, _]) rfl) rfl ?_
    refine st (OK1.eq (OK1.call (ref11_Formed) (.cons (Has.t rfl) .nil)) ((show isB _ = isB true from isB_eq (hfo)))) rfl ?_
    refine st (OK1.not (Has.t rfl)) rfl ?_
    refine nl ?_
    refine At.thn (hK8 _ _ ?_); clear hK8
    refine Tri.cond (Has.t rfl) (fun hc2 => ?_) (fun hc2 => ?_)
    · have hc2 := BP.t hc2
      exfalso; simp at hc2
    · have hc2 := BP.f hc2
      skip
      refine Tri.skip ?_
      refine At.thn (hK7 _ _ ?_); clear hK7
      refine Tri.seq fun K9 hK9 => ?_
      refine Tri.region ?_
      refine st (OK1.load (Has.t rfl) (i := 1) rfl ty55 rfl (Ss' := [_, _, _]) rfl) rfl ?_
      refine st (OK1.eq (OK1.call (ref12_Pivots hb (by decide) (by omega) (by omega) hl) (.cons (Has.t rfl) .nil)) ((show _ = isLn ps2 from by rw [hpl]))) rfl ?_
      refine st (OK1.as (Has.t rfl)) rfl ?_
      refine nl ?_
      refine At.thn (hK9 _ _ ?_); clear hK9
      refine Tri.cv (Cv.wk (.cons (t := 2) (Has.t rfl) (.cons (t := 3) (Has.t rfl) (.cons (t := 4) (Has.t rfl) (.cons (t := 6) (Has.t rfl) (.cons (t := 7) (Has.t rfl) (.cons (t := 8) (Has.t rfl) .nil))))))) ?_
      refine Tri.seq fun K10 hK10 => ?_
      refine Tri.region ?_
      refine st (OK1.mv (Has.t rfl)) rfl ?_
      refine st (OK1.eqI (Has.t rfl) (Has.cI 0 rfl)) rfl ?_
      refine st (OK1.mv (Has.t rfl)) rfl ?_
      refine stT rfl rfl (fun hg => have hg' := BP.t hg; OK1.mv (Has.t rfl)) rfl ?_
      refine stT rfl rfl (fun hg => have hg' := BP.t hg; OK1.eqI (Has.g rfl hg) (Has.cI 0 rfl)) rfl ?_
      refine st (OK1.pickAnd (Has.t rfl) (fun h => Has.g rfl h)) rfl ?_
      refine st (OK1.mv (Has.t rfl)) rfl ?_
      refine stT rfl rfl (fun hg => have hg' := BP.t hg; OK1.mv (Has.t rfl)) rfl ?_
      refine stT rfl rfl (fun hg => have hg' := BP.t hg; OK1.mv (Has.t rfl)) rfl ?_
      refine stT rfl rfl (fun hg => have hg' := BP.t hg; OK1.len sl32 (Has.g rfl hg)) rfl ?_
      refine stT rfl rfl (fun hg => have hg' := BP.t hg; OK1.eqI (Has.g rfl hg) (Has.g rfl hg)) rfl ?_
      refine st (OK1.pickAnd (Has.t rfl) (fun h => Has.g rfl h)) rfl ?_
      refine st (OK1.mv (Has.t rfl)) rfl ?_
      refine stT rfl rfl (fun hg => have hg' := BP.t hg; OK1.mv (Has.t rfl)) rfl ?_
      refine stT rfl rfl (fun hg => have hg' := BP.t hg; OK1.mv (Has.t rfl)) rfl ?_
      refine stT rfl rfl (fun hg => have hg' := BP.t hg; OK1.call (law12_ints) (.cons (Has.g rfl hg) (.cons (Has.g rfl hg) .nil))) rfl ?_
      refine st (OK1.pickAnd (Has.t rfl) (fun h => Has.g rfl h)) rfl ?_
      refine st (OK1.as (Has.t rfl)) rfl ?_
      refine nl ?_
      refine At.thn (hK10 _ _ ?_); clear hK10
      refine Tri.cv (Cv.wk (.cons (t := 2) (Has.t rfl) .nil)) ?_
      refine Tri.ret ?_
      refine rtX1 (.inl rfl) Try.results10 rfl (.tmp (Has.t rfl) .nil) ?_
      exact isB_eq (by rw [pv_len]; simp)
theorem c_BareissRanks (r c : Int) (xs : List (Bool × List Nat)) : Ctr Try.prog 10 [isM r c xs] (isB true) := by
  cases h : formB r c xs.length with
  | true =>
    obtain ⟨R, C, rfl, rfl, h1, h2, h3⟩ := formB_iff.1 h
    exact (c_BareissRanks_ok R C xs h1 h2 h3).toCtr fun S' M' hh => hh
  | false => exact c_BareissRanks_bad r c xs h
end Go.Proofs.Ytfoclelageohiaa
/- Slices of whole numbers that a law is handed. -/
namespace Go.En
open Go.RowKit Go.ChangeShapes Go.WideShapes Go.ChangeAt
set_option linter.unusedVariables false
theorem pair_get {α β : Type} (g h : α → β) : ∀ (l : List α) (j : Nat), (l.flatMap fun a => [g a, h a])[j]? = (l[j / 2]?).map (fun a => if j % 2 = 0 then g a else h a)
  | [], j => by simp
  | a :: l, 0 => by simp
  | a :: l, 1 => by simp
  | a :: l, j + 2 => by
    have := pair_get g h l j
    rw [show (j + 2) / 2 = j / 2 + 1 by omega, show (j + 2) % 2 = j % 2 by omega]
    simpa using this
section
variable {H : Type} {enc : TypeId × Value → H} {P : Program}
end
end Go.En
/- Matrices of whole numbers that a law is handed. -/
namespace Go.En
open Go.RowKit Go.ChangeShapes Go.WideShapes Go.ChangeAt
set_option linter.unusedVariables false
section
variable {H : Type} {enc : TypeId × Value → H} {P : Program}
theorem rd_Zs {W : World} {T e tb ts T' : TypeId} {fuel : Nat} {cs : List Value} {x : DataW H × List MemPlace} (hT : P.underlying T = some (.slice e)) (hfs : fsB P e = some [(tb, 0), (ts, 1)]) (hub : P.underlying tb = some .bool) (hu : P.underlying ts = some (.slice T')) (hu' : P.underlying T' = some (.int .u64)) (hc : P.cellsOf T' = 1) (hcb : P.cellsOf tb = 1) (hcs : P.cellsOf ts = 1) (hce : P.cellsOf e = 2)
    (hf : DataW.trod enc P W 0 (fun _ => true) true fuel T cs = some x) (hps : ∀ y ∈ x.2, y.block < W.heap.size) : ∃ (v : Value) (xs : List (Bool × List Nat)), cs = [v] ∧ (isZs xs).h W (fun b => b < W.heap.size) v := by
  obtain ⟨d, ps⟩ := x
  obtain ⟨fs, hue, hsz, hget⟩ := fsB_spec hfs
  obtain ⟨f0, g0, rfl, e0⟩ := hget 0 tb 0 rfl
  obtain ⟨f1, g1, rfl, e1⟩ := hget 1 ts 1 rfl
  have hfs2 : fs = #[f0, f1] := by
    apply Array.ext'
    have hl : fs.toList.length = 2 := by simpa using hsz
    match hq : fs.toList, hl with
    | [p, q], _ =>
      have a0 : fs.toList[0]? = some f0 := by simpa using g0
      have a1 : fs.toList[1]? = some f1 := by simpa using g1
      rw [hq] at a0 a1
      simp at a0 a1
      rw [a0, a1]
  subst hfs2
  rcases Deep.open_slice_pairs hT hue hce e0 e1 hcb hcs hf with ⟨h1, _⟩ | ⟨a, len, cap, m, n, V0, V1, D0, D1, P0, P1, h1, _, hlc, hcm, hm, hx, hel⟩
  · exact ⟨_, [], h1, nilK⟩
  · simp only [if_true] at hm
    subst m
    have hps' : ∀ i, i < cap → ∀ y ∈ P1 i, y.block < W.heap.size := fun i hi y hy => hps y (by
      have := (Prod.mk.inj hx).2
      rw [this]
      exact List.mem_append_right _ (List.mem_flatMap.2 ⟨i, List.mem_range.2 hi, List.mem_append_right _ hy⟩))
    obtain ⟨l, hl, hgl⟩ := list_of_get (p := fun i (x : Bool × List Nat) => V0 i = .bool x.1 ∧ (isWords x.2).h W (fun b => b < W.heap.size) (V1 i)) len (fun i hi => by
      obtain ⟨_, _, q0, q1⟩ := hel i (by omega)
      obtain ⟨b, hb, _⟩ := DataW.trod_bool hub q0
      obtain ⟨v, ws, hv1, hw⟩ := rd_row hu hu' hc word_of q1 (hps' i (by omega))
      obtain rfl : V1 i = v := by simpa using hv1
      exact ⟨(b, ws), by simpa using hb, hw⟩)
    refine ⟨_, l, h1, some a, cap, by rw [hl], by rw [hl]; exact hlc, hcm, flat_len zc_len l, ?_⟩
    rcases Nat.eq_zero_or_pos len with h0 | h0
    · exact .inl (by omega)
    · have hc0 := (hel 0 (by omega)).1
      have hs : a.spot = none := by
        cases hsp : a.spot with
        | none => rfl
        | some s =>
          simp only [Addr.add, Nat.zero_mul, if_true] at hc0
          unfold World.cell? at hc0
          rw [hsp] at hc0
          split at hc0 <;> simp at hc0
      obtain ⟨b, off, sp⟩ := a
      simp only at hs
      subst hs
      right
      refine ⟨b, off, rfl, ?_, (List.range len).flatMap (fun i => [V0 i, V1 i]), ?_, fun j u hj => ?_⟩
      · have : MemPlace.cell b (off + 0) ∈ ps := by
          have := (Prod.mk.inj hx).2
          rw [this]
          exact List.mem_append_left _ (List.mem_map.2 ⟨0, by simp; omega, rfl⟩)
        exact hps _ this
      · have hlen2 : ((List.range len).flatMap fun i => [V0 i, V1 i]).length = len * 2 := by
          have := flat_len (fk := fun (i : Nat) => [isB true, isB true]) (k := 2) (fun _ => rfl) (List.range len)
          rw [List.length_flatMap] at this ⊢
          simpa using this
        refine all2_of_get (by rw [flat_len zc_len, hlen2, hl]) (fun j S v hS hv => ?_)
        have hz := pair_get (fun p : Bool × List Nat => isB p.1) (fun p => isWords p.2) l j
        rw [show (l.flatMap fun a => [isB a.1, isWords a.2]) = l.flatMap zc from rfl, hS] at hz
        have hw := pair_get V0 V1 (List.range len) j
        rw [hv] at hw
        have hj : j / 2 < l.length := by
          rcases Nat.lt_or_ge (j / 2) l.length with h | h
          · exact h
          · rw [List.getElem?_eq_none h] at hz; cases hz
        rw [List.getElem?_eq_getElem hj] at hz
        rw [List.getElem?_range (by omega)] at hw
        simp only [Option.map_some, Option.some.injEq] at hz hw
        obtain ⟨k1, k2⟩ := hgl (j / 2) hj
        subst hz; subst hw
        by_cases hp : j % 2 = 0
        · rw [if_pos hp, if_pos hp, k1]; rfl
        · rw [if_neg hp, if_neg hp]; exact k2
      · have hw := pair_get V0 V1 (List.range len) j
        rw [hj] at hw
        have hjl : j / 2 < len := by
          rcases Nat.lt_or_ge (j / 2) len with h | h
          · exact h
          · rw [List.getElem?_eq_none (by simpa using h)] at hw; cases hw
        rw [List.getElem?_range hjl] at hw
        simp only [Option.map_some, Option.some.injEq] at hw
        obtain ⟨q0, q1, _, _⟩ := hel (j / 2) (by omega)
        rw [add_mk] at q0
        rw [add_mk] at q1
        by_cases hp : j % 2 = 0
        · rw [if_pos hp] at hw; subst hw
          rw [show off + j = off + j / 2 * 2 by omega]; exact q0
        · rw [if_neg hp] at hw; subst hw
          rw [show off + j = off + (j / 2 * 2 + 1) by omega]; exact q1
/-- two sides and numbers -/
theorem open_M {W : World} {base : Nat} {T ti tm e tb ts T' : TypeId} {v : Value} {d : DataW H} {ps : List MemPlace} (hfM : fsB P T = some [(ti, 0), (ti, 1), (tm, 2)]) (hui : P.underlying ti = some (.int .i64)) (hT : P.underlying tm = some (.slice e)) (hfs : fsB P e = some [(tb, 0), (ts, 1)]) (hub : P.underlying tb = some .bool) (hu : P.underlying ts = some (.slice T')) (hu' : P.underlying T' = some (.int .u64)) (hc : P.cellsOf T' = 1) (hcb : P.cellsOf tb = 1) (hcs : P.cellsOf ts = 1) (hce : P.cellsOf e = 2)
    (hci : P.cellsOf ti = 1) (hcm : P.cellsOf tm = 1) (hcT : P.cellsOf T = 3) (hv : Value.okWide P W .any base T v) (h : DataW.Trod enc P W 0 (fun _ => true) true T v d ps) (hps : ∀ x ∈ ps, x.block < W.heap.size) : ∃ x : Int × Int × List (Bool × List Nat), (isM x.1 x.2.1 x.2.2).h W (fun b => b < W.heap.size) v := by
  obtain ⟨fs, huT, hsz, hget⟩ := fsB_spec hfM
  have hv' := hv
  simp only [Value.okWide, huT] at hv'
  obtain ⟨cs, rfl, _, _⟩ := hv'
  obtain ⟨fuel, hf⟩ := h
  obtain ⟨xs, m, _, hx, hl, hxl, hfe⟩ := DataW.trod_struct huT hf
  simp [Value.cells] at hl hx
  obtain ⟨f0, g0, rfl, e0⟩ := hget 0 ti 0 rfl
  obtain ⟨f1, g1, k1, e1⟩ := hget 1 _ 1 rfl
  obtain ⟨f2, g2, rfl, e2⟩ := hget 2 tm 2 rfl
  have h0 := hfe 0 f0 g0
  have h1 := hfe 1 f1 g1
  have h2 := hfe 2 f2 g2
  rw [List.getElem?_eq_getElem (by rw [hxl, hsz]; simp)] at h0 h1 h2
  rw [e0, hci] at h0
  rw [e1, k1, hci] at h1
  rw [e2, hcm] at h2
  obtain ⟨r, hr, hr1, hr2⟩ := rd_I hui h0
  obtain ⟨c, hc1, hc2, hc3⟩ := rd_I hui h1
  obtain ⟨u, ws, hu1, hw⟩ := rd_Zs hT hfs hub hu hu' hc hcb hcs hce h2 (fun y hy => hps y (by
    rw [hx.2]
    exact List.mem_flatMap.2 ⟨_, List.getElem_mem _, hy⟩))
  refine ⟨(r, c, ws), cs.toList, by simp, ?_⟩
  have hcs2 : cs.toList = [.int .i64 r, .int .i64 c, u] := by
    have hlen : cs.toList.length = 3 := by rw [← hcT]; simpa using hl
    match hq : cs.toList, hlen with
    | [p, q, t], _ =>
      have a1 : [p] = [Value.int .i64 r] := by have := hr; simpa [Value.cells, hq] using this
      have a2 : [q] = [Value.int .i64 c] := by have := hc1; simpa [Value.cells, hq] using this
      have a3 : [t] = [u] := by have := hu1; simpa [Value.cells, hq] using this
      rw [List.cons.inj a1 |>.1, List.cons.inj a2 |>.1, List.cons.inj a3 |>.1]
  rw [hcs2]
  exact ⟨⟨rfl, hr1, hr2⟩, ⟨rfl, hc2, hc3⟩, hw, trivial⟩
end
end Go.En
/- A law of layer 12, as it is stated. -/
namespace Go.Proofs.Ytfoclelageohiaa
open Go.En Go.RowKit
set_option linter.unusedVariables false
set_option maxRecDepth 10000
open Go.ChangeShapes
open Go.WideShapes
open Go.ChangeAt
open Go.Nt
open Go.Pz
open Go.Mz
theorem opens_BareissRanks : Opens Try.prog Try.f10 10 := by
  intro H enc W base args ds ps hval hA hlt
  rw [Try.params10] at hA hval
  obtain ⟨v0, vs0, d0, ds0, p0, q0, hargs, rfl, rfl, h0, r0⟩ := trodAll_cons hA
  obtain ⟨rfl, rfl, rfl⟩ := trodAll_nil r0
  obtain rfl : args = #[v0] := by cases args; simp_all
  obtain ⟨x0, o0⟩ := open_M fs55 un3 un53 fs59 un4 un57 un27 (by kernel_rfl) (by kernel_rfl) (by kernel_rfl) (by kernel_rfl) (by kernel_rfl) (by kernel_rfl) (by kernel_rfl) (hval 0 55 v0 rfl rfl) h0 (fun x hx => hlt x (by simp [hx]))
  refine ⟨_, ?_, c_BareissRanks x0.1 x0.2.1 x0.2.2⟩
  exact ⟨o0, trivial⟩
theorem bareissRanks_said : Rows.BareissRanksSaid :=
  OpenClaim.holds_of_wide 10 Try.f10 rfl rfl rfl rfl rfl rfl rfl ⟨rfl, rfl, rfl, rfl, rfl⟩ rfl rfl rfl rfl rfl (by kernel_rfl) Try.func10 (by kernel_rfl)
    (of_decide_eq_true (by kernel_rfl)) (by unfold Func.isWrapper; first | (rw [if_pos (by decide +kernel)]; kernel_rfl) | (rw [if_neg (by decide +kernel)]; exact ⟨rfl, rfl⟩))
    (fun os started H enc _ => lift_law (C := Try.checked) (s := Rows.bareissRanksSpec) (by kernel_rfl) started (by kernel_rfl) Try.func10
      (ChangeSpec.witness6 (enc := enc) (C := Try.checked) false ⟨#[], #[.agg #[.int .i64 0, .int .i64 0, .slice none 0 0]], []⟩ 8 (by kernel_rfl) (by kernel_rfl) (by kernel_rfl) (by kernel_rfl))
      (by kernel_rfl) (by kernel_rfl) rfl rfl un4 (fun ds h => by match ds, h with | [d0], _ => rfl) opens_BareissRanks)
#print axioms bareissRanks_said
end Go.Proofs.Ytfoclelageohiaa
