/- The law ZcharMins, as it is stated, of the given program, for every input; no condition. -/
import Derived.Test.YtcfobalbkhgdmaaGreatQZcharMins5
import Derived.Deep.SlicePairs
import Derived.Test.YtcfobalbkhgdmaaGreatRows
namespace Go.Proofs.YtcfobalbkhgdmaaGreat
open Go.En Go.RowKit
set_option maxRecDepth 10000
set_option maxHeartbeats 4000000
open Go.Nt
open Go.Pz
open Go.Mz
theorem bareiss_clear {bw C : Nat} {gp : Gr Int} {gt : Gr Row} {rs : List Row} {ps : List Nat} {last : Int} {odd : Bool} {K : Nat} (hrow : ∀ r ∈ rs, r.2.length = C) (hb : ∀ r ∈ rs, Bd r.2 K) (hC : C ≤ 64) (hR : rs.length ≤ 64) (hpl : ps.length ≤ 64) {col : Nat} {r0 : Row} (hcol : col < C) (hK : K ≤ 100000000) (hlast : (List.length (words last.natAbs)) ≤ K) (h0 : rs[ps.length]? = some r0) : CtrX Tryz.prog 121 [isPtr bw 0, isI (col : Int)] (wkM bw gp gt rs C ps last odd) (fun S M => ∃ gp' gt' rs', S = isTup [] ∧ M = wkM bw gp' gt' rs' C (ps ++ [col]) (cf r0.2 col) odd ∧ ClrI rs ps.length col last r0.2 rs.length rs') := by
 refine CtrX.intro Tryz.func121 rfl (by kernel_rfl) Tryz.ntmps121 rfl fun w0 F0 => .cv (Cv.wk (.l [0, 1] rfl)) (.fact (Has.rngI (Has.t (t := 1) rfl)) fun lt1 => ?_)
 have hpv := pv_len ps
 have hr0C := hrow r0 (List.mem_of_getElem? h0)
 have hr0B := hb r0 (List.mem_of_getElem? h0)
 have hr0L : (r0.2.map nz).length = C := by rw [List.length_map, hr0C]
 have htl : ps.length < rs.length := by rcases Nat.lt_or_ge ps.length rs.length with h | h; exact h; rw [List.getElem?_eq_none h] at h0; cases h0
 refine .seq fun _ k1 => .region (st (.mv (.t rfl)) rfl (st (.nilc (.t rfl)) rfl (st (.fieldAddr (.t rfl) fld93_2 ty91) rfl (st (.load1 (.t rfl) (i := 0) rfl ty91 rfl) rfl (st (.eq (.len sl91 (.t rfl)) ((show isI _ = isI (ps.length : Int) from isI_eq (by omega)))) rfl (st (.as (.t rfl)) rfl (nl (.thn (k1 _ _ (.cv (Cv.wk (.l [0, 1, 4] rfl)) (.seq fun _ k2 => .region (st (.mv (.t rfl)) rfl (st (.nilc (.t rfl)) rfl (st (.fieldAddr (.t rfl) fld93_0 ty90) rfl (st (.load1 (.t rfl) (i := 0) rfl ty90 rfl) rfl (st (.mv (.t rfl)) rfl (st (.ixGr sl90 ty22 (.t rfl) (.t rfl) ⟨by omega, by omega⟩) rfl (st (.loadGM (.t rfl) (i := 2) rfl ty22 h0) rfl (st (.as (.t rfl)) rfl (nl (.thn (k2 _ _ (.cv (Cv.wk (.l [0, 1, 4, 5] rfl)) (.seq fun _ k3 => .seq fun _ k4 => .region (st (.mv (.t rfl)) rfl (st (.addI (.t rfl) (.cI 1 rfl) (by first | omega | assumption) (by first | omega | assumption)) rfl (st (.as (.t rfl)) rfl (nl (.thn (k4 _ _ (.block (.loopF [0, 1, 5] (fun (z : { z : Nat × List Row // ps.length < z.1 ∧ (z.1 ≤ rs.length) ∧ ClrI rs ps.length col last r0.2 z.1 z.2 }) => match z with | ⟨(i, rs'), hI⟩ => [(6, isI (i : Int))]) (fun M => fun (z : { z : Nat × List Row // ps.length < z.1 ∧ (z.1 ≤ rs.length) ∧ ClrI rs ps.length col last r0.2 z.1 z.2 }) => match z with | ⟨(i, rs'), hI⟩ => (wk0 bw gp gt rs.length C ps last odd :: grM isI gp (pv ps) :: grM rowV gt rs' :: rs'.map rowM)) (fun (z : { z : Nat × List Row // ps.length < z.1 ∧ (z.1 ≤ rs.length) ∧ ClrI rs ps.length col last r0.2 z.1 z.2 }) => match z with | ⟨(i, rs'), hI⟩ => rs.length - i) (⟨(ps.length + 1, rs), Nat.lt_succ_self _, htl, ClrI.start _ _ _ _ _⟩) (Cv.mem (.c 6 rfl ?_ (.l [0, 1, 5] rfl)) ?_) ?_))))))))))))))))))))))))))))))))
 ·exact isI_eq (by omega)
 ·rfl
 rintro ⟨⟨i, rs'⟩, hI⟩ K5 hK5
 refine .cv (Cv.wk (.l [6, 0, 1, 5] rfl)) (.memEq (M' := (wk0 bw gp gt rs.length C ps last odd :: grM isI gp (pv ps) :: grM rowV gt rs' :: rs'.map rowM)) rfl ?_)
 simp only [] at hI
 obtain ⟨hti, hin, hcl⟩ := hI
 have hlen := hcl.len
 have h0' := (hcl.at (.inl (Nat.le_refl _))).trans h0
 refine .seq fun _ k6 => .seq fun _ k7 => .region (st (.mv (.t rfl)) rfl (st (.mv (.t rfl)) rfl (st (.nilc (.t rfl)) rfl (st (.fieldAddr (.t rfl) fld93_0 ty90) rfl (st (.load1 (.t rfl) (i := 0) rfl ty90 rfl) rfl (st (.len sl90 (.t rfl)) rfl (st (.ltI (.t rfl) (.t rfl)) rfl (nl (.thn (k7 _ _ (.cond (.t rfl) (fun hc1 => ?_) (fun hc1 => ?_))))))))))))
 ·have hc1 := BP.t hc1
  obtain ⟨r, hr⟩ : ∃ r, rs[i]? = some r := ⟨_, List.getElem?_eq_getElem (by omega)⟩
  have hrC := hrow r (List.mem_of_getElem? hr)
  have hrB := hb r (List.mem_of_getElem? hr)
  have hrL : (r.2.map nz).length = C := by rw [List.length_map, hrC]
  have hri := (hcl.at (.inr (Nat.le_refl _))).trans hr
  refine .skip (.thn (k6 _ _ (.seq fun _ k8 => .block (.seq fun _ k9 => .region (st (.mv (.t rfl)) rfl (st (.nilc (.t rfl)) rfl (st (.fieldAddr (.t rfl) fld93_0 ty90) rfl (st (.load1 (.t rfl) (i := 0) rfl ty90 rfl) rfl (st (.mv (.t rfl)) rfl (st (.ixGr sl90 ty22 (.t rfl) (.t rfl) ⟨by omega, by omega⟩) rfl (st (.loadGM (.t rfl) (i := 2) rfl ty22 hri) rfl (st (.as (.t rfl)) rfl (nl (.thn (k9 _ _ (.seq fun _ k10 => .region (st (.mv (.t rfl)) rfl (st (.mv (.t rfl)) rfl (st (.ixGr sl22 ty36 (.t rfl) (.t rfl) ⟨by omega, by omega⟩) rfl (st (.loadGK zc_len (.t rfl) (i := 3 + i) (wkAt (pre := [_, _, _]) hri) ty36 (getZ (i := col) (by omega))) rfl (.alloc [isB false, SlM isU []] zero36 (fun _ _ => ⟨rfl, nilM _ _, trivial⟩) rfl fun b1 => .store (.t rfl) (.t rfl) (i := 0) rfl ty36 rfl rfl (Ss' := [_, _]) rfl (M' := ((some _, cellM [_, _]) :: _ :: _ :: _ :: _)) rfl (nl (.thn (k10 _ _ (.seq fun _ k11 => .region (st (.mv (.t rfl)) rfl (st (.len sl22 (.t rfl)) rfl (st (.mv (.cI 0 rfl)) rfl (nl (.thn (k11 _ _ (.block (.loopF [0, 1, 5, 6, 25, 26, 27, 28, 29, 30, 31, 34, 35, 36, 37, 38, 39, 40, 7, 41, 42, 43, 44, 8, 45, 46] (fun (z : { k : Nat // k ≤ C }) => match z with | ⟨k, hk⟩ => [(47, isI (k : Int))]) (fun M => fun (z : { k : Nat // k ≤ C }) => match z with | ⟨k, hk⟩ => (zM b1 (cf r.2 col) :: wk0 bw gp gt rs.length C ps last odd :: grM isI gp (pv ps) :: grM rowV gt rs' :: (rs'.set i (r.1, mixR r0.2 r.2 col last k)).map rowM)) (fun (z : { k : Nat // k ≤ C }) => match z with | ⟨k, hk⟩ => C - k) (⟨0, Nat.zero_le _⟩) (Cv.mem (.c 47 rfl ?_ (.l [0, 1, 5, 6, 25, 26, 27, 28, 29, 30, 31, 34, 35, 36, 37, 38, 39, 40, 7, 41, 42, 43, 44, 8, 45, 46] rfl)) ?_) ?_)))))))))))))))))))))))))))))))))
  ·rfl
  ·exact tail4 (mix_start hri)
  rintro ⟨k, hk⟩ K12 hK12
  refine .cv (Cv.wk (.l [47, 0, 1, 5, 6, 25, 26, 27, 28, 29, 30, 31, 34, 35, 36, 37, 38, 39, 40, 7, 41, 42, 43, 44, 8, 45, 46] rfl)) (.memEq (M' := (zM b1 (cf r.2 col) :: wk0 bw gp gt rs.length C ps last odd :: grM isI gp (pv ps) :: grM rowV gt rs' :: (rs'.set i (r.1, mixR r0.2 r.2 col last k)).map rowM)) rfl ?_)
  have hset : (rs'.set i (r.1, mixR r0.2 r.2 col last k))[i]? = some (r.1, mixR r0.2 r.2 col last k) := List.getElem?_set_self (by omega)
  have hset0 : (rs'.set i (r.1, mixR r0.2 r.2 col last k))[ps.length]? = some r0 := (List.getElem?_set_ne (by omega)).trans h0'
  refine .seq fun _ k13 => .region (st (.ltI (.t rfl) (.t rfl)) rfl (nl (.thn (k13 _ _ (.seq fun _ k14 => .cond (.t rfl) (fun hc2 => ?_) (fun hc2 => ?_))))))
  ·have hc2 := BP.t hc2
   refine .skip (.thn (k14 _ _ (.seq fun _ k15 => .block (.seq fun _ k16 => .region (st (.mv (.t rfl)) rfl (st (.as (.t rfl)) rfl (nl (.thn (k16 _ _ (.seq fun _ k17 => .drhS (.cons_cons _ (.cons_cons _ (.cons_cons _ (.cons_cons _ (List.Sublist.refl _))))) (.s [] rfl rfl rfl (.o rfl (.mv (.t rfl))) (.s [] rfl rfl rfl (.o rfl (.mv (.t rfl))) (.s [50, 51] rfl rfl rfl (.o rfl (.ixGr sl22 ty36 (.t rfl) (.t rfl) ⟨by omega, by omega⟩)) ?_)))))))))))))
   refine .s [52] rfl rfl rfl (.o rfl (.loadGK zc_len (.t rfl) (i := 4 + i) (wkAt (pre := [_, _, _, _]) (r := (r.1, mixR r0.2 r.2 col last k)) hset) ty36 (show ((mixR r0.2 r.2 col last k).map nz)[k]? = some (nz (cf r.2 k)) from by rw [List.getElem?_map, mixR_at _ _ _ _ (by omega)]; rfl))) ?_
   refine .s [] rfl rfl rfl (.o rfl (.mv (.t rfl))) (.s [] rfl rfl rfl (.o rfl (.mv (.t rfl))) (.s [54, 55] rfl rfl rfl (.o rfl (.ixGr sl22 ty36 (.t rfl) (.t rfl) ⟨by omega, by omega⟩)) ?_))
   refine .s [56] rfl rfl rfl (.o rfl (.loadGK zc_len (.t rfl) (i := 4 + ps.length) (wkAt (pre := [_, _, _, _]) hset0) ty36 (getZ (i := col) (by omega)))) (.s [53, 57] rfl rfl rfl (.o rfl (.eq (.call (zint_Mul (by rw [val_words]; have := hrB k; omega) (by rw [val_words]; have := hr0B col; omega)) (.cons (.t rfl) (.cons (.t rfl) .nil))) ((show isZ _ = isZ (cf r.2 k * cf r0.2 col) from isZ_eq (by (try simp only [zv_nz]); (try simp only [zv_nf])))))) ?_)
   refine .s [] rfl rfl rfl (.o rfl (.load (.t rfl) (i := 0) rfl ty36 rfl (Ss' := [_, _]) rfl)) (.s [] rfl rfl rfl (.o rfl (.mv (.t rfl))) (.s [] rfl rfl rfl (.o rfl (.mv (.t rfl))) (.s [60, 61] rfl rfl rfl (.o rfl (.ixGr sl22 ty36 (.t rfl) (.t rfl) ⟨by omega, by omega⟩)) ?_)))
   refine .s [62] rfl rfl rfl (.o rfl (.loadGK zc_len (.t rfl) (i := 4 + ps.length) (wkAt (pre := [_, _, _, _]) hset0) ty36 (getZ (i := k) (by omega)))) (.s [59, 63] rfl rfl rfl (.o rfl (.eq (.call (zint_Mul (by rw [val_words]; have := hrB col; omega) (by rw [val_words]; have := hr0B k; omega)) (.cons (.t rfl) (.cons (.t rfl) .nil))) ((show isZ _ = isZ (cf r.2 col * cf r0.2 k) from isZ_eq (by rw [zv_nf, zv_nz]))))) ?_)
   refine .s [58, 64] rfl rfl rfl (.o rfl (.eq (.call (zint_Sub (by rw [val_words]; have := nz_mul (cf r.2 k) (cf r0.2 col); have := hrB k; have := hr0B col; omega) (by rw [val_words]; have := nz_mul (cf r.2 col) (cf r0.2 k); have := hrB col; have := hr0B k; omega)) (.cons (.t rfl) (.cons (.t rfl) .nil))) ((show isZ _ = isZ (cf r.2 k * cf r0.2 col - cf r.2 col * cf r0.2 k) from isZ_eq (by simp only [zv_nf]))))) ?_
   refine .als2 (n1 := 17) (ds := [10]) (zs := [[isB false, SlM isU []]]) rfl (.cons rfl rfl zero36 (fun _ _ => ⟨rfl, nilM _ _, trivial⟩) .nil) (.cons_cons _ (.cons_cons _ (.cons_cons _ (.cons_cons _ (List.Sublist.refl _))))) (Cs := [_]) rfl (.fin (n := 17) mixed rfl (by kernel_rfl) (by kernel_rfl) (by kernel_rfl) (fun bs hbs => ?_))
   obtain ⟨b2, rfl⟩ := len1 hbs
   refine .memEq (M' := (_ :: _ :: _ :: _ :: _ :: _)) rfl (.cv (Cv.wk (.k 0 rfl (.k 1 rfl (.k 5 rfl (.k 6 rfl (.k 25 rfl (.k 26 rfl (.k 27 rfl (.k 28 rfl (.k 29 rfl (.k 30 rfl (.k 31 rfl (.k 34 rfl (.k 35 rfl (.k 36 rfl (.k 37 rfl (.k 38 rfl (.k 39 rfl (.k 40 rfl (.k 7 rfl (.k 41 rfl (.k 42 rfl (.k 43 rfl (.k 44 rfl (.k 8 rfl (.k 45 rfl (.k 46 rfl (.k 47 rfl (.k 48 rfl (.k 49 rfl (.k 9 rfl (.k 50 rfl (.k 51 rfl (.k 52 rfl (.k 53 rfl (.k 54 rfl (.k 55 rfl (.k 56 rfl (.k 57 rfl (.k 58 rfl (.k 59 rfl (.k 60 rfl (.k 61 rfl (.k 62 rfl (.k 63 rfl (.k 64 rfl (.k 65 rfl (.cons (t := 10) (Has.op rfl) .nil)))))))))))))))))))))))))))))))))))))))))))))))) (.store (.t rfl) (.t rfl) (i := 0) rfl ty36 rfl rfl (Ss' := [_, _]) rfl (M' := ((some _, cellM [_, _]) :: _ :: _ :: _ :: _ :: _)) rfl (nl (.thn (k17 _ _ (.dry mixed (.tk 0 rfl rfl rfl rfl (OKY.mv (.t rfl)) (.tk 1 rfl rfl rfl rfl (OKY.mv (.t rfl)) (.tk 3 rfl rfl rfl rfl (OKY.mv (.t rfl)) (.tk 4 rfl rfl rfl rfl (OKY.nilc (.t rfl)) (.tk 5 rfl rfl rfl rfl (OKY.fieldAddr (.t rfl) fld93_3 ty36) (.go [10] (.s 2 [] rfl rfl rfl (.o rfl (.load (.t rfl) (i := 0) rfl ty36 rfl (Ss' := [_, _]) rfl)) (.s 6 [] rfl rfl rfl (.o rfl (.load (.t rfl) (i := 2) rfl ty36 rfl (Ss' := [_, _]) rfl)) (.s 7 [69, 73] rfl rfl rfl (.o rfl (.call (zint_Exact (by rw [val_words]; have := nz_sub (cf r.2 k * cf r0.2 col) (cf r.2 col * cf r0.2 k); have := nz_mul (cf r.2 k) (cf r0.2 col); have := nz_mul (cf r.2 col) (cf r0.2 k); have := hrB k; have := hrB col; have := hr0B k; have := hr0B col; omega) (by rw [val_words]; omega)) (.cons (.t rfl) (.cons (.t rfl) .nil)))) ?_)))))))))))))))
   refine .s 8 [74] rfl rfl rfl (.o rfl (.mv (.t rfl))) (.ea (i := 10) [66] rfl rfl rfl (by kernel_rfl) rfl (OKY.ext (.t rfl) rfl) (.fin [9, 11, 12] (by kernel_rfl) (by kernel_rfl) (fun _ _ _ _ _ h => h) (by kernel_rfl) (by kernel_rfl) (by kernel_rfl) (by kernel_rfl) (by kernel_rfl) (by kernel_rfl) (by kernel_rfl) (by kernel_rfl) (by kernel_rfl) (.cv (Cv.wk (.l [0, 1, 5, 6, 25, 26, 27, 28, 29, 30, 31, 34, 35, 36, 37, 38, 39, 40, 7, 41, 42, 43, 44, 8, 45, 46, 47, 48, 49, 9, 50, 51, 52, 53, 54, 55, 56, 57, 58, 59, 60, 61, 62, 63, 64, 65, 10, 67, 68, 70, 71, 72, 69, 73, 74, 66] rfl)) (st (.eq (.ext (.t rfl) rfl) ((show isZ _ = Flat (zc (nz (clr r0.2 r.2 col last k))) from isZ_eq (by rw [zv_nf, zv_nf]; rfl)))) rfl ?_))))
   refine st (.ixGr sl22 ty36 (.t rfl) (.t rfl) ⟨by omega, by omega⟩) rfl (.storeGK (z := nz (clr r0.2 r.2 col last k)) zc_len (.t rfl) (.t rfl) (i := 5 + i) (wkAt (pre := [_, _, _, _, _]) (r := (r.1, mixR r0.2 r.2 col last k)) hset) ty36 (by rw [List.length_map, mixR_len _ _ _ _ (by omega)]; omega) (M' := (_ :: _ :: _ :: _ :: _ :: (rs'.set i (r.1, mixR r0.2 r.2 col last (k + 1))).map rowM)) (wkStore (pre := [_, _, _, _, _]) (X := (r.1, mixR r0.2 r.2 col last k)) hset (mixR_set _ _ _ _ (by omega))) ?_)
   refine nl (.bln (.thn (k15 _ _ (.region (st (.addI (.t rfl) (.cI 1 rfl) (by first | omega | assumption) (by first | omega | assumption)) rfl (st (.mv (.t rfl)) rfl (nl (.thn (hK12 (⟨k + 1, by omega⟩) _ _ ?_ (Cv.trans (Cv.drop ((.cons _ (.cons_cons _ (.cons_cons _ (.cons_cons _ (.cons_cons _ (List.Sublist.refl _)))))))) (Cv.mem (.c 47 rfl ?_ (.l [0, 1, 5, 6, 25, 26, 27, 28, 29, 30, 31, 34, 35, 36, 37, 38, 39, 40, 7, 41, 42, 43, 44, 8, 45, 46] rfl)) ?_)))))))))))
   ·show C - (k + 1) < C - k; omega
   ·exact isI_eq (by omega)
   ·rfl
  ·have hc2 := BP.f hc2
   refine .exit (.the (.the (.blh (.bln (.thn (k8 _ _ (.region (st (.mv (.t rfl)) rfl (st (.addI (.t rfl) (.cI 1 rfl) (by first | omega | assumption) (by first | omega | assumption)) rfl (st (.as (.t rfl)) rfl (nl (.thn ?_))))))))))))
   have hkC : k = r.2.length := by omega
   subst hkC
   refine hK5 (⟨(i + 1, rs'.set i (r.1, clrL r0.2 r.2 col last)), by show ps.length < i + 1; omega, by show i + 1 ≤ _; omega, hcl.step hti hr⟩) _ _ ?_ (Cv.trans (Cv.drop ((.cons _ (.cons_cons _ (.cons_cons _ (.cons_cons _ (List.Sublist.refl _))))))) (Cv.mem (.c 6 rfl ?_ (.l [0, 1, 5] rfl)) ?_))
   ·show rs.length - (i + 1) < rs.length - i; omega
   ·exact isI_eq (by omega)
   ·exact wk_round hri
 ·have hc1 := BP.f hc1
  refine .exit (.the (.the (.blh (.thn (k3 _ _ (.cv (Cv.wk (.l [0, 1, 5] rfl)) (.seq fun _ k18 => .region (st (.mv (.t rfl)) rfl (st (.mv (.t rfl)) rfl (st (.mv (.t rfl)) rfl (st (.ixGr sl22 ty36 (.t rfl) (.t rfl) ⟨by omega, by omega⟩) rfl (st (.loadGK zc_len (.t rfl) (i := 3 + ps.length) (wkAt (pre := [_, _, _]) h0') ty36 (getZ (i := col) (by omega))) rfl (st (.nilc (.t rfl)) rfl (st (.fieldAddr (.t rfl) fld93_3 ty36) rfl (.store (.t rfl) (.t rfl) (i := 0) rfl ty36 rfl rfl (Ss' := [_, _, _, _, _, _]) rfl (M' := ((some _, cellM [_, _, _, _, _, _]) :: _ :: _ :: _)) rfl (nl (.thn (k18 _ _ (.cv (Cv.wk (.l [0, 1] rfl)) (.region (st (.mv (.t rfl)) rfl (st (.mv (.t rfl)) rfl (st (.nilc (.t rfl)) rfl (st (.fieldAddr (.t rfl) fld93_2 ty91) rfl (st (.load1 (.t rfl) (i := 0) rfl ty91 rfl) rfl (st (.mv (.t rfl)) rfl (st (.buildS [isI 0] sl91 ty3 zero3 (fun _ _ => ⟨⟨rfl, by decide, by decide⟩, trivial⟩) rfl rfl (.cons (.t rfl) rfl rfl rfl .nil) rfl (S := SlM isI [(col : Int)]) rfl) rfl (.appendG (f := isI) (u := 0) sl91 ty3 zero3 (fun _ _ => ⟨⟨rfl, by decide, by decide⟩, trivial⟩) (fun _ => inferInstance) by3 (.t rfl) (i := 1) rfl (.t rfl) (by rw [hpv]; show ps.length + 1 ≤ _; omega) (by simp) rfl fun gr1 => ?_))))))))))))))))))))))))))))
  refine .memEq (M' := (_ :: grM _ _ _ :: _ :: _)) rfl (st (.nilc (.t rfl)) rfl (st (.fieldAddr (.t rfl) fld93_2 ty91) rfl (.store (.t rfl) (.t rfl) (i := 0) rfl ty91 rfl rfl (Ss' := [_, _, _, _, _, _]) rfl (M' := ((some _, cellM [_, _, _, _, _, _]) :: _ :: _ :: _)) rfl (nl (rtX0 (.inr rfl) Tryz.results121 rfl ?_)))))
  exact ⟨gr1, gt, rs', rfl, wk_clr hlen.symm rfl, by obtain rfl : i = rs.length := (by omega); exact hcl⟩
theorem bareiss_run {bw C : Nat} {gp : Gr Int} {gt : Gr Row} {rs : List Row} {K : Nat} (hrow : ∀ r ∈ rs, r.2.length = C) (hb : ∀ r ∈ rs, Bd r.2 K) (hC : C ≤ 64) (hR : rs.length ≤ 64) (hK1 : 1 ≤ K) (hK : (K + 1) * 2 ^ rs.length ≤ 100000000) : CtrX Tryz.prog 94 [isPtr bw 0] (wkM bw gp gt rs C [] 1 false) (fun S M => ∃ gp' gt' rs' ps' last' odd', S = isTup [] ∧ M = wkM bw gp' gt' rs' C ps' last' odd' ∧ RunI ⟨rs.map Prod.snd, [], 1, false⟩ C K rs.length C rs' ps' last' odd') := by
 refine CtrX.intro Tryz.func94 rfl (by kernel_rfl) Tryz.ntmps94 rfl fun w0 F0 => .cv (Cv.wk (.l [0] rfl)) (.seq fun _ k1 => .region (st (.as (.cI 0 rfl)) rfl (nl (.thn (k1 _ _ (.block (.loopF [0] (fun (z : { z : Nat × Gr Int × Gr Row × List Row × List Nat × Int × Bool // RunI ⟨rs.map Prod.snd, [], 1, false⟩ C K rs.length z.1 z.2.2.2.1 z.2.2.2.2.1 z.2.2.2.2.2.1 z.2.2.2.2.2.2 }) => match z with | ⟨(c, gp1, gt1, rs1, ps1, last1, odd1), hI⟩ => [(2, isI (c : Int))]) (fun M => fun (z : { z : Nat × Gr Int × Gr Row × List Row × List Nat × Int × Bool // RunI ⟨rs.map Prod.snd, [], 1, false⟩ C K rs.length z.1 z.2.2.2.1 z.2.2.2.2.1 z.2.2.2.2.2.1 z.2.2.2.2.2.2 }) => match z with | ⟨(c, gp1, gt1, rs1, ps1, last1, odd1), hI⟩ => wkM bw gp1 gt1 rs1 C ps1 last1 odd1) (fun (z : { z : Nat × Gr Int × Gr Row × List Row × List Nat × Int × Bool // RunI ⟨rs.map Prod.snd, [], 1, false⟩ C K rs.length z.1 z.2.2.2.1 z.2.2.2.2.1 z.2.2.2.2.2.1 z.2.2.2.2.2.2 }) => match z with | ⟨(c, gp1, gt1, rs1, ps1, last1, odd1), hI⟩ => C - c) (⟨(0, gp, gt, rs, [], 1, false), Nat.zero_le _, rfl, hrow, Nat.zero_le _, fun r hr => (hb r hr).mono (by show K ≤ (K + 1) * 1 - 1; omega), (by show (List.length (words (1 : Int).natAbs)) ≤ (K + 1) * 1 - 1; rw [nz_one]; omega), .zero⟩) (Cv.mem (.c 2 rfl ?_ (.l [0] rfl)) ?_) ?_)))))))
 ·rfl
 ·rfl
 rintro ⟨⟨c, gp1, gt1, rs1, ps1, last1, odd1⟩, hI⟩ K2 hK2
 refine .cv (Cv.wk (.l [2, 0] rfl)) (.memEq (M' := wkM bw gp1 gt1 rs1 C ps1 last1 odd1) rfl ?_)
 simp only [] at hI
 have hbn := hI.bnd
 have hpv := pv_len ps1
 have hlen1 := hI.hlen
 have hps1 := hI.hps
 have hcC := hI.hc
 refine .seq fun _ k3 => .seq fun _ k4 => .dr (.s [] rfl rfl rfl (.o rfl (.mv (.t rfl))) (.s [] rfl rfl rfl (.o rfl (.mv (.t rfl))) (.s [4] rfl rfl rfl (.o rfl (.nilc (.t rfl))) (.s [5] rfl rfl rfl (.o rfl (.fieldAddr (.t rfl) fld93_1 ty3)) (.s [6] rfl rfl rfl (.o rfl (.load1 (.t rfl) (i := 0) rfl ty3 rfl)) (.s [3, 7] rfl rfl rfl (.o rfl (.ltI (.t rfl) (.t rfl))) (.s [8] rfl rfl rfl (.o rfl (.mv (.t rfl))) (.s [9] rfl rfl rfl (.T rfl rfl rfl (fun hg => .mv (.t rfl))) (.s [9, 10] rfl rfl rfl (.T rfl rfl rfl (fun hg => .nilc (Has.g rfl hg))) (.s [9, 11] rfl rfl rfl (.T rfl rfl rfl (fun hg => .fieldAddr (Has.g rfl hg) fld93_2 ty91)) (.s [9, 12] rfl rfl rfl (.T rfl rfl rfl (fun hg => .load1 (Has.g rfl hg) (i := 0) rfl ty91 rfl)) (.s [9, 13] rfl rfl rfl (.T rfl rfl rfl (fun hg => .len sl91 (Has.g rfl hg))) (.s [9] rfl rfl rfl (.T rfl rfl rfl (fun hg => .mv (.t rfl))) (.s [9, 15] rfl rfl rfl (.T rfl rfl rfl (fun hg => .nilc (Has.g rfl hg))) (.s [9, 16] rfl rfl rfl (.T rfl rfl rfl (fun hg => .fieldAddr (Has.g rfl hg) fld93_0 ty90)) (.s [9, 17] rfl rfl rfl (.T rfl rfl rfl (fun hg => .load1 (Has.g rfl hg) (i := 0) rfl ty90 rfl)) (.s [9, 18] rfl rfl rfl (.T rfl rfl rfl (fun hg => .len sl90 (Has.g rfl hg))) (.fin (n := 17) mixed (by kernel_rfl) (by kernel_rfl) (by kernel_rfl) (.cv (Cv.wk (.l [0, 2, 3, 4, 5, 6, 7, 8, 9, 10, 11, 12, 13, 14, 15, 16, 17, 18, 19] rfl)) (stT rfl rfl (fun hg => .ltI (Has.g rfl hg) (Has.g rfl hg)) rfl (st (.pickAnd (.t rfl) (fun h => Has.g rfl h)) rfl (nl (.thn (k4 _ _ ?_))))))))))))))))))))))))
 refine .cond (.t rfl) (fun hc1 => ?_) (fun hc1 => ?_)
 ·have hc1 := BP.t hc1
  refine .skip (.thn (k3 _ _ (.seq fun _ k5 => .block (.seq fun _ k6 => .region (st (.mv (.t rfl)) rfl (st (.mv (.t rfl)) rfl (.callX (bareiss_find (col := c) hI.hrow hI.hb hC (by omega) (by omega) (by omega) (by omega)) (perm0 _) (.cons (.t rfl) (.cons (.t rfl) .nil)) rfl ?_)))))))
  rintro _ _ ⟨rs2, odd2, ok, rfl, rfl, hF⟩
  refine .memEq (M' := wkM bw gp1 gt1 rs2 C ps1 last1 odd2) (List.append_nil _) (nl (.thn (k6 _ _ (.cond (.t rfl) (fun hc2 => ?_) (fun hc2 => ?_)))))
  ·have hc2 := BP.t hc2
   subst hc2
   obtain ⟨r0, h0, hl2, htR, hrow2, hb2, hrun⟩ := hI.yes (by omega) hF
   refine .region (st (.mv (.t rfl)) rfl (st (.mv (.t rfl)) rfl (.callX (bareiss_clear (col := c) (r0 := r0) hrow2 hb2 hC (by omega) (by omega) (by omega) (by omega) hI.hl h0) (perm0 _) (.cons (.t rfl) (.cons (.t rfl) .nil)) rfl ?_)))
   rintro _ _ ⟨gp3, gt3, rs3, rfl, rfl, hcl⟩
   refine .memEq (M' := wkM bw gp3 gt3 rs3 C (ps1 ++ [c]) (cf r0.2 c) odd2) (List.append_nil _) (nl (.bln (.thn (k5 _ _ (.region (st (.mv (.t rfl)) rfl (st (.addI (.t rfl) (.cI 1 rfl) (by first | omega | assumption) (by first | omega | assumption)) rfl (st (.as (.t rfl)) rfl (nl (.thn (hK2 (⟨(c + 1, gp3, gt3, rs3, ps1 ++ [c], cf r0.2 c, odd2), hrun rs3 hcl⟩) _ _ ?_ (Cv.mem (.c 2 rfl ?_ (.l [0] rfl)) ?_))))))))))))
   ·show C - (c + 1) < C - c; omega
   ·exact isI_eq (by omega)
   ·rfl
  ·have hc2 := BP.f hc2
   subst hc2
   have hno := hI.no (by omega) hF
   refine .skip (.bln (.thn (k5 _ _ (.region (st (.mv (.t rfl)) rfl (st (.addI (.t rfl) (.cI 1 rfl) (by first | omega | assumption) (by first | omega | assumption)) rfl (st (.as (.t rfl)) rfl (nl (.thn (hK2 (⟨(c + 1, gp1, gt1, rs2, ps1, last1, odd2), hno⟩) _ _ ?_ (Cv.mem (.c 2 rfl ?_ (.l [0] rfl)) ?_)))))))))))
   ·show C - (c + 1) < C - c; omega
   ·exact isI_eq (by omega)
   ·rfl
 ·have hc1 := BP.f hc1
  refine .exit (.the (.the (.blh (rtX0 (.inr rfl) Tryz.results94 rfl (⟨gp1, gt1, rs1, ps1, last1, odd1, rfl, rfl, hI.fin (by omega)⟩)))))
theorem bareiss_done {R C K : Nat} {xs : List (Bool × List Nat)} (hx : Bd (vals xs) K) (hK1 : 1 ≤ K) (hR : R ≤ 64) (hC : C ≤ 64) (hl : xs.length = R * C) (hK : (K + 1) * 2 ^ R ≤ 100000000) : CtrX Tryz.prog 58 [isM (R : Int) (C : Int) xs] ([]) (fun S M => ∃ rs ps last odd, S = isTup [wkF (rs.map Prod.snd) C ps last odd, isI 0] ∧ M = [] ∧ RunI ⟨rowsOf R C (vals xs), [], 1, false⟩ C K R C rs ps last odd) := by
 refine CtrX.intro Tryz.func58 rfl (by kernel_rfl) Tryz.ntmps58 rfl fun w0 F0 => .cv (Cv.wk (.l [0] rfl)) ?_
 have hfo := formB_true hR hC hl
 refine .seq fun _ k1 => .region (.box (.t rfl) rfl fun b1 => st (.as Has.cP) rfl (st (.as (.cI 0 rfl)) rfl (nl (.thn (k1 _ _ (.seq fun _ k2 => .seq fun _ k3 => .region (st (.load (.t rfl) (i := 0) rfl ty27 rfl (Ss' := [_, _, _]) rfl) rfl (st (.eq (.call (zmat_Formed) (.cons (.t rfl) .nil)) ((show isB _ = isB true from isB_eq hfo))) rfl (st (.not (.t rfl)) rfl (nl (.thn (k3 _ _ (.cond (.t rfl) (fun hc1 => ?_) (fun hc1 => ?_))))))))))))))
 ·have hc1 := BP.t hc1
  simp at hc1
 ·have hc1 := BP.f hc1
  refine .skip (.thn (k2 _ _ (.seq fun _ k4 => .region (st (.load (.t rfl) (i := 0) rfl ty27 rfl (Ss' := [_, _, _]) rfl) rfl (.cv (Cv.drop ((.cons _ .slnil))) (.cv (Cv.wk (.l [0, 2, 3, 5, 6, 7, 8] rfl)) (.callX (bareiss_begun hx (by have := Nat.mul_le_mul_left (K + 1) (Nat.one_le_pow R 2 (by decide)); omega) hR hC hl) (perm0 _) (.cons (.t rfl) .nil) rfl ?_)))))))
  rintro _ _ ⟨bw, gt, rs0, rfl, rfl, hrs0⟩
  have hl0 : rs0.length = R := by have := congrArg List.length hrs0; rwa [List.length_map, rowsOf_len] at this
  obtain ⟨hrow0, hb0⟩ := rowsOf_all hx hrs0
  refine .memEq (M' := wkM bw Gr.nil gt rs0 C [] 1 false) (List.append_nil _) (st (.as (.t rfl)) rfl (nl (.thn (k4 _ _ (.cv (Cv.wk (.l [2, 3, 4] rfl)) (.seq fun _ k5 => .region (st (.mv (.t rfl)) rfl (.callX (bareiss_run (rs := rs0) hrow0 hb0 hC (by omega) hK1 (by rw [hl0]; exact hK)) (perm0 _) (.cons (.t rfl) .nil) rfl ?_))))))))
  rintro _ _ ⟨gp, gt2, rs, ps, last, odd, rfl, rfl, hRun⟩
  rw [hrs0, hl0] at hRun
  refine .memEq (M' := wkM bw gp gt2 rs C ps last odd) (List.append_nil _) (nl (.thn (k5 _ _ (.seq fun _ k6 => .cv (Cv.freezeWk (t := 4) rfl rfl) (.region (st (.mv (.t rfl)) rfl (st (.as (.t rfl)) rfl (st (.as (.cI 0 rfl)) rfl (nl (.thn (k6 _ _ (.ret (rtXN (.inl rfl) Tryz.results58 rfl rfl (.tmp (.t rfl) (.tmp (.t rfl) .nil)) (⟨rs, ps, last, odd, rfl, rfl, hRun⟩))))))))))))))
end Go.Proofs.YtcfobalbkhgdmaaGreat
namespace Go.Proofs.YtcfobalbkhgdmaaGreat
open Go.En Go.RowKit
set_option maxRecDepth 10000
set_option maxHeartbeats 4000000
open Go.Nt
open Go.Pz
open Go.Mz
open Go.Dt
theorem bareiss_RankX {R C K : Nat} {xs : List (Bool × List Nat)} (hx : Bd (vals xs) K) (hK1 : 1 ≤ K) (hR : R ≤ 64) (hC : C ≤ 64) (hl : xs.length = R * C) (hK : (K + 1) * 2 ^ R ≤ 100000000) : CtrX Tryz.prog 23 [isM (R : Int) (C : Int) xs] ([]) (fun S M => ∃ rs ps last odd, S = isTup [isI (ps.length : Int), isI 0] ∧ M = [] ∧ RunI ⟨rowsOf R C (vals xs), [], 1, false⟩ C K R C rs ps last odd) := by
 refine CtrX.intro Tryz.func23 rfl (by kernel_rfl) Tryz.ntmps23 rfl fun w0 F0 => .cv (Cv.wk (.l [0] rfl)) (.seq fun _ k1 => .region (.box (.t rfl) rfl fun b1 => st (.as (.cI 0 rfl)) rfl (st (.as (.cI 0 rfl)) rfl (nl (.thn (k1 _ _ (.seq fun _ k2 => .region (st (.load (.t rfl) (i := 0) rfl ty27 rfl (Ss' := [_, _, _]) rfl) rfl (.callX (bareiss_done hx hK1 hR hC hl hK) (List.Perm.refl _) (.cons (.t rfl) .nil) rfl ?_)))))))))
 rintro _ _ ⟨rs, ps, last, odd, rfl, rfl, hRun⟩
 have hpv := pv_len ps
 have hps := hRun.hps
 refine st (.mv (.t rfl)) rfl (st (.ext (.t rfl) rfl) rfl (st (.ext (.t rfl) rfl) rfl (st (.as (.t rfl)) rfl (st (.as (.t rfl)) rfl (nl (.thn (k2 _ _ (.cv (Cv.wk (.l [2, 3, 4, 5] rfl)) (.seq fun _ k3 => .seq fun _ k4 => .region (st (.mv (.t rfl)) rfl (st (.neI (.t rfl) (.cI 0 rfl)) rfl (nl (.thn (k4 _ _ (.cond (.t rfl) (fun hc1 => ?_) (fun hc1 => ?_))))))))))))))))
 ·have hc1 := BP.t hc1
  exact absurd rfl hc1
 ·have hc1 := BP.f hc1
  skip
  refine .skip (.thn (k3 _ _ (.seq fun _ k5 => .region (st (.mv (.t rfl)) rfl (st (.nilcP (.t rfl)) rfl (st (.fieldAddrP (.t rfl) fld93_2 ty91 (Ss' := [_, _, _, _]) rfl) rfl (st (.loadP1 (.t rfl) ty91) rfl (st (.len sl91 (.t rfl)) rfl (st (.as (.t rfl)) rfl (st (.as (.cI 0 rfl)) rfl (nl (.thn (k5 _ _ (.cv (Cv.wk (.l [2, 3] rfl)) (.ret (rtXND (.cons _ .slnil) (.inl rfl) Tryz.results23 rfl rfl (.tmp (.t rfl) (.tmp (.t rfl) .nil)) (⟨rs, ps, last, odd, congrArg (fun s => isTup [s, isI 0]) (isI_eq (by rw [hpv])), rfl, hRun⟩)))))))))))))))))
end Go.Proofs.YtcfobalbkhgdmaaGreat
namespace Go.Proofs.YtcfobalbkhgdmaaGreat
open Go.En Go.RowKit
set_option maxRecDepth 10000
set_option maxHeartbeats 4000000
open Go.Nt
open Go.Pz
theorem zpoly_Exact {xs ys : List (Bool × List Nat)} {K L : Nat} (hx : Bd (vals xs) K) (hy : Bd (vals ys) L) (hK : K + (xs.length + 2) * (L + 1) ≤ 400000000) (hn : xs.length ≤ 400000) (hm : ys.length ≤ 400000) : Ctr Tryz.prog 22 [SlK 2 zc xs, SlK 2 zc ys] (isTup [isP ((exq (vals xs) (vals ys)).getD []), isB (exq (vals xs) (vals ys)).isSome]) := by
 refine Ctr.intro Tryz.func22 rfl (by kernel_rfl) Tryz.ntmps22 rfl fun w0 F0 => .cv (Cv.wk (.l [0, 1] rfl)) (.fact (Has.lenLt (Has.t (t := 0) rfl)) fun lt0 => .fact (Has.lenLt (Has.t (t := 1) rfl)) fun lt1 => ?_)
 obtain ⟨A, hA⟩ : ∃ A, A = pnorm (vals xs) := ⟨_, rfl⟩
 obtain ⟨B, hB⟩ : ∃ B, B = pnorm (vals ys) := ⟨_, rfl⟩
 have hAl : A.length ≤ xs.length := by rw [hA, ← vals_len xs]; exact norm_len _
 have hBl : B.length ≤ ys.length := by rw [hB, ← vals_len ys]; exact norm_len _
 have bA : Bd A K := by rw [hA]; exact hx.norm
 have bB : Bd B L := by rw [hB]; exact hy.norm
 have hAn : pnorm A = A := by rw [hA]; exact norm_norm _
 have hBn : pnorm B = B := by rw [hB]; exact norm_norm _
 have hAm : (A.map nz).length = A.length := List.length_map _
 have hBm : (B.map nz).length = B.length := List.length_map _
 have hM1 : (A.length + 1 - B.length + 1) * (L + 1) ≤ (xs.length + 2) * (L + 1) := Nat.mul_le_mul_right _ (by omega)
 have hM2 : (A.length + 1 - B.length + 1) * (L + 1) = (A.length + 1 - B.length) * (L + 1) + (L + 1) := Nat.succ_mul _ _
 refine .seq fun _ k1 => .region (st (.as (.cWK (k := 2) (fk := zc))) rfl (st (.as (.cB false)) rfl (nl (.thn (k1 _ _ (.seq fun _ k2 => .region (st (.mv (.t rfl)) rfl (st (.eq (.call (zpoly_Norm hx (by omega) (by omega)) (.cons (.t rfl) .nil)) ((show isP (pnorm (vals xs)) = isP A from isP_eq hA.symm))) rfl (st (.mv (.t rfl)) rfl (st (.eq (.call (zpoly_Norm hy (by omega) (by omega)) (.cons (.t rfl) .nil)) ((show isP (pnorm (vals ys)) = isP B from isP_eq hB.symm))) rfl (st (.as (.t rfl)) rfl (st (.as (.t rfl)) rfl (nl (.thn (k2 _ _ (.seq fun _ k3 => .seq fun _ k4 => .region (st (.mv (.t rfl)) rfl (st (.len sl23 (.t rfl)) rfl (st (.eqI (.t rfl) (.cI 0 rfl)) rfl (nl (.thn (k4 _ _ (.cv (Cv.wk (.l [0, 1, 4, 5, 16] rfl)) (.cond (.t rfl) (fun hc1 => ?_) (fun hc1 => ?_)))))))))))))))))))))))))
 ·have hc1 := BP.t hc1
  have HE := hc1
  refine .seq fun _ k5 => .region (st (.as (.cWK (k := 2) (fk := zc))) rfl (st (.as (.cB false)) rfl (nl (.thn (k5 _ _ (.ret (.thr (rtN (.inl rfl) Tryz.results22 rfl rfl (.tmp (Has.t' rfl ?_) (.tmp (Has.t' rfl ?_) .nil))))))))))
  ·exact isP_nil (by rw [exq_nil (by rw [← hB]; exact List.eq_nil_of_length_eq_zero (by omega))]; rfl)
  ·exact isB_eq (by rw [exq_nil (by rw [← hB]; exact List.eq_nil_of_length_eq_zero (by omega))]; rfl)
 ·have hc1 := BP.f hc1
  have HE := hc1
  rw [hBm] at HE
  have hB0 : 0 < B.length := Nat.pos_of_ne_zero (by omega)
  have hBv : pnorm (vals ys) ≠ [] := by rw [← hB]; exact List.length_pos_iff.1 hB0
  have hld : cf B (B.length - 1) ≠ 0 := by rw [hB]; exact lead_ne hBv
  refine .skip (.thn (k3 _ _ (.seq fun _ k6 => .region (st (.mv (.t rfl)) rfl (st (.len sl23 (.t rfl)) rfl (st (.mv (.t rfl)) rfl (st (.len sl23 (.t rfl)) rfl (st (.subI (.t rfl) (.t rfl) (by first | omega | assumption) (by first | omega | assumption)) rfl (st (.addI (.t rfl) (.cI 1 rfl) (by first | omega | assumption) (by first | omega | assumption)) rfl (st (.eq (.maxI (.t rfl) (.cI 0 rfl)) ((show isI _ = isI ((A.length + 1 - B.length : Nat) : Int) from isI_eq (by split <;> omega)))) rfl (.makeK (fk := zc) (u := (false, [])) (n := A.length + 1 - B.length) (c := A.length + 1 - B.length) sl23 ty36 zero36 (fun _ _ => ⟨rfl, nilM _ _, trivial⟩) zc_len by36 (Has.t' rfl rfl) (Has.t' rfl rfl) ⟨by omega, by omega⟩ rfl fun b1 => st (.as (.t rfl)) rfl (nl (.thn (k6 _ _ (.cv (Cv.wk (.l [0, 1, 4, 5, 6] rfl)) (.seq fun _ k7 => .seq fun _ k8 => .region (st (.mv (.t rfl)) rfl (st (.len sl23 (.t rfl)) rfl (st (.subI (.t rfl) (.cI 1 rfl) (by first | omega | assumption) (by first | omega | assumption)) rfl (st (.as (.t rfl)) rfl (nl (.thn (k8 _ _ (.block (.loopF [1, 6] (fun (z : { z : Nat × List Int × List Int // ExI (cf B (B.length - 1)) B A K L (A.length + 1 - B.length) z.1 z.2.1 z.2.2 }) => match z with | ⟨(m, q, a), hI⟩ => [(0, isP a), (7, isI ((m : Int) - 1))]) (fun M => fun (z : { z : Nat × List Int × List Int // ExI (cf B (B.length - 1)) B A K L (A.length + 1 - B.length) z.1 z.2.1 z.2.2 }) => match z with | ⟨(m, q, a), hI⟩ => [(some b1, cellM ((List.replicate m (false, []) ++ q.map nz).flatMap zc))]) (fun (z : { z : Nat × List Int × List Int // ExI (cf B (B.length - 1)) B A K L (A.length + 1 - B.length) z.1 z.2.1 z.2.2 }) => match z with | ⟨(m, q, a), hI⟩ => m) (⟨(A.length + 1 - B.length, [], A), ExI.start bA hAn⟩) (Cv.mem (.c 0 rfl ?_ (.c 7 rfl ?_ (.l [1, 6] rfl))) ?_) ?_)))))))))))))))))))))))))
  ·rfl
  ·rfl
  ·exact memZ_eq (by rw [List.map_nil, List.append_nil])
  rintro ⟨⟨m, q, a⟩, hI⟩ K9 hK9
  refine .cv (Cv.wk (.l [0, 7, 1, 6] rfl)) (.memEq (M' := [(some b1, cellM ((List.replicate m (false, []) ++ q.map nz).flatMap zc))]) rfl ?_)
  simp only [] at hI
  have hbb := hI.bnd
  have hle := hI.le
  have hql : (q.map nz).length = q.length := List.length_map _
  have hlq := hI.lq
  refine .seq fun _ k10 => .seq fun _ k11 => .region (st (.mv (.t rfl)) rfl (st (.geI (.t rfl) (.cI 0 rfl)) rfl (nl (.thn (k11 _ _ (.cond (.t rfl) (fun hc2 => ?_) (fun hc2 => ?_)))))))
  ·have hc2 := BP.t hc2
   obtain ⟨n, rfl⟩ : ∃ n, m = n + 1 := ⟨m - 1, by omega⟩
   refine .skip (.thn (k10 _ _ (.seq fun _ k12 => .block (.seq fun _ k13 => .drh [true] (Ms := [_]) rfl (.s [] rfl rfl rfl (.o rfl (.mv (.t rfl))) (.s [] rfl rfl rfl (.o rfl (.eq (.mv (.t rfl)) ((show isI _ = isI (n : Int) from isI_eq (by omega))))) (.s [] rfl rfl rfl (.o rfl (.mv (.t rfl))) (.s [35] rfl rfl rfl (.o rfl (.len sl23 (.t rfl))) (.s [34, 36] rfl rfl rfl (.o rfl (.addI (.t rfl) (.t rfl) (by first | omega | assumption) (by first | omega | assumption))) (.s [37] rfl rfl rfl (.o rfl (.eq (.subI (.t rfl) (.cI 1 rfl) (by first | omega | assumption) (by first | omega | assumption)) ((show isI _ = isI ((n + B.length - 1 : Nat) : Int) from isI_eq (by omega))))) (.s [33, 38] rfl rfl rfl (.o rfl (.eq (.call (zpoly_at) (.cons (.t rfl) (.cons (.t rfl) .nil))) ((zc_eq (q := nz (cf a (n + B.length - 1))) (by rw [getD_nz]))))) (.s [] rfl rfl rfl (.o rfl (.mv (.t rfl))) (.s [] rfl rfl rfl (.o rfl (.mv (.t rfl))) (.s [41] rfl rfl rfl (.o rfl (.len sl23 (.t rfl))) (.s [42] rfl rfl rfl (.o rfl (.subI (.t rfl) (.cI 1 rfl) (by first | omega | assumption) (by first | omega | assumption))) (.s [40, 43] rfl rfl rfl (.o rfl (.ixK sl23 ty36 (.t rfl) (.t rfl) zc_len ⟨by omega, by omega⟩ (getD_some (d := (false, [])) (by first | omega | (simp only [Int.toNat_natCast, List.length_set]; omega))))) ?_))))))))))))))))
   refine .s [44] rfl rfl rfl (.o rfl (.eq (.loadP (.t rfl) ty36 rfl (Ss' := [_, _]) rfl) ((zc_eq (q := nz (cf B (B.length - 1))) (by rw [getD_nz]; congr 2; omega))))) ?_
   refine .s [39, 45] rfl rfl rfl (.o rfl (.eq (.call (zint_Exact (by rw [val_words]; have := hbb (n + B.length - 1); omega) (by rw [val_words]; have := bB (B.length - 1); omega)) (.cons (.t rfl) (.cons (.t rfl) .nil))) ((exEq (zv_nf _) (zv_nf _))))) ?_
   refine .s [46] rfl rfl rfl (.o rfl (.mv (.t rfl))) (.s [32] rfl rfl rfl (.o rfl (.ext (.t rfl) rfl)) (.s [32] rfl rfl rfl (.o rfl (.ext (.t rfl) rfl)) (.als2 (n1 := 18) (ds := [8]) (zs := [[isB false, SlM isU []]]) rfl (.cons rfl rfl zero36 (fun _ _ => ⟨rfl, nilM _ _, trivial⟩) .nil) (.cons_cons _ .slnil) (Cs := [_]) rfl (.new [47] 0 (Ss' := [_, _]) (Cs' := [cellM [_, _]]) rfl (by kernel_rfl) (by kernel_rfl) rfl rfl rfl (by kernel_rfl) rfl (.t rfl) ty36 rfl rfl rfl rfl (.fin (n := 19) mixed rfl (by kernel_rfl) (by kernel_rfl) (by kernel_rfl) (fun bs hbs => ?_))))))
   obtain ⟨b2, rfl⟩ := len1 hbs
   refine .memEq (M' := [_, _]) rfl (.cv (Cv.wk (.k 1 rfl (.k 6 rfl (.k 0 rfl (.k 7 rfl (.k 28 rfl (.k 29 rfl (.k 33 rfl (.k 34 rfl (.k 35 rfl (.k 36 rfl (.k 37 rfl (.k 38 rfl (.k 39 rfl (.k 40 rfl (.k 41 rfl (.k 42 rfl (.k 43 rfl (.k 44 rfl (.k 45 rfl (.k 46 rfl (.k 32 rfl (.k 47 rfl (.k 48 rfl (.cons (t := 8) (Has.op rfl) .nil))))))))))))))))))))))))) (st (.as (.t rfl)) rfl (nl (.thn (k13 _ _ (.seq fun _ k14 => .seq fun _ k15 => .region (st (.mv (.t rfl)) rfl (st (.not (.t rfl)) rfl (nl (.thn (k15 _ _ (.cond (.t rfl) (fun hc3 => ?_) (fun hc3 => ?_)))))))))))))
   ·have hc3 := BP.t hc3
    have hno : exq (vals xs) (vals ys) = none := ExI.no (K := K) (L := L) (m0 := A.length + 1 - B.length) (n := n) (q := q) (r := a) hBv (by rw [← hA, ← hB]) (by rw [← hA, ← hB]; exact hI) (by rw [← hB]; intro h; simp [hld, h] at hc3)
    refine .seq fun _ k16 => .region (st (.as (.cWK (k := 2) (fk := zc))) rfl (st (.as (.cB false)) rfl (nl (.thn (k16 _ _ (.ret (.thr (.blr (.thr (.thr (.blr (.thr (rtN (.inl rfl) Tryz.results22 rfl rfl (.tmp (Has.t' rfl ?_) (.tmp (Has.t' rfl ?_) .nil)))))))))))))))
    ·exact isP_nil (by rw [hno]; rfl)
    ·exact isB_eq (by rw [hno]; rfl)
   ·have hc3 := BP.f hc3
    have hdv : (cf a (n + B.length - 1)).tmod (cf B (B.length - 1)) = 0 := (by simp at hc3; exact hc3.2)
    refine .skip (.thn (k14 _ _ (.seq fun _ k17 => .region (st (.mv (.t rfl)) rfl (st (.eq (.mv (.t rfl)) ((show isI _ = isI (n : Int) from isI_eq (by omega)))) rfl (st (.eq (.load (.t rfl) (i := 0) rfl ty36 rfl (Ss' := [_, _]) rfl) ((show isZ (if cf B (B.length - 1) ≠ 0 ∧ (cf a (n + B.length - 1)).tmod (cf B (B.length - 1)) = 0 then (cf a (n + B.length - 1)).tdiv (cf B (B.length - 1)) else 0) = isZ ((cf a (n + B.length - 1)).tdiv (cf B (B.length - 1))) from isZ_eq (if_pos ⟨hld, hdv⟩)))) rfl (st (.eq (.ixWin sl23 ty36 (.t rfl) (.t rfl) ⟨by omega, by omega⟩) (isPtr_eq (by first | exact ixo0 | exact ixo2 | exact ixo1))) rfl (.storeK (z := nz ((cf a (n + B.length - 1)).tdiv (cf B (B.length - 1)))) zc_len (.t rfl) (.t rfl) (i := 1) rfl ty36 (by rw [List.length_append, List.length_replicate]; show n < _; omega) (M' := [_, (_, _)]) rfl ?_))))))))
    refine nl (.thn (k17 _ _ (.region (st (.mv (.t rfl)) rfl (st (.mv (.t rfl)) rfl (st (.eq (.load (.t rfl) (i := 0) rfl ty36 rfl (Ss' := [_, _]) rfl) ((show isZ (if cf B (B.length - 1) ≠ 0 ∧ (cf a (n + B.length - 1)).tmod (cf B (B.length - 1)) = 0 then (cf a (n + B.length - 1)).tdiv (cf B (B.length - 1)) else 0) = isZ ((cf a (n + B.length - 1)).tdiv (cf B (B.length - 1))) from isZ_eq (if_pos ⟨hld, hdv⟩)))) rfl (st (.eq (.call (zpoly_Scale (by rw [vals_nz]; exact bB) (by rw [val_words]; exact Nat.le_trans (nz_tdiv _ _) (hbb _)) (by omega) (by rw [List.length_map]; omega)) (.cons (.t rfl) (.cons (.t rfl) .nil))) (by (try simp only [getD_nz]); (try simp only [vals_nz]); (try simp only [zv_nz]); (try simp only [zv_nf]); rfl)) rfl ?_)))))))
    refine st (.eq (.mv (.t rfl)) ((show isI _ = isI (n : Int) from isI_eq (by omega)))) rfl (st (.call (zpoly_shifted (l := pscale B ((cf a (n + B.length - 1)).tdiv (cf B (B.length - 1)))) (n := n) (by have := scale_len B ((cf a (n + B.length - 1)).tdiv (cf B (B.length - 1))); omega)) (.cons (.t rfl) (.cons (.t rfl) .nil))) rfl ?_)
    refine st (.eq (.call (zpoly_Sub (K := K + (A.length + 1 - B.length) * (L + 1) + L) (by rw [vals_nz]; exact hbb.mono (by omega)) (by rw [vals_nz]; exact ((bB.scale (Nat.le_trans (nz_tdiv _ _) (hbb _))).shift _).mono (by omega)) (by omega) (by rw [List.length_map]; have := hI.la; omega) (by rw [List.length_map, Go.Pz.shift_len]; have := scale_len B ((cf a (n + B.length - 1)).tdiv (cf B (B.length - 1))); omega)) (.cons (.t rfl) (.cons (.t rfl) .nil))) (by (try simp only [getD_nz]); (try simp only [vals_nz]); (try simp only [zv_nz]); (try simp only [zv_nf]); rfl)) rfl ?_
    refine st (.as (.t rfl)) rfl (nl (.bln (.thn (k12 _ _ (.region (st (.mv (.t rfl)) rfl (st (.subI (.t rfl) (.cI 1 rfl) (by first | omega | assumption) (by first | omega | assumption)) rfl (st (.as (.t rfl)) rfl (nl (.thn (hK9 (⟨(n, _, _), hI.step bB (by omega) hdv⟩) _ _ ?_ (Cv.trans (Cv.drop ((.cons _ (.cons_cons _ .slnil)))) (Cv.mem (.c 0 rfl ?_ (.c 7 rfl ?_ (.l [1, 6] rfl))) ?_)))))))))))))
    ·show n < n + 1; omega
    ·rfl
    ·exact isI_eq (by omega)
    ·exact memZ_eq (rep_set _ _ _ _)
  ·have hc2 := BP.f hc2
   have HZ : m = 0 := (by omega)
   refine .exit (.the (.the (.blh (.thn (k7 _ _ (.seq fun _ k18 => .seq fun _ k19 => .region (st (.mv (.t rfl)) rfl (st (.len sl23 (.t rfl)) rfl (st (.gtI (.t rfl) (.cI 0 rfl)) rfl (nl (.thn (k19 _ _ (.cv (Cv.wk (.l [6, 64] rfl)) (.cond (.t rfl) (fun hc4 => ?_) (fun hc4 => ?_)))))))))))))))
   ·have hc4 := BP.t hc4
    have hex := ExI.done (a := vals xs) (b := vals ys) (K := K) (L := L) (m0 := A.length + 1 - B.length) hBv (by rw [← hA, ← hB]) (by rw [← hA, ← hB]; exact HZ ▸ hI)
    rw [if_neg (by rintro rfl; simp at hc4)] at hex
    refine .seq fun _ k20 => .region (st (.as (.cWK (k := 2) (fk := zc))) rfl (st (.as (.cB false)) rfl (nl (.thn (k20 _ _ (.ret (.thr (rtN (.inl rfl) Tryz.results22 rfl rfl (.tmp (Has.t' rfl ?_) (.tmp (Has.t' rfl ?_) .nil))))))))))
    ·exact isP_nil (by rw [hex]; rfl)
    ·exact isB_eq (by rw [hex]; rfl)
   ·have hc4 := BP.f hc4
    have hex := ExI.done (a := vals xs) (b := vals ys) (K := K) (L := L) (m0 := A.length + 1 - B.length) hBv (by rw [← hA, ← hB]) (by rw [← hA, ← hB]; exact HZ ▸ hI)
    rw [if_pos (List.eq_nil_of_length_eq_zero (by rw [List.length_map] at hc4; omega))] at hex
    refine .skip (.thn (k18 _ _ (.seq fun _ k21 => .cv (Cv.freezeK (t := 6) (i := 0) (ys := q.map nz) zc_len rfl rfl rfl (by rw [List.length_append, List.length_replicate]; omega) (by subst HZ; rw [List.take_of_length_le (by rw [List.length_append, List.length_replicate]; omega)]; rfl)) ?_)))
    refine .memEq (M' := []) rfl (.cv (Cv.wk (.l [6, 64] rfl)) (.region (st (.mv (.t rfl)) rfl (st (.eq (.call (zpoly_Norm (by rw [vals_nz]; exact hI.bq) (by omega) (by rw [List.length_map]; have := hI.lq; omega)) (.cons (.t rfl) .nil)) (by (try simp only [getD_nz]); (try simp only [vals_nz]); (try simp only [zv_nz]); (try simp only [zv_nf]); rfl)) rfl ?_))))
    refine st (.as (.t rfl)) rfl (st (.as (.cB true)) rfl (nl (.thn (k21 _ _ (.ret (rtN (.inl rfl) Tryz.results22 rfl rfl (.tmp (Has.t' rfl ?_) (.tmp (Has.t' rfl ?_) .nil))))))))
    ·exact isP_eq (by rw [hex]; rfl)
    ·exact isB_eq (by rw [hex]; rfl)
end Go.Proofs.YtcfobalbkhgdmaaGreat
namespace Go.Proofs.YtcfobalbkhgdmaaGreat
open Go.En Go.RowKit
set_option maxRecDepth 10000
set_option maxHeartbeats 4000000
open Go.Nt
open Go.Pz
open Go.Mz
open Go.Hn
open Go.Hp
open Go.Dt
open Go.Ch
open Go.Mi
theorem c_ZcharMins_bad (r c : Int) (xs : List (Bool × List Nat)) (hf : (formB r c xs.length && decide (r = c)) = false) : Ctr Tryz.prog 4 [isM r c xs] (isB true) := by
 refine Ctr.intro Tryz.func4 rfl (by kernel_rfl) Tryz.ntmps4 rfl fun w0 F0 => .cv (Cv.wk (.l [0] rfl)) (.seq fun _ k1 => .region (.box (.t rfl) rfl fun b1 => st (.as (.cB false)) rfl (nl (.thn (k1 _ _ (.seq fun _ k2 => .seq fun _ k3 => .region (st (.call (law26_awake) .nil) rfl (st (.not (.t rfl)) rfl (st (.mv (.t rfl)) rfl (stF rfl rfl (fun hg => .load (.t rfl) (i := 0) rfl ty27 rfl (Ss' := [_, _, _]) rfl) rfl (stF rfl rfl (fun hg => .call (ref11_Few) (.cons (Has.g rfl hg) (.cons (.cI 3 rfl) (.cons (.cI 1 rfl) .nil)))) rfl (stF rfl rfl (fun hg => .not (Has.g rfl hg)) rfl (st (.pickOr (.t rfl) (fun h => Has.g rfl (ng h))) rfl (nl (.thn (k3 _ _ (.cv (Cv.wk (.l [1, 2, 18] rfl)) (.cond (.t rfl) (fun hc1 => ?_) (fun hc1 => ?_)))))))))))))))))))
 ·have hc1 := BP.t hc1
  refine .seq fun _ k4 => .region (st (.call (law26_awake) .nil) rfl (st (.as (.t rfl)) rfl (nl (.thn (k4 _ _ (.ret (.thr (rt1 (.inl rfl) Tryz.results4 rfl (.tmp (Has.t' rfl ?_) .nil)))))))))
  all_goals (rfl)
 ·have hc1 := BP.f hc1
  refine .skip (.thn (k2 _ _ (.seq fun _ k5 => .region (st (.load (.t rfl) (i := 0) rfl ty27 rfl (Ss' := [_, _, _]) rfl) rfl (st (.call (zchar_Min_bad hf) (.cons (.t rfl) .nil)) rfl (st (.mv (.t rfl)) rfl (st (.ext (.t rfl) rfl) rfl (st (.ext (.t rfl) rfl) rfl (st (.as (.t rfl)) rfl (st (.as (.t rfl)) rfl (nl (.thn (k5 _ _ (.cv (Cv.wk (.l [1, 2, 3, 4] rfl)) (.seq fun _ k6 => .seq fun _ k7 => .region (st (.load (.t rfl) (i := 0) rfl ty27 rfl (Ss' := [_, _, _]) rfl) rfl (st (.eq (.call (law26_square) (.cons (.t rfl) .nil)) ((show isB _ = isB false from isB_eq (hf)))) rfl (st (.not (.t rfl)) rfl (nl (.thn (k7 _ _ (.cond (.t rfl) (fun hc2 => ?_) (fun hc2 => ?_)))))))))))))))))))))))
  ·have hc2 := BP.t hc2
   refine .seq fun _ k8 => .region (st (.mv (.t rfl)) rfl (st (.eqI (.t rfl) (.cI 2 rfl)) rfl (st (.mv (.t rfl)) rfl (stT rfl rfl (fun hg => .mv (.t rfl)) rfl (stT rfl rfl (fun hg => .len sl23 (Has.g rfl hg)) rfl (stT rfl rfl (fun hg => .eqI (Has.g rfl hg) (.cI 0 rfl)) rfl (st (.pickAnd (.t rfl) (fun h => Has.g rfl h)) rfl (st (.as (.t rfl)) rfl (nl (.thn (k8 _ _ (.cv (Cv.wk (.l [1, 2, 3, 4] rfl)) (.ret (.thr (rt1 (.inl rfl) Tryz.results4 rfl (.tmp (Has.t' rfl ?_) .nil))))))))))))))))
   all_goals (rfl)
  ·have hc2 := BP.f hc2
   exfalso; simp at hc2
theorem c_ZcharMins_ok (n : Nat) (xs : List (Bool × List Nat)) (hn : n ≤ 64) (hl : xs.length = n * n) : CtrX Tryz.prog 4 [isM (n : Int) (n : Int) xs] ([]) (fun S M => S = isB true) := by
 refine CtrX.intro Tryz.func4 rfl (by kernel_rfl) Tryz.ntmps4 rfl fun w0 F0 => .cv (Cv.wk (.l [0] rfl)) (.fact (Has.okM (Has.t (t := 0) rfl)) fun okp0 => ?_)
 have h11 : (List.length (words (1 : Int).natAbs)) ≤ 1 := nw_small' (by decide)
 have hfo := formB_true hn hn hl
 have hfs : (formB (n : Int) (n : Int) xs.length && decide ((n : Int) = (n : Int))) = true := by rw [hfo]; simp
 obtain ⟨d, x, t, hdn, hmin, hdiv⟩ := min_ex n (vals xs)
 refine .seq fun _ k1 => .region (.box (.t rfl) rfl fun b1 => st (.as (.cB false)) rfl (nl (.thn (k1 _ _ (.seq fun _ k2 => .seq fun _ k3 => .region (st (.call (law26_awake) .nil) rfl (st (.not (.t rfl)) rfl (st (.mv (.t rfl)) rfl (stF rfl rfl (fun hg => .load (.t rfl) (i := 0) rfl ty27 rfl (Ss' := [_, _, _]) rfl) rfl (stF rfl rfl (fun hg => .call (ref11_Few) (.cons (Has.g rfl hg) (.cons (.cI 3 rfl) (.cons (.cI 1 rfl) .nil)))) rfl (stF rfl rfl (fun hg => .not (Has.g rfl hg)) rfl (st (.pickOr (.t rfl) (fun h => Has.g rfl (ng h))) rfl (nl (.thn (k3 _ _ (.cv (Cv.wk (.l [1, 2, 18] rfl)) (.cond (.t rfl) (fun hc1 => ?_) (fun hc1 => ?_))))))))))))))))))
 ·have hc1 := BP.t hc1
  skip
  refine .seq fun _ k4 => .region (st (.call (law26_awake) .nil) rfl (st (.as (.t rfl)) rfl (nl (.thn (k4 _ _ (.ret (.thr (rtX1 (.inl rfl) Tryz.results4 rfl (.tmp (.t rfl) .nil) (rfl)))))))))
 ·have hc1 := BP.f hc1
  have HF0 : (n : Int) ≤ 3 ∧ fewB xs 100 1 = true := (by simpa [and_assoc] using hc1)
  obtain ⟨hn3, HF⟩ := HF0
  obtain ⟨_, hb⟩ := fewB_bd (N := 100) (K := 1) okp0 HF rfl rfl (by decide)
  have hn3' : n ≤ 3 := (by omega)
  have hd64 : d ≤ 64 := (by omega)
  have hd1 : d * (1 + n) ≤ 3 * 4 := Nat.mul_le_mul (by omega) (by omega)
  have hd2 : (d + 1) * (1 + n) ≤ 4 * 4 := Nat.mul_le_mul (by omega) (by omega)
  have hsz : 8 ^ d * (1 + d * (1 + n)) ≤ 512 * 13 := Nat.mul_le_mul (Nat.pow_le_pow_right (by decide) (show d ≤ 3 by omega)) (by omega)
  have hmb := (mnL_bd hb hmin).mono hsz
  have hml : ((mnL x d).map nz).length = d + 1 := by rw [List.length_map, mnL_len]
  have hmw : (List.length (words (cf (mnL x d) d).natAbs)) ≤ 512 * 13 := hmb d
  have hnn : n * n ≤ 9 := Nat.mul_le_mul hn3' hn3'
  have hfb : flB n 1 n ≤ 1 + 2 * 8 := Nat.add_le_add_left (Nat.mul_le_mul (by omega) (by omega)) _
  have hcb := (chL_bd (n := n) hb).mono (show 1 + flB n 1 n + 2 * n + 1 ≤ 100 by omega)
  have hcl : ((chL n (vals xs)).map nz).length = n + 1 := by rw [List.length_map, chL_len]
  have hfpb := (fpL_bd (n := n) hb d).mono (show 1 + d * (1 + n) ≤ 13 by omega)
  have hfpl : ((fpL n (vals xs) d).map nz).length = d * (n * n) := by rw [List.length_map, fpL_len]
  have p3 : (13 + 1) * 2 ^ d ≤ 14 * 8 := Nat.mul_le_mul_left _ (Nat.pow_le_pow_right (by decide) (show d ≤ 3 by omega))
  have hne := hmin.rank
  refine .skip (.thn (k2 _ _ (.seq fun _ k5 => .region (st (.load (.t rfl) (i := 0) rfl ty27 rfl (Ss' := [_, _, _]) rfl) rfl (st (.call (zchar_Min (K := 1) hb (by omega) hl hmin hd64 (by omega)) (.cons (.t rfl) .nil)) rfl (st (.mv (.t rfl)) rfl (st (.ext (.t rfl) rfl) rfl (st (.ext (.t rfl) rfl) rfl (st (.as (.t rfl)) rfl (st (.as (.t rfl)) rfl (nl (.thn (k5 _ _ (.cv (Cv.wk (.l [1, 2, 3, 4] rfl)) (.seq fun _ k6 => .seq fun _ k7 => .region (st (.load (.t rfl) (i := 0) rfl ty27 rfl (Ss' := [_, _, _]) rfl) rfl (st (.eq (.call (law26_square) (.cons (.t rfl) .nil)) ((show isB _ = isB true from isB_eq (hfs)))) rfl (st (.not (.t rfl)) rfl (nl (.thn (k7 _ _ (.cond (.t rfl) (fun hc2 => ?_) (fun hc2 => ?_)))))))))))))))))))))))
  ·have hc2 := BP.t hc2
   exfalso; simp at hc2
  ·have hc2 := BP.f hc2
   skip
   refine .skip (.thn (k6 _ _ (.seq fun _ k8 => .region (st (.mv (.t rfl)) rfl (st (.eq (.len sl23 (.t rfl)) ((show isI _ = isI ((d + 1 : Nat) : Int) from isI_eq (by rw [hml])))) rfl (st (.eq (.subI (.t rfl) (.cI 1 rfl) (by first | omega | assumption) (by first | omega | assumption)) ((show isI _ = isI (d : Int) from isI_eq (by omega)))) rfl (st (.as (.t rfl)) rfl (nl (.thn (k8 _ _ (.cv (Cv.wk (.l [1, 2, 3, 4, 5] rfl)) (.seq fun _ k9 => .seq fun _ k10 => .dr (.s [] rfl rfl rfl (.o rfl (.mv (.t rfl))) (.s [38] rfl rfl rfl (.o rfl (.neI (.t rfl) (.cI 0 rfl))) (.s [39] rfl rfl rfl (.o rfl (.mv (.t rfl))) (.s [40] rfl rfl rfl (.F rfl rfl rfl (fun hg => .mv (.t rfl))) (.s [40, 41] rfl rfl rfl (.F rfl rfl rfl (fun hg => .ltI (Has.g rfl hg) (.cI 0 rfl))) (.s [40, 42] rfl rfl rfl (.o rfl (.pickOr (.t rfl) (fun h => Has.g rfl (ng h)))) (.s [43] rfl rfl rfl (.o rfl (.mv (.t rfl))) (.s [44] rfl rfl rfl (.F rfl rfl rfl (fun hg => .mv (.t rfl))) (.s [44] rfl rfl rfl (.F rfl rfl rfl (fun hg => .fieldAddr (.t rfl) fld27_0 ty3)) (.s [44, 46] rfl rfl rfl (.F rfl rfl rfl (fun hg => .load1 (Has.g rfl hg) (i := 0) rfl ty3 rfl)) (.s [44, 45, 47] rfl rfl rfl (.F rfl rfl rfl (fun hg => .gtI (Has.g rfl hg) (Has.g rfl hg))) (.s [44, 48] rfl rfl rfl (.o rfl (.pickOr (.t rfl) (fun h => Has.g rfl (ng h)))) (.s [49] rfl rfl rfl (.o rfl (.mv (.t rfl))) (.s [50] rfl rfl rfl (.F rfl rfl rfl (fun hg => .mv (.t rfl))) ?_))))))))))))))))))))))))))
   refine .s [50, 51] rfl rfl rfl (.F rfl rfl rfl (fun hg => have hg' := BP.t hg; OK1.eq (.call (ref10_Normal (l := mnL x d) (K := 512 * 13) hmb (by decide)) (.cons (Has.g rfl hg) .nil)) ((show isB _ = isB true from isB_eq (decide_eq_true (mnL_norm x d)))))) ?_
   refine .s [50, 52] rfl rfl rfl (.F rfl rfl rfl (fun hg => .not (Has.g rfl hg))) (.s [50, 53] rfl rfl rfl (.o rfl (.pickOr (.t rfl) (fun h => Has.g rfl (ng h)))) (.s [54] rfl rfl rfl (.o rfl (.mv (.t rfl))) (.s [55] rfl rfl rfl (.F rfl rfl rfl (fun hg => .mv (.t rfl))) (.s [55] rfl rfl rfl (.F rfl rfl rfl (fun hg => .mv (.t rfl))) ?_))))
   refine .s [55, 56, 57] rfl rfl rfl (.F rfl rfl rfl (fun hg => have hg' := BP.t hg; OK1.ixK sl23 ty36 (Has.g rfl hg) (Has.g rfl hg) zc_len ⟨by omega, by omega⟩ (getZ (l := mnL x d) (i := d) (by rw [mnL_len]; omega)))) ?_
   refine .s [55, 58] rfl rfl rfl (.F rfl rfl rfl (fun hg => .loadP (Has.g rfl hg) ty36 rfl (Ss' := [_, _]) rfl)) (.s [55] rfl rfl rfl (.F rfl rfl rfl (fun hg => .call (zint_Of) (.cons (.cI 1 rfl) .nil))) ?_)
   refine .s [55, 59, 60] rfl rfl rfl (.F rfl rfl rfl (fun hg => have hg' := BP.t hg; OK1.eq (.call (zint_Same (by rw [val_words]; omega) (by rw [val_words]; omega)) (.cons (Has.g rfl hg) (.cons (Has.g rfl hg) .nil))) ((show isB _ = isB true from isB_eq (decide_eq_true (by simp only [zv_nf, zv_nz]; exact mnL_top x d)))))) ?_
   refine .s [55, 61] rfl rfl rfl (.F rfl rfl rfl (fun hg => .not (Has.g rfl hg))) (.s [55, 62] rfl rfl rfl (.o rfl (.pickOr (.t rfl) (fun h => Has.g rfl (ng h)))) (.s [63] rfl rfl rfl (.o rfl (.mv (.t rfl))) (.s [64] rfl rfl rfl (.F rfl rfl rfl (fun hg => .mv (.t rfl))) (.s [64] rfl rfl rfl (.F rfl rfl rfl (fun hg => .load (.t rfl) (i := 0) rfl ty27 rfl (Ss' := [_, _, _]) rfl)) (.fin (n := 29) mixed (by kernel_rfl) (by kernel_rfl) (by kernel_rfl) (.cv (Cv.wk (.l [1, 2, 3, 5, 64, 65, 66] rfl)) ?_))))))
   refine stF rfl rfl (fun hg => have hg' := BP.t hg; OK1.eq (.call (ref26_Value (K := 1) (Q := 512 * 13) (qs := (mnL x d).map nz) hb (by rw [vals_nz]; exact hmb) (by rw [hml]; omega) hn hl) (.cons (Has.g rfl hg) (.cons (Has.g rfl hg) .nil))) ((show _ = isP (vlL n (vals xs) (mnL x d) (d + 1)) from isPl_eq (by rw [vals_nz, hml])))) rfl ?_
   refine stF rfl rfl (fun hg => have hg' := BP.t hg; OK1.eq (.call (ref17_Zero (K := 0) (xs := (vlL n (vals xs) (mnL x d) (d + 1)).map nz) (by rw [vals_nz]; exact fun j => by rw [hmin.nought j, Int.natAbs_zero, words_zero]; exact Nat.zero_le _) (by decide)) (.cons (Has.g rfl hg) .nil)) ((show isB _ = isB true from isB_eq (zeroB_iff.2 fun j _ => by rw [vals_nz]; exact hmin.nought j)))) rfl ?_
   refine stF rfl rfl (fun hg => .not (Has.g rfl hg)) rfl (st (.pickOr (.t rfl) (fun h => Has.g rfl (ng h))) rfl (nl (.thn (k10 _ _ (.cv (Cv.wk (.l [1, 2, 3, 5, 70] rfl)) (.cond (.t rfl) (fun hc3 => ?_) (fun hc3 => ?_)))))))
   ·have hc3 := BP.t hc3
    exfalso; simp at hc3; omega
   ·have hc3 := BP.f hc3
    skip
    refine .skip (.thn (k9 _ _ (.seq fun _ k11 => .region (st (.load (.t rfl) (i := 0) rfl ty27 rfl (Ss' := [_, _, _]) rfl) rfl (st (.call (zchar_Char (K := 1) hb (by omega) hn hl) (.cons (.t rfl) .nil)) rfl (st (.mv (.t rfl)) rfl (st (.ext (.t rfl) rfl) rfl (st (.ext (.t rfl) rfl) rfl (st (.as (.t rfl)) rfl (st (.as (.t rfl)) rfl (nl (.thn (k11 _ _ (.cv (Cv.wk (.l [1, 2, 3, 5, 6] rfl)) (.seq fun _ k12 => .region (st (.mv (.t rfl)) rfl (st (.mv (.t rfl)) rfl (st (.eq (.call (zpoly_Exact (xs := (chL n (vals xs)).map nz) (ys := (mnL x d).map nz) (K := 100) (L := 512 * 13) (by rw [vals_nz]; exact hcb) (by rw [vals_nz]; exact hmb) (by rw [hcl]; omega) (by omega) (by omega)) (.cons (.t rfl) (.cons (.t rfl) .nil))) ((show isTup [isP _, isB _] = isTup [isP ((exq (chL n (vals xs)) (mnL x d)).getD []), isB true] from by rw [vals_nz, vals_nz, mnL_div hdiv]))) rfl ?_))))))))))))))))))
    refine st (.mv (.t rfl)) rfl (st (.ext (.t rfl) rfl) rfl (st (.ext (.t rfl) rfl) rfl (st (.as (.t rfl)) rfl (st (.as (.t rfl)) rfl (nl (.thn (k12 _ _ (.cv (Cv.wk (.l [1, 2, 5, 9] rfl)) (.seq fun _ k13 => .region (st (.load (.t rfl) (i := 0) rfl ty27 rfl (Ss' := [_, _, _]) rfl) rfl (st (.mv (.t rfl)) rfl (st (.call (ref26_Flat (K := 1) (N := d) hb (by omega) (by omega) hd64 hl) (.cons (.t rfl) (.cons (.t rfl) .nil))) rfl (.callX (bareiss_RankX (R := d) (C := n * n) (K := 13) (xs := (fpL n (vals xs) d).map nz) (by rw [vals_nz]; exact hfpb) (by decide) hd64 (by omega) hfpl (by omega)) (List.Perm.refl _) (.cons (.t rfl) .nil) rfl ?_)))))))))))))
    rintro _ _ ⟨rs1, ps1, last1, odd1, rfl, rfl, hRun1⟩
    have hps1 := run_pivs hRun1
    have hps2 := hRun1.hps
    rw [vals_nz] at hps1
    rw [← hps1] at hne
    have hps3 : ps1.length = d := (by omega)
    refine st (.mv (.t rfl)) rfl (st (.ext (.t rfl) rfl) rfl (st (.ext (.t rfl) rfl) rfl (st (.as (.t rfl)) rfl (st (.as (.t rfl)) rfl (nl (.thn (k13 _ _ (.cv (Cv.wk (.l [2, 5, 9, 10, 11] rfl)) (.seq fun _ k14 => .region (st (.mv (.t rfl)) rfl (st (.mv (.t rfl)) rfl (stT rfl rfl (fun hg => .mv (.t rfl)) rfl (stT rfl rfl (fun hg => .eqI (Has.g rfl hg) (.cI 0 rfl)) rfl (st (.pickAnd (.t rfl) (fun h => Has.g rfl h)) rfl (st (.mv (.t rfl)) rfl (stT rfl rfl (fun hg => .mv (.t rfl)) rfl (stT rfl rfl (fun hg => .mv (.t rfl)) rfl (stT rfl rfl (fun hg => .eqI (Has.g rfl hg) (Has.g rfl hg)) rfl (st (.pickAnd (.t rfl) (fun h => Has.g rfl h)) rfl (st (.as (.t rfl)) rfl (nl (.thn (k14 _ _ (.cv (Cv.wk (.l [2] rfl)) (.ret (rtX1 (.inl rfl) Tryz.results4 rfl (.tmp (.t rfl) .nil) (isB_eq (by rw [hps3]; simp))))))))))))))))))))))))))))
theorem c_ZcharMins (r c : Int) (xs : List (Bool × List Nat)) : Ctr Tryz.prog 4 [isM r c xs] (isB true) := by
  cases h : formB r c xs.length && decide (r = c) with
  | true =>
    rw [Bool.and_eq_true, decide_eq_true_eq] at h
    obtain ⟨h1, rfl⟩ := h
    obtain ⟨n, C, rfl, hC, h2, _, h4⟩ := formB_iff.1 h1
    obtain rfl : n = C := by omega
    exact (c_ZcharMins_ok n xs h2 h4).toCtr fun S' M' hh => hh
  | false => exact c_ZcharMins_bad r c xs h
end Go.Proofs.YtcfobalbkhgdmaaGreat
namespace Go.En
open Go.RowKit Go.ChangeShapes Go.WideShapes Go.ChangeAt
theorem pair_get {α β : Type} (g h : α → β) : ∀ (l : List α) (j : Nat), (l.flatMap fun a => [g a, h a])[j]? = (l[j / 2]?).map (fun a => if j % 2 = 0 then g a else h a)
  | [], j => by simp
  | a :: l, 0 => by simp
  | a :: l, 1 => by simp
  | a :: l, j + 2 => by
    have := pair_get g h l j
    rw [show (j + 2) / 2 = j / 2 + 1 by omega, show (j + 2) % 2 = j % 2 by omega]
    simpa using this
section
variable {H : Type} {enc : TypeId × Value → H} {P : Program}
end
end Go.En
namespace Go.En
open Go.RowKit Go.ChangeShapes Go.WideShapes Go.ChangeAt
section
variable {H : Type} {enc : TypeId × Value → H} {P : Program}
theorem rd_Zs {W : World} {T e tb ts T' : TypeId} {fuel : Nat} {cs : List Value} {x : DataW H × List MemPlace} (hT : P.underlying T = some (.slice e)) (hfs : fsB P e = some [(tb, 0), (ts, 1)]) (hub : P.underlying tb = some .bool) (hu : P.underlying ts = some (.slice T')) (hu' : P.underlying T' = some (.int .u64)) (hc : P.cellsOf T' = 1) (hcb : P.cellsOf tb = 1) (hcs : P.cellsOf ts = 1) (hce : P.cellsOf e = 2)
    (hf : DataW.trod enc P W 0 (fun _ => true) true fuel T cs = some x) (hps : ∀ y ∈ x.2, y.block < W.heap.size) : ∃ (v : Value) (xs : List (Bool × List Nat)), cs = [v] ∧ (isZs xs).h W (fun b => b < W.heap.size) v := by
  obtain ⟨d, ps⟩ := x
  obtain ⟨fs, hue, hsz, hget⟩ := fsB_spec hfs
  obtain ⟨f0, g0, rfl, e0⟩ := hget 0 tb 0 rfl
  obtain ⟨f1, g1, rfl, e1⟩ := hget 1 ts 1 rfl
  have hfs2 : fs = #[f0, f1] := by
    apply Array.ext'
    have hl : fs.toList.length = 2 := by simpa using hsz
    match hq : fs.toList, hl with
    | [p, q], _ =>
      have a0 : fs.toList[0]? = some f0 := by simpa using g0
      have a1 : fs.toList[1]? = some f1 := by simpa using g1
      rw [hq] at a0 a1
      simp at a0 a1
      rw [a0, a1]
  subst hfs2
  rcases Deep.open_slice_pairs hT hue hce e0 e1 hcb hcs hf with ⟨h1, _⟩ | ⟨a, len, cap, m, n, V0, V1, D0, D1, P0, P1, h1, _, hlc, hcm, hm, hx, hel⟩
  · exact ⟨_, [], h1, nilK⟩
  · simp only [if_true] at hm
    subst m
    have hps' : ∀ i, i < cap → ∀ y ∈ P1 i, y.block < W.heap.size := fun i hi y hy => hps y (by
      have := (Prod.mk.inj hx).2
      rw [this]
      exact List.mem_append_right _ (List.mem_flatMap.2 ⟨i, List.mem_range.2 hi, List.mem_append_right _ hy⟩))
    obtain ⟨l, hl, hgl⟩ := list_of_get (p := fun i (x : Bool × List Nat) => V0 i = .bool x.1 ∧ (isWords x.2).h W (fun b => b < W.heap.size) (V1 i)) len (fun i hi => by
      obtain ⟨_, _, q0, q1⟩ := hel i (by omega)
      obtain ⟨b, hb, _⟩ := DataW.trod_bool hub q0
      obtain ⟨v, ws, hv1, hw⟩ := rd_row hu hu' hc word_of q1 (hps' i (by omega))
      obtain rfl : V1 i = v := by simpa using hv1
      exact ⟨(b, ws), by simpa using hb, hw⟩)
    refine ⟨_, l, h1, some a, cap, by rw [hl], by rw [hl]; exact hlc, hcm, flat_len zc_len l, ?_⟩
    rcases Nat.eq_zero_or_pos len with h0 | h0
    · exact .inl (by omega)
    · have hc0 := (hel 0 (by omega)).1
      have hs : a.spot = none := by
        cases hsp : a.spot with
        | none => rfl
        | some s =>
          simp only [Addr.add, Nat.zero_mul, if_true] at hc0
          unfold World.cell? at hc0
          rw [hsp] at hc0
          split at hc0 <;> simp at hc0
      obtain ⟨b, off, sp⟩ := a
      simp only at hs
      subst hs
      right
      refine ⟨b, off, rfl, ?_, (List.range len).flatMap (fun i => [V0 i, V1 i]), ?_, fun j u hj => ?_⟩
      · have : MemPlace.cell b (off + 0) ∈ ps := by
          have := (Prod.mk.inj hx).2
          rw [this]
          exact List.mem_append_left _ (List.mem_map.2 ⟨0, by simp; omega, rfl⟩)
        exact hps _ this
      · have hlen2 : ((List.range len).flatMap fun i => [V0 i, V1 i]).length = len * 2 := by
          have := flat_len (fk := fun (i : Nat) => [isB true, isB true]) (k := 2) (fun _ => rfl) (List.range len)
          rw [List.length_flatMap] at this ⊢
          simpa using this
        refine all2_of_get (by rw [flat_len zc_len, hlen2, hl]) (fun j S v hS hv => ?_)
        have hz := pair_get (fun p : Bool × List Nat => isB p.1) (fun p => isWords p.2) l j
        rw [show (l.flatMap fun a => [isB a.1, isWords a.2]) = l.flatMap zc from rfl, hS] at hz
        have hw := pair_get V0 V1 (List.range len) j
        rw [hv] at hw
        have hj : j / 2 < l.length := by
          rcases Nat.lt_or_ge (j / 2) l.length with h | h
          · exact h
          · rw [List.getElem?_eq_none h] at hz; cases hz
        rw [List.getElem?_eq_getElem hj] at hz
        rw [List.getElem?_range (by omega)] at hw
        simp only [Option.map_some, Option.some.injEq] at hz hw
        obtain ⟨k1, k2⟩ := hgl (j / 2) hj
        subst hz; subst hw
        by_cases hp : j % 2 = 0
        · rw [if_pos hp, if_pos hp, k1]; rfl
        · rw [if_neg hp, if_neg hp]; exact k2
      · have hw := pair_get V0 V1 (List.range len) j
        rw [hj] at hw
        have hjl : j / 2 < len := by
          rcases Nat.lt_or_ge (j / 2) len with h | h
          · exact h
          · rw [List.getElem?_eq_none (by simpa using h)] at hw; cases hw
        rw [List.getElem?_range hjl] at hw
        simp only [Option.map_some, Option.some.injEq] at hw
        obtain ⟨q0, q1, _, _⟩ := hel (j / 2) (by omega)
        rw [add_mk] at q0
        rw [add_mk] at q1
        by_cases hp : j % 2 = 0
        · rw [if_pos hp] at hw; subst hw
          rw [show off + j = off + j / 2 * 2 by omega]; exact q0
        · rw [if_neg hp] at hw; subst hw
          rw [show off + j = off + (j / 2 * 2 + 1) by omega]; exact q1
theorem open_M {W : World} {base : Nat} {T ti tm e tb ts T' : TypeId} {v : Value} {d : DataW H} {ps : List MemPlace} (hfM : fsB P T = some [(ti, 0), (ti, 1), (tm, 2)]) (hui : P.underlying ti = some (.int .i64)) (hT : P.underlying tm = some (.slice e)) (hfs : fsB P e = some [(tb, 0), (ts, 1)]) (hub : P.underlying tb = some .bool) (hu : P.underlying ts = some (.slice T')) (hu' : P.underlying T' = some (.int .u64)) (hc : P.cellsOf T' = 1) (hcb : P.cellsOf tb = 1) (hcs : P.cellsOf ts = 1) (hce : P.cellsOf e = 2)
    (hci : P.cellsOf ti = 1) (hcm : P.cellsOf tm = 1) (hcT : P.cellsOf T = 3) (hv : Value.okWide P W .any base T v) (h : DataW.Trod enc P W 0 (fun _ => true) true T v d ps) (hps : ∀ x ∈ ps, x.block < W.heap.size) : ∃ x : Int × Int × List (Bool × List Nat), (isM x.1 x.2.1 x.2.2).h W (fun b => b < W.heap.size) v := by
  obtain ⟨fs, huT, hsz, hget⟩ := fsB_spec hfM
  have hv' := hv
  simp only [Value.okWide, huT] at hv'
  obtain ⟨cs, rfl, _, _⟩ := hv'
  obtain ⟨fuel, hf⟩ := h
  obtain ⟨xs, m, _, hx, hl, hxl, hfe⟩ := DataW.trod_struct huT hf
  simp [Value.cells] at hl hx
  obtain ⟨f0, g0, rfl, e0⟩ := hget 0 ti 0 rfl
  obtain ⟨f1, g1, k1, e1⟩ := hget 1 _ 1 rfl
  obtain ⟨f2, g2, rfl, e2⟩ := hget 2 tm 2 rfl
  have h0 := hfe 0 f0 g0
  have h1 := hfe 1 f1 g1
  have h2 := hfe 2 f2 g2
  rw [List.getElem?_eq_getElem (by rw [hxl, hsz]; simp)] at h0 h1 h2
  rw [e0, hci] at h0
  rw [e1, k1, hci] at h1
  rw [e2, hcm] at h2
  obtain ⟨r, hr, hr1, hr2⟩ := rd_I hui h0
  obtain ⟨c, hc1, hc2, hc3⟩ := rd_I hui h1
  obtain ⟨u, ws, hu1, hw⟩ := rd_Zs hT hfs hub hu hu' hc hcb hcs hce h2 (fun y hy => hps y (by
    rw [hx.2]
    exact List.mem_flatMap.2 ⟨_, List.getElem_mem _, hy⟩))
  refine ⟨(r, c, ws), cs.toList, by simp, ?_⟩
  have hcs2 : cs.toList = [.int .i64 r, .int .i64 c, u] := by
    have hlen : cs.toList.length = 3 := by rw [← hcT]; simpa using hl
    match hq : cs.toList, hlen with
    | [p, q, t], _ =>
      have a1 : [p] = [Value.int .i64 r] := by have := hr; simpa [Value.cells, hq] using this
      have a2 : [q] = [Value.int .i64 c] := by have := hc1; simpa [Value.cells, hq] using this
      have a3 : [t] = [u] := by have := hu1; simpa [Value.cells, hq] using this
      rw [List.cons.inj a1 |>.1, List.cons.inj a2 |>.1, List.cons.inj a3 |>.1]
  rw [hcs2]
  exact ⟨⟨rfl, hr1, hr2⟩, ⟨rfl, hc2, hc3⟩, hw, trivial⟩
end
end Go.En
namespace Go.Proofs.YtcfobalbkhgdmaaGreat
open Go.En Go.RowKit
set_option maxRecDepth 10000
open Go.ChangeShapes
open Go.WideShapes
open Go.ChangeAt
open Go.Nt
open Go.Pz
open Go.Mz
theorem opens_ZcharMins : Opens Tryz.prog Tryz.f4 4 := by
 intro H enc W base args ds ps hval hA hlt
 rw [Tryz.params4] at hA hval
 obtain ⟨v0, vs0, d0, ds0, p0, q0, hargs, rfl, rfl, h0, r0⟩ := trodAll_cons hA
 obtain ⟨rfl, rfl, rfl⟩ := trodAll_nil r0
 obtain rfl : args = #[v0] := by cases args; simp_all
 obtain ⟨x0, o0⟩ := open_M fs27 un3 un22 fs36 un4 un34 un62 (by kernel_rfl) (by kernel_rfl) (by kernel_rfl) (by kernel_rfl) (by kernel_rfl) (by kernel_rfl) (by kernel_rfl) (hval 0 27 v0 rfl rfl) h0 (fun x hx => hlt x (by simp [hx]))
 refine ⟨_, ?_, c_ZcharMins x0.1 x0.2.1 x0.2.2⟩
 exact ⟨o0, trivial⟩
theorem jn_ZcharMins : Tryz.pinned.checked.prog.funcNamed Rows.zcharMinsRow.func = some 4 := by kernel_rfl
theorem jf_ZcharMins : joinedFacts Tryz.pinned.checked.prog 4 Tryz.f4 Rows.zcharMinsSpec Rows.zcharMinsRow = true := by kernel_rfl
theorem jl_ZcharMins : laidOutB Tryz.checked.prog = true := by kernel_rfl
theorem zcharMins_said : Rows.ZcharMinsSaid :=
 OpenClaim.holds_of_wide 4 Tryz.f4 rfl rfl rfl rfl rfl rfl rfl ⟨rfl, rfl, rfl, rfl, rfl⟩ rfl rfl rfl rfl rfl jn_ZcharMins Tryz.func4 jf_ZcharMins
  (of_decide_eq_true (by kernel_rfl)) (by unfold Func.isWrapper; first | (rw [if_pos (by decide +kernel)]; kernel_rfl) | (rw [if_neg (by decide +kernel)]; exact ⟨rfl, rfl⟩))
  (fun os started H enc _ => lift_law (C := Tryz.checked) (s := Rows.zcharMinsSpec) (by kernel_rfl) started (by kernel_rfl) Tryz.func4
   (ChangeSpec.witness6 (enc := enc) (C := Tryz.checked) false ⟨#[], #[.agg #[.int .i64 0, .int .i64 0, .slice none 0 0]], []⟩ 8 (by kernel_rfl) (by kernel_rfl) (by kernel_rfl) (by kernel_rfl))
   jl_ZcharMins (by kernel_rfl) rfl rfl un4 (fun ds h => by match ds, h with | [d0], _ => rfl) opens_ZcharMins)
#print axioms zcharMins_said
end Go.Proofs.YtcfobalbkhgdmaaGreat
