/- Rules and contracts, part 5 of 6. -/
import Derived.Test.YthkdmhaafanjlaaGreatQModhnfInserts4
namespace Go.Proofs.YthkdmhaafanjlaaGreat
open Go.En Go.RowKit
set_option maxRecDepth 10000
set_option maxHeartbeats 4000000
open Go.Nt
open Go.Pz
open Go.Mz
theorem bareiss_find {bw C : Nat} {gp : Gr Int} {gt : Gr Row} {rs : List Row} {ps : List Nat} {last : Int} {odd : Bool} {K : Nat} (hrow : ∀ r ∈ rs, r.2.length = C) (hb : ∀ r ∈ rs, Bd r.2 K) (hC : C ≤ 64) (hR : rs.length ≤ 64) (hpl : ps.length ≤ 64) {col : Nat} (hcol : col < C) (hK : K ≤ 400000000) : CtrX Tryz.prog 249 [isPtr bw 0, isI (col : Int)] (wkM bw gp gt rs C ps last odd) (fun S M => ∃ rs' odd' ok, S = isB ok ∧ M = wkM bw gp gt rs' C ps last odd' ∧ FindR rs ps.length col odd rs' odd' ok) := by
 refine CtrX.intro Tryz.func249 rfl (by kernel_rfl) Tryz.ntmps249 rfl fun w0 F0 => .cv (Cv.wk (.l [0, 1] rfl)) (.fact (Has.rngI (Has.t (t := 1) rfl)) fun lt1 => ?_)
 have hpv := pv_len ps
 refine .seq fun _ k1 => .region (st (.as (.cB false)) rfl (nl (.thn (k1 _ _ (.seq fun _ k2 => .region (st (.mv (.t rfl)) rfl (st (.nilc (.t rfl)) rfl (st (.fieldAddr (.t rfl) fld153_2 ty108) rfl (st (.load1 (.t rfl) (i := 0) rfl ty108 rfl) rfl (st (.eq (.len sl108 (.t rfl)) ((show isI _ = isI (ps.length : Int) from isI_eq (by omega)))) rfl (st (.eq (.as (.t rfl)) ((show isI _ = isI (ps.length : Int) from isI_eq (by omega)))) rfl (nl (.thn (k2 _ _ (.cv (Cv.wk (.l [0, 1, 4, 5] rfl)) (.seq fun _ k3 => .seq fun _ k4 => .region (st (.mv (.t rfl)) rfl (st (.as (.t rfl)) rfl (nl (.thn (k4 _ _ (.block (.loopF [0, 1, 5] (fun (z : { i : Nat // ps.length ≤ i ∧ (i ≤ rs.length ∨ i = ps.length) ∧ ∀ (j : Nat) (r : Row), ps.length ≤ j → j < i → rs[j]? = some r → cf r.2 col = 0 }) => match z with | ⟨i, hi⟩ => [(6, isI (i : Int))]) (fun M => fun (z : { i : Nat // ps.length ≤ i ∧ (i ≤ rs.length ∨ i = ps.length) ∧ ∀ (j : Nat) (r : Row), ps.length ≤ j → j < i → rs[j]? = some r → cf r.2 col = 0 }) => match z with | ⟨i, hi⟩ => M) (fun (z : { i : Nat // ps.length ≤ i ∧ (i ≤ rs.length ∨ i = ps.length) ∧ ∀ (j : Nat) (r : Row), ps.length ≤ j → j < i → rs[j]? = some r → cf r.2 col = 0 }) => match z with | ⟨i, hi⟩ => rs.length - i) (⟨ps.length, Nat.le_refl _, .inr rfl, fun j r h1 h2 => absurd h2 (by omega)⟩) (Cv.mem (.c 6 rfl ?_ (.l [0, 1, 5] rfl)) ?_) ?_)))))))))))))))))))))))
 ·exact isI_eq (by omega)
 ·rfl
 rintro ⟨i, hi, hi2, hz⟩ K5 hK5
 refine .cv (Cv.wk (.l [6, 0, 1, 5] rfl)) (.seq fun _ k6 => .seq fun _ k7 => .region (st (.mv (.t rfl)) rfl (st (.mv (.t rfl)) rfl (st (.nilc (.t rfl)) rfl (st (.fieldAddr (.t rfl) fld153_0 ty151) rfl (st (.load1 (.t rfl) (i := 0) rfl ty151 rfl) rfl (st (.len sl151 (.t rfl)) rfl (st (.ltI (.t rfl) (.t rfl)) rfl (nl (.thn (k7 _ _ (.cond (.t rfl) (fun hc1 => ?_) (fun hc1 => ?_)))))))))))))
 ·have hc1 := BP.t hc1
  obtain ⟨r, hr⟩ : ∃ r, rs[i]? = some r := ⟨_, List.getElem?_eq_getElem (by omega)⟩
  have hrC := hrow r (List.mem_of_getElem? hr)
  have hrB := hb r (List.mem_of_getElem? hr)
  have hrL : (r.2.map nz).length = C := by rw [List.length_map, hrC]
  refine .skip (.thn (k6 _ _ (.seq fun _ k8 => .block (.seq fun _ k9 => .region (st (.mv (.t rfl)) rfl (st (.nilc (.t rfl)) rfl (st (.fieldAddr (.t rfl) fld153_0 ty151) rfl (st (.load1 (.t rfl) (i := 0) rfl ty151 rfl) rfl (st (.mv (.t rfl)) rfl (st (.ixGr sl151 ty22 (.t rfl) (.t rfl) ⟨by omega, by omega⟩) rfl (st (.loadGM (.t rfl) (i := 2) rfl ty22 hr) rfl (st (.mv (.t rfl)) rfl (st (.ixGr sl22 ty31 (.t rfl) (.t rfl) ⟨by omega, by omega⟩) rfl (st (.loadGK zc_len (.t rfl) (i := 3 + i) (wkAt (pre := [_, _, _]) hr) ty31 (getZ (i := col) (by omega))) rfl (st (.eq (.call (zint_Sign (by rw [val_words]; have := hrB col; omega)) (.cons (.t rfl) .nil)) ((show isI _ = isI (sgn (cf r.2 col)) from isI_eq (by rw [zv_nz])))) rfl ?_)))))))))))))))
  refine st (.neI (.t rfl) (.cI 0 rfl)) rfl (nl (.thn (k9 _ _ (.cond (.t rfl) (fun hc2 => ?_) (fun hc2 => ?_)))))
  ·have hc2 := BP.t hc2
   have he : cf r.2 col ≠ 0 := fun e => hc2 ((sgn_eq0 _).2 e)
   refine .seq fun _ k10 => .seq fun _ k11 => .region (st (.mv (.t rfl)) rfl (st (.mv (.t rfl)) rfl (st (.neI (.t rfl) (.t rfl)) rfl (nl (.thn (k11 _ _ (.cond (.t rfl) (fun hc3 => ?_) (fun hc3 => ?_))))))))
   ·have hc3 := BP.t hc3
    obtain ⟨rt, hrt⟩ : ∃ rt, rs[ps.length]? = some rt := ⟨_, List.getElem?_eq_getElem (by omega)⟩
    have hne : i ≠ ps.length := fun e => hc3 (congrArg Nat.cast e)
    refine .seq fun _ k12 => .dry mixed (.tk 0 rfl rfl rfl rfl (OKY.mv (.t rfl)) (.tk 1 rfl rfl rfl rfl (OKY.nilc (.t rfl)) (.tk 2 rfl rfl rfl rfl (OKY.fieldAddr (.t rfl) fld153_0 ty151) (.tk 4 rfl rfl rfl rfl (OKY.mv (.t rfl)) (.tk 5 rfl rfl rfl rfl (OKY.mv (.t rfl)) (.tk 6 rfl rfl rfl rfl (OKY.nilc (.t rfl)) (.tk 7 rfl rfl rfl rfl (OKY.fieldAddr (.t rfl) fld153_0 ty151) (.tk 9 rfl rfl rfl rfl (OKY.mv (.t rfl)) (.tk 10 rfl rfl rfl rfl (OKY.mv (.t rfl)) (.tk 11 rfl rfl rfl rfl (OKY.nilc (.t rfl)) (.tk 12 rfl rfl rfl rfl (OKY.fieldAddr (.t rfl) fld153_0 ty151) (.tk 14 rfl rfl rfl rfl (OKY.mv (.t rfl)) (.tk 17 rfl rfl rfl rfl (OKY.mv (.t rfl)) (.tk 18 rfl rfl rfl rfl (OKY.nilc (.t rfl)) (.tk 19 rfl rfl rfl rfl (OKY.fieldAddr (.t rfl) fld153_0 ty151) (.tk 21 rfl rfl rfl rfl (OKY.mv (.t rfl)) (.go [] (.s 3 [] rfl rfl rfl (.o rfl (.load1 (.t rfl) (i := 0) rfl ty151 rfl)) (.s 8 [] rfl rfl rfl (.o rfl (.load1 (.t rfl) (i := 0) rfl ty151 rfl)) (.s 13 [] rfl rfl rfl (.o rfl (.load1 (.t rfl) (i := 0) rfl ty151 rfl)) (.s 15 [50] rfl rfl rfl (.o rfl (.ixGr sl151 ty22 (.t rfl) (.t rfl) ⟨by omega, by omega⟩)) ?_)))))))))))))))))))))
    refine .s 16 [52] rfl rfl rfl (.o rfl (.loadGM (.t rfl) (i := 2) rfl ty22 hrt)) (.s 20 [] rfl rfl rfl (.o rfl (.load1 (.t rfl) (i := 0) rfl ty151 rfl)) (.s 22 [57] rfl rfl rfl (.o rfl (.ixGr sl151 ty22 (.t rfl) (.t rfl) ⟨by omega, by omega⟩)) ?_))
    refine .s 23 [59] rfl rfl rfl (.o rfl (.loadGM (.t rfl) (i := 2) rfl ty22 hr)) (.fin [24, 25, 26, 27] (by kernel_rfl) (by kernel_rfl) (fun _ _ _ _ _ h => h) (by kernel_rfl) (by kernel_rfl) (by kernel_rfl) (by kernel_rfl) (by kernel_rfl) (by kernel_rfl) (by kernel_rfl) (by kernel_rfl) (by kernel_rfl) (.cv (Cv.wk (.l [0, 1, 5, 6, 13, 14, 15, 16, 17, 18, 19, 22, 23, 24, 25, 26, 27, 28, 29, 30, 31, 32, 33, 34, 35, 36, 37, 38, 39, 41, 42, 43, 44, 46, 47, 48, 49, 51, 54, 55, 56, 58, 40, 45, 50, 52, 53, 57, 59, 60] rfl)) (st (.ixGr sl151 ty22 (.t rfl) (.t rfl) ⟨by omega, by omega⟩) rfl (.storeGM (z := rt) (.t rfl) (.t rfl) (i := 2) rfl ty22 (by omega) (M' := (_ :: _ :: grM _ _ _ :: _)) rfl (st (.ixGr sl151 ty22 (.t rfl) (.t rfl) ⟨by omega, by omega⟩) rfl (.storeGM (z := r) (.t rfl) (.t rfl) (i := 2) rfl ty22 (by rw [List.length_set]; omega) (M' := (_ :: _ :: grM _ _ _ :: _)) rfl ?_))))))
    refine nl (.thn (k12 _ _ (.region (st (.mv (.t rfl)) rfl (st (.mv (.t rfl)) rfl (st (.nilc (.t rfl)) rfl (st (.fieldAddr (.t rfl) fld153_4 ty4) rfl (st (.load1 (.t rfl) (i := 0) rfl ty4 rfl) rfl (st (.not (.t rfl)) rfl (st (.nilc (.t rfl)) rfl (st (.fieldAddr (.t rfl) fld153_4 ty4) rfl (.store (.t rfl) (.t rfl) (i := 0) rfl ty4 rfl rfl (Ss' := [_, _, _, _, _, _]) rfl (M' := ((some _, cellM [_, _, _, _, _, _]) :: _ :: _ :: _)) rfl (nl (.thn (k10 _ _ (.seq fun _ k13 => .cv (Cv.perm (perm_tail (pre := [_, _, _]) (swap_perm hr hrt hne))) (.region (st (.as (.cB true)) rfl (nl (.thn (k13 _ _ (.ret (.blr (.thr (.thr (.blr (.thr (rtX1 (.inl rfl) Tryz.results249 rfl (.tmp (.t rfl) .nil) ?_))))))))))))))))))))))))))))
    exact ⟨_, _, true, rfl, wkM_len (by rw [List.length_set, List.length_set]), .inr ⟨rfl, i, r, rt, by omega, hr, hrt, he, hz, by rw [if_neg hne]; rfl, by rw [if_neg hne]⟩⟩
   ·have hc3 := BP.f hc3
    have hie : i = ps.length := by omega
    refine .skip (.thn (k10 _ _ (.seq fun _ k14 => .region (st (.as (.cB true)) rfl (nl (.thn (k14 _ _ (.ret (.blr (.thr (.thr (.blr (.thr (rtX1 (.inl rfl) Tryz.results249 rfl (.tmp (.t rfl) .nil) (⟨_, _, true, rfl, rfl, .inr ⟨rfl, i, r, r, by omega, hr, hie ▸ hr, he, hz, by rw [if_pos hie], by rw [if_pos hie]⟩⟩)))))))))))))))
  ·have hc2 := BP.f hc2
   have he : cf r.2 col = 0 := (sgn_eq0 _).1 hc2
   refine .skip (.bln (.thn (k8 _ _ (.region (st (.mv (.t rfl)) rfl (st (.addI (.t rfl) (.cI 1 rfl) (by first | omega | assumption) (by first | omega | assumption)) rfl (st (.as (.t rfl)) rfl (nl (.thn ?_)))))))))
   refine hK5 (⟨i + 1, by omega, .inl (by omega), fun j r' h1 h2 h3 => by rcases Nat.lt_or_ge j i with h | h; exact hz j r' h1 h h3; obtain rfl : j = i := (by omega); rw [hr] at h3; obtain rfl := Option.some.inj h3; exact he⟩) _ _ ?_ (Cv.mem (.c 6 rfl ?_ (.l [0, 1, 5] rfl)) ?_)
   ·show rs.length - (i + 1) < rs.length - i; omega
   ·exact isI_eq (by omega)
   ·rfl
 ·have hc1 := BP.f hc1
  skip
  refine .exit (.the (.the (.blh (.thn (k3 _ _ (.cv (Cv.wk .nil) (.seq fun _ k15 => .region (st (.as (.cB false)) rfl (nl (.thn (k15 _ _ (.ret (rtX1 (.inl rfl) Tryz.results249 rfl (.tmp (.t rfl) .nil) ?_)))))))))))))
  exact ⟨_, _, false, rfl, rfl, .inl ⟨rfl, rfl, rfl, fun j r h1 h2 => by rcases Nat.lt_or_ge j i with h | h; exact hz j r h1 h h2; rw [List.getElem?_eq_none (by omega)] at h2; cases h2⟩⟩
theorem bareiss_clear {bw C : Nat} {gp : Gr Int} {gt : Gr Row} {rs : List Row} {ps : List Nat} {last : Int} {odd : Bool} {K : Nat} (hrow : ∀ r ∈ rs, r.2.length = C) (hb : ∀ r ∈ rs, Bd r.2 K) (hC : C ≤ 64) (hR : rs.length ≤ 64) (hpl : ps.length ≤ 64) {col : Nat} {r0 : Row} (hcol : col < C) (hK : K ≤ 100000000) (hlast : (List.length (words last.natAbs)) ≤ K) (h0 : rs[ps.length]? = some r0) : CtrX Tryz.prog 250 [isPtr bw 0, isI (col : Int)] (wkM bw gp gt rs C ps last odd) (fun S M => ∃ gp' gt' rs', S = isTup [] ∧ M = wkM bw gp' gt' rs' C (ps ++ [col]) (cf r0.2 col) odd ∧ ClrI rs ps.length col last r0.2 rs.length rs') := by
 refine CtrX.intro Tryz.func250 rfl (by kernel_rfl) Tryz.ntmps250 rfl fun w0 F0 => .cv (Cv.wk (.l [0, 1] rfl)) (.fact (Has.rngI (Has.t (t := 1) rfl)) fun lt1 => ?_)
 have hpv := pv_len ps
 have hr0C := hrow r0 (List.mem_of_getElem? h0)
 have hr0B := hb r0 (List.mem_of_getElem? h0)
 have hr0L : (r0.2.map nz).length = C := by rw [List.length_map, hr0C]
 have htl : ps.length < rs.length := by rcases Nat.lt_or_ge ps.length rs.length with h | h; exact h; rw [List.getElem?_eq_none h] at h0; cases h0
 refine .seq fun _ k1 => .region (st (.mv (.t rfl)) rfl (st (.nilc (.t rfl)) rfl (st (.fieldAddr (.t rfl) fld153_2 ty108) rfl (st (.load1 (.t rfl) (i := 0) rfl ty108 rfl) rfl (st (.eq (.len sl108 (.t rfl)) ((show isI _ = isI (ps.length : Int) from isI_eq (by omega)))) rfl (st (.as (.t rfl)) rfl (nl (.thn (k1 _ _ (.cv (Cv.wk (.l [0, 1, 4] rfl)) (.seq fun _ k2 => .region (st (.mv (.t rfl)) rfl (st (.nilc (.t rfl)) rfl (st (.fieldAddr (.t rfl) fld153_0 ty151) rfl (st (.load1 (.t rfl) (i := 0) rfl ty151 rfl) rfl (st (.mv (.t rfl)) rfl (st (.ixGr sl151 ty22 (.t rfl) (.t rfl) ⟨by omega, by omega⟩) rfl (st (.loadGM (.t rfl) (i := 2) rfl ty22 h0) rfl (st (.as (.t rfl)) rfl (nl (.thn (k2 _ _ (.cv (Cv.wk (.l [0, 1, 4, 5] rfl)) (.seq fun _ k3 => .seq fun _ k4 => .region (st (.mv (.t rfl)) rfl (st (.addI (.t rfl) (.cI 1 rfl) (by first | omega | assumption) (by first | omega | assumption)) rfl (st (.as (.t rfl)) rfl (nl (.thn (k4 _ _ (.block (.loopF [0, 1, 5] (fun (z : { z : Nat × List Row // ps.length < z.1 ∧ (z.1 ≤ rs.length) ∧ ClrI rs ps.length col last r0.2 z.1 z.2 }) => match z with | ⟨(i, rs'), hI⟩ => [(6, isI (i : Int))]) (fun M => fun (z : { z : Nat × List Row // ps.length < z.1 ∧ (z.1 ≤ rs.length) ∧ ClrI rs ps.length col last r0.2 z.1 z.2 }) => match z with | ⟨(i, rs'), hI⟩ => (wk0 bw gp gt rs.length C ps last odd :: grM isI gp (pv ps) :: grM rowV gt rs' :: rs'.map rowM)) (fun (z : { z : Nat × List Row // ps.length < z.1 ∧ (z.1 ≤ rs.length) ∧ ClrI rs ps.length col last r0.2 z.1 z.2 }) => match z with | ⟨(i, rs'), hI⟩ => rs.length - i) (⟨(ps.length + 1, rs), Nat.lt_succ_self _, htl, ClrI.start _ _ _ _ _⟩) (Cv.mem (.c 6 rfl ?_ (.l [0, 1, 5] rfl)) ?_) ?_))))))))))))))))))))))))))))))))
 ·exact isI_eq (by omega)
 ·rfl
 rintro ⟨⟨i, rs'⟩, hI⟩ K5 hK5
 refine .cv (Cv.wk (.l [6, 0, 1, 5] rfl)) (.memEq (M' := (wk0 bw gp gt rs.length C ps last odd :: grM isI gp (pv ps) :: grM rowV gt rs' :: rs'.map rowM)) rfl ?_)
 simp only [] at hI
 obtain ⟨hti, hin, hcl⟩ := hI
 have hlen := hcl.len
 have h0' := (hcl.at (.inl (Nat.le_refl _))).trans h0
 refine .seq fun _ k6 => .seq fun _ k7 => .region (st (.mv (.t rfl)) rfl (st (.mv (.t rfl)) rfl (st (.nilc (.t rfl)) rfl (st (.fieldAddr (.t rfl) fld153_0 ty151) rfl (st (.load1 (.t rfl) (i := 0) rfl ty151 rfl) rfl (st (.len sl151 (.t rfl)) rfl (st (.ltI (.t rfl) (.t rfl)) rfl (nl (.thn (k7 _ _ (.cond (.t rfl) (fun hc1 => ?_) (fun hc1 => ?_))))))))))))
 ·have hc1 := BP.t hc1
  obtain ⟨r, hr⟩ : ∃ r, rs[i]? = some r := ⟨_, List.getElem?_eq_getElem (by omega)⟩
  have hrC := hrow r (List.mem_of_getElem? hr)
  have hrB := hb r (List.mem_of_getElem? hr)
  have hrL : (r.2.map nz).length = C := by rw [List.length_map, hrC]
  have hri := (hcl.at (.inr (Nat.le_refl _))).trans hr
  refine .skip (.thn (k6 _ _ (.seq fun _ k8 => .block (.seq fun _ k9 => .region (st (.mv (.t rfl)) rfl (st (.nilc (.t rfl)) rfl (st (.fieldAddr (.t rfl) fld153_0 ty151) rfl (st (.load1 (.t rfl) (i := 0) rfl ty151 rfl) rfl (st (.mv (.t rfl)) rfl (st (.ixGr sl151 ty22 (.t rfl) (.t rfl) ⟨by omega, by omega⟩) rfl (st (.loadGM (.t rfl) (i := 2) rfl ty22 hri) rfl (st (.as (.t rfl)) rfl (nl (.thn (k9 _ _ (.seq fun _ k10 => .region (st (.mv (.t rfl)) rfl (st (.mv (.t rfl)) rfl (st (.ixGr sl22 ty31 (.t rfl) (.t rfl) ⟨by omega, by omega⟩) rfl (st (.loadGK zc_len (.t rfl) (i := 3 + i) (wkAt (pre := [_, _, _]) hri) ty31 (getZ (i := col) (by omega))) rfl (.alloc [isB false, SlM isU []] zero31 (fun _ _ => ⟨rfl, nilM _ _, trivial⟩) rfl fun b1 => .store (.t rfl) (.t rfl) (i := 0) rfl ty31 rfl rfl (Ss' := [_, _]) rfl (M' := ((some _, cellM [_, _]) :: _ :: _ :: _ :: _)) rfl (nl (.thn (k10 _ _ (.seq fun _ k11 => .region (st (.mv (.t rfl)) rfl (st (.len sl22 (.t rfl)) rfl (st (.mv (.cI 0 rfl)) rfl (nl (.thn (k11 _ _ (.block (.loopF [0, 1, 5, 6, 25, 26, 27, 28, 29, 30, 31, 34, 35, 36, 37, 38, 39, 40, 7, 41, 42, 43, 44, 8, 45, 46] (fun (z : { k : Nat // k ≤ C }) => match z with | ⟨k, hk⟩ => [(47, isI (k : Int))]) (fun M => fun (z : { k : Nat // k ≤ C }) => match z with | ⟨k, hk⟩ => (zM b1 (cf r.2 col) :: wk0 bw gp gt rs.length C ps last odd :: grM isI gp (pv ps) :: grM rowV gt rs' :: (rs'.set i (r.1, mixR r0.2 r.2 col last k)).map rowM)) (fun (z : { k : Nat // k ≤ C }) => match z with | ⟨k, hk⟩ => C - k) (⟨0, Nat.zero_le _⟩) (Cv.mem (.c 47 rfl ?_ (.l [0, 1, 5, 6, 25, 26, 27, 28, 29, 30, 31, 34, 35, 36, 37, 38, 39, 40, 7, 41, 42, 43, 44, 8, 45, 46] rfl)) ?_) ?_)))))))))))))))))))))))))))))))))
  ·rfl
  ·exact tail4 (mix_start hri)
  rintro ⟨k, hk⟩ K12 hK12
  refine .cv (Cv.wk (.l [47, 0, 1, 5, 6, 25, 26, 27, 28, 29, 30, 31, 34, 35, 36, 37, 38, 39, 40, 7, 41, 42, 43, 44, 8, 45, 46] rfl)) (.memEq (M' := (zM b1 (cf r.2 col) :: wk0 bw gp gt rs.length C ps last odd :: grM isI gp (pv ps) :: grM rowV gt rs' :: (rs'.set i (r.1, mixR r0.2 r.2 col last k)).map rowM)) rfl ?_)
  have hset : (rs'.set i (r.1, mixR r0.2 r.2 col last k))[i]? = some (r.1, mixR r0.2 r.2 col last k) := List.getElem?_set_self (by omega)
  have hset0 : (rs'.set i (r.1, mixR r0.2 r.2 col last k))[ps.length]? = some r0 := (List.getElem?_set_ne (by omega)).trans h0'
  refine .seq fun _ k13 => .region (st (.ltI (.t rfl) (.t rfl)) rfl (nl (.thn (k13 _ _ (.seq fun _ k14 => .cond (.t rfl) (fun hc2 => ?_) (fun hc2 => ?_))))))
  ·have hc2 := BP.t hc2
   refine .skip (.thn (k14 _ _ (.seq fun _ k15 => .block (.seq fun _ k16 => .region (st (.mv (.t rfl)) rfl (st (.as (.t rfl)) rfl (nl (.thn (k16 _ _ (.seq fun _ k17 => .drhS (.cons_cons _ (.cons_cons _ (.cons_cons _ (.cons_cons _ (List.Sublist.refl _))))) (.s [] rfl rfl rfl (.o rfl (.mv (.t rfl))) (.s [] rfl rfl rfl (.o rfl (.mv (.t rfl))) (.s [50, 51] rfl rfl rfl (.o rfl (.ixGr sl22 ty31 (.t rfl) (.t rfl) ⟨by omega, by omega⟩)) ?_)))))))))))))
   refine .s [52] rfl rfl rfl (.o rfl (.loadGK zc_len (.t rfl) (i := 4 + i) (wkAt (pre := [_, _, _, _]) (r := (r.1, mixR r0.2 r.2 col last k)) hset) ty31 (show ((mixR r0.2 r.2 col last k).map nz)[k]? = some (nz (cf r.2 k)) from by rw [List.getElem?_map, mixR_at _ _ _ _ (by omega)]; rfl))) ?_
   refine .s [] rfl rfl rfl (.o rfl (.mv (.t rfl))) (.s [] rfl rfl rfl (.o rfl (.mv (.t rfl))) (.s [54, 55] rfl rfl rfl (.o rfl (.ixGr sl22 ty31 (.t rfl) (.t rfl) ⟨by omega, by omega⟩)) ?_))
   refine .s [56] rfl rfl rfl (.o rfl (.loadGK zc_len (.t rfl) (i := 4 + ps.length) (wkAt (pre := [_, _, _, _]) hset0) ty31 (getZ (i := col) (by omega)))) (.s [53, 57] rfl rfl rfl (.o rfl (.eq (.call (zint_Mul (by rw [val_words]; have := hrB k; omega) (by rw [val_words]; have := hr0B col; omega)) (.cons (.t rfl) (.cons (.t rfl) .nil))) ((show isZ _ = isZ (cf r.2 k * cf r0.2 col) from isZ_eq (by (try simp only [zv_nz]); (try simp only [zv_nf])))))) ?_)
   refine .s [] rfl rfl rfl (.o rfl (.load (.t rfl) (i := 0) rfl ty31 rfl (Ss' := [_, _]) rfl)) (.s [] rfl rfl rfl (.o rfl (.mv (.t rfl))) (.s [] rfl rfl rfl (.o rfl (.mv (.t rfl))) (.s [60, 61] rfl rfl rfl (.o rfl (.ixGr sl22 ty31 (.t rfl) (.t rfl) ⟨by omega, by omega⟩)) ?_)))
   refine .s [62] rfl rfl rfl (.o rfl (.loadGK zc_len (.t rfl) (i := 4 + ps.length) (wkAt (pre := [_, _, _, _]) hset0) ty31 (getZ (i := k) (by omega)))) (.s [59, 63] rfl rfl rfl (.o rfl (.eq (.call (zint_Mul (by rw [val_words]; have := hrB col; omega) (by rw [val_words]; have := hr0B k; omega)) (.cons (.t rfl) (.cons (.t rfl) .nil))) ((show isZ _ = isZ (cf r.2 col * cf r0.2 k) from isZ_eq (by rw [zv_nf, zv_nz]))))) ?_)
   refine .s [58, 64] rfl rfl rfl (.o rfl (.eq (.call (zint_Sub (by rw [val_words]; have := nz_mul (cf r.2 k) (cf r0.2 col); have := hrB k; have := hr0B col; omega) (by rw [val_words]; have := nz_mul (cf r.2 col) (cf r0.2 k); have := hrB col; have := hr0B k; omega)) (.cons (.t rfl) (.cons (.t rfl) .nil))) ((show isZ _ = isZ (cf r.2 k * cf r0.2 col - cf r.2 col * cf r0.2 k) from isZ_eq (by simp only [zv_nf]))))) ?_
   refine .als (n1 := 17) (ds := [10]) (zs := [[isB false, SlM isU []]]) rfl (.cons rfl rfl zero31 (fun _ _ => ⟨rfl, nilM _ _, trivial⟩) .nil) (.cons_cons _ (.cons_cons _ (.cons_cons _ (.cons_cons _ (List.Sublist.refl _))))) (Cs := [_]) rfl (.fin (n := 17) mixed rfl (by kernel_rfl) (by kernel_rfl) (by kernel_rfl) (fun bs hbs => ?_))
   obtain ⟨b2, rfl⟩ := len1 hbs
   refine .memEq (M' := (_ :: _ :: _ :: _ :: _ :: _)) rfl (.cv (Cv.wk (.k 0 rfl (.k 1 rfl (.k 5 rfl (.k 6 rfl (.k 25 rfl (.k 26 rfl (.k 27 rfl (.k 28 rfl (.k 29 rfl (.k 30 rfl (.k 31 rfl (.k 34 rfl (.k 35 rfl (.k 36 rfl (.k 37 rfl (.k 38 rfl (.k 39 rfl (.k 40 rfl (.k 7 rfl (.k 41 rfl (.k 42 rfl (.k 43 rfl (.k 44 rfl (.k 8 rfl (.k 45 rfl (.k 46 rfl (.k 47 rfl (.k 48 rfl (.k 49 rfl (.k 9 rfl (.k 50 rfl (.k 51 rfl (.k 52 rfl (.k 53 rfl (.k 54 rfl (.k 55 rfl (.k 56 rfl (.k 57 rfl (.k 58 rfl (.k 59 rfl (.k 60 rfl (.k 61 rfl (.k 62 rfl (.k 63 rfl (.k 64 rfl (.k 65 rfl (.cons (t := 10) (Has.op rfl) .nil)))))))))))))))))))))))))))))))))))))))))))))))) (.store (.t rfl) (.t rfl) (i := 0) rfl ty31 rfl rfl (Ss' := [_, _]) rfl (M' := ((some _, cellM [_, _]) :: _ :: _ :: _ :: _ :: _)) rfl (nl (.thn (k17 _ _ (.dry mixed (.tk 0 rfl rfl rfl rfl (OKY.mv (.t rfl)) (.tk 1 rfl rfl rfl rfl (OKY.mv (.t rfl)) (.tk 3 rfl rfl rfl rfl (OKY.mv (.t rfl)) (.tk 4 rfl rfl rfl rfl (OKY.nilc (.t rfl)) (.tk 5 rfl rfl rfl rfl (OKY.fieldAddr (.t rfl) fld153_3 ty31) (.go [10] (.s 2 [] rfl rfl rfl (.o rfl (.load (.t rfl) (i := 0) rfl ty31 rfl (Ss' := [_, _]) rfl)) (.s 6 [] rfl rfl rfl (.o rfl (.load (.t rfl) (i := 2) rfl ty31 rfl (Ss' := [_, _]) rfl)) (.s 7 [69, 73] rfl rfl rfl (.o rfl (.call (zint_Exact (by rw [val_words]; have := nz_sub (cf r.2 k * cf r0.2 col) (cf r.2 col * cf r0.2 k); have := nz_mul (cf r.2 k) (cf r0.2 col); have := nz_mul (cf r.2 col) (cf r0.2 k); have := hrB k; have := hrB col; have := hr0B k; have := hr0B col; omega) (by rw [val_words]; omega)) (.cons (.t rfl) (.cons (.t rfl) .nil)))) ?_)))))))))))))))
   refine .s 8 [74] rfl rfl rfl (.o rfl (.mv (.t rfl))) (.ea (i := 10) [66] rfl rfl rfl (by kernel_rfl) rfl (OKY.ext (.t rfl) rfl) (.fin [9, 11, 12] (by kernel_rfl) (by kernel_rfl) (fun _ _ _ _ _ h => h) (by kernel_rfl) (by kernel_rfl) (by kernel_rfl) (by kernel_rfl) (by kernel_rfl) (by kernel_rfl) (by kernel_rfl) (by kernel_rfl) (by kernel_rfl) (.cv (Cv.wk (.l [0, 1, 5, 6, 25, 26, 27, 28, 29, 30, 31, 34, 35, 36, 37, 38, 39, 40, 7, 41, 42, 43, 44, 8, 45, 46, 47, 48, 49, 9, 50, 51, 52, 53, 54, 55, 56, 57, 58, 59, 60, 61, 62, 63, 64, 65, 10, 67, 68, 70, 71, 72, 69, 73, 74, 66] rfl)) (st (.eq (.ext (.t rfl) rfl) ((show isZ _ = Flat (zc (nz (clr r0.2 r.2 col last k))) from isZ_eq (by rw [zv_nf, zv_nf]; rfl)))) rfl ?_))))
   refine st (.ixGr sl22 ty31 (.t rfl) (.t rfl) ⟨by omega, by omega⟩) rfl (.storeGK (z := nz (clr r0.2 r.2 col last k)) zc_len (.t rfl) (.t rfl) (i := 5 + i) (wkAt (pre := [_, _, _, _, _]) (r := (r.1, mixR r0.2 r.2 col last k)) hset) ty31 (by rw [List.length_map, mixR_len _ _ _ _ (by omega)]; omega) (M' := (_ :: _ :: _ :: _ :: _ :: (rs'.set i (r.1, mixR r0.2 r.2 col last (k + 1))).map rowM)) (wkStore (pre := [_, _, _, _, _]) (X := (r.1, mixR r0.2 r.2 col last k)) hset (mixR_set _ _ _ _ (by omega))) ?_)
   refine nl (.bln (.thn (k15 _ _ (.region (st (.addI (.t rfl) (.cI 1 rfl) (by first | omega | assumption) (by first | omega | assumption)) rfl (st (.mv (.t rfl)) rfl (nl (.thn (hK12 (⟨k + 1, by omega⟩) _ _ ?_ (Cv.trans (Cv.drop ((.cons _ (.cons_cons _ (.cons_cons _ (.cons_cons _ (.cons_cons _ (List.Sublist.refl _)))))))) (Cv.mem (.c 47 rfl ?_ (.l [0, 1, 5, 6, 25, 26, 27, 28, 29, 30, 31, 34, 35, 36, 37, 38, 39, 40, 7, 41, 42, 43, 44, 8, 45, 46] rfl)) ?_)))))))))))
   ·show C - (k + 1) < C - k; omega
   ·exact isI_eq (by omega)
   ·rfl
  ·have hc2 := BP.f hc2
   refine .exit (.the (.the (.blh (.bln (.thn (k8 _ _ (.region (st (.mv (.t rfl)) rfl (st (.addI (.t rfl) (.cI 1 rfl) (by first | omega | assumption) (by first | omega | assumption)) rfl (st (.as (.t rfl)) rfl (nl (.thn ?_))))))))))))
   have hkC : k = r.2.length := by omega
   subst hkC
   refine hK5 (⟨(i + 1, rs'.set i (r.1, clrL r0.2 r.2 col last)), by show ps.length < i + 1; omega, by show i + 1 ≤ _; omega, hcl.step hti hr⟩) _ _ ?_ (Cv.trans (Cv.drop ((.cons _ (.cons_cons _ (.cons_cons _ (.cons_cons _ (List.Sublist.refl _))))))) (Cv.mem (.c 6 rfl ?_ (.l [0, 1, 5] rfl)) ?_))
   ·show rs.length - (i + 1) < rs.length - i; omega
   ·exact isI_eq (by omega)
   ·exact wk_round hri
 ·have hc1 := BP.f hc1
  refine .exit (.the (.the (.blh (.thn (k3 _ _ (.cv (Cv.wk (.l [0, 1, 5] rfl)) (.seq fun _ k18 => .region (st (.mv (.t rfl)) rfl (st (.mv (.t rfl)) rfl (st (.mv (.t rfl)) rfl (st (.ixGr sl22 ty31 (.t rfl) (.t rfl) ⟨by omega, by omega⟩) rfl (st (.loadGK zc_len (.t rfl) (i := 3 + ps.length) (wkAt (pre := [_, _, _]) h0') ty31 (getZ (i := col) (by omega))) rfl (st (.nilc (.t rfl)) rfl (st (.fieldAddr (.t rfl) fld153_3 ty31) rfl (.store (.t rfl) (.t rfl) (i := 0) rfl ty31 rfl rfl (Ss' := [_, _, _, _, _, _]) rfl (M' := ((some _, cellM [_, _, _, _, _, _]) :: _ :: _ :: _)) rfl (nl (.thn (k18 _ _ (.cv (Cv.wk (.l [0, 1] rfl)) (.region (st (.mv (.t rfl)) rfl (st (.mv (.t rfl)) rfl (st (.nilc (.t rfl)) rfl (st (.fieldAddr (.t rfl) fld153_2 ty108) rfl (st (.load1 (.t rfl) (i := 0) rfl ty108 rfl) rfl (st (.mv (.t rfl)) rfl (st (.buildS [isI 0] sl108 ty3 zero3 (fun _ _ => ⟨⟨rfl, by decide, by decide⟩, trivial⟩) rfl rfl (.cons (.t rfl) rfl rfl rfl .nil) rfl (S := SlM isI [(col : Int)]) rfl) rfl (.appendG (f := isI) (u := 0) sl108 ty3 zero3 (fun _ _ => ⟨⟨rfl, by decide, by decide⟩, trivial⟩) (fun _ => inferInstance) by3 (.t rfl) (i := 1) rfl (.t rfl) (by rw [hpv]; show ps.length + 1 ≤ _; omega) (by simp) rfl fun gr1 => ?_))))))))))))))))))))))))))))
  refine .memEq (M' := (_ :: grM _ _ _ :: _ :: _)) rfl (st (.nilc (.t rfl)) rfl (st (.fieldAddr (.t rfl) fld153_2 ty108) rfl (.store (.t rfl) (.t rfl) (i := 0) rfl ty108 rfl rfl (Ss' := [_, _, _, _, _, _]) rfl (M' := ((some _, cellM [_, _, _, _, _, _]) :: _ :: _ :: _)) rfl (nl (rtX0 (.inr rfl) Tryz.results250 rfl ?_)))))
  exact ⟨gr1, gt, rs', rfl, wk_clr hlen.symm rfl, by obtain rfl : i = rs.length := (by omega); exact hcl⟩
theorem bareiss_run {bw C : Nat} {gp : Gr Int} {gt : Gr Row} {rs : List Row} {K : Nat} (hrow : ∀ r ∈ rs, r.2.length = C) (hb : ∀ r ∈ rs, Bd r.2 K) (hC : C ≤ 64) (hR : rs.length ≤ 64) (hK1 : 1 ≤ K) (hK : (K + 1) * 2 ^ rs.length ≤ 100000000) : CtrX Tryz.prog 193 [isPtr bw 0] (wkM bw gp gt rs C [] 1 false) (fun S M => ∃ gp' gt' rs' ps' last' odd', S = isTup [] ∧ M = wkM bw gp' gt' rs' C ps' last' odd' ∧ RunI ⟨rs.map Prod.snd, [], 1, false⟩ C K rs.length C rs' ps' last' odd') := by
 refine CtrX.intro Tryz.func193 rfl (by kernel_rfl) Tryz.ntmps193 rfl fun w0 F0 => .cv (Cv.wk (.l [0] rfl)) (.seq fun _ k1 => .region (st (.as (.cI 0 rfl)) rfl (nl (.thn (k1 _ _ (.block (.loopF [0] (fun (z : { z : Nat × Gr Int × Gr Row × List Row × List Nat × Int × Bool // RunI ⟨rs.map Prod.snd, [], 1, false⟩ C K rs.length z.1 z.2.2.2.1 z.2.2.2.2.1 z.2.2.2.2.2.1 z.2.2.2.2.2.2 }) => match z with | ⟨(c, gp1, gt1, rs1, ps1, last1, odd1), hI⟩ => [(2, isI (c : Int))]) (fun M => fun (z : { z : Nat × Gr Int × Gr Row × List Row × List Nat × Int × Bool // RunI ⟨rs.map Prod.snd, [], 1, false⟩ C K rs.length z.1 z.2.2.2.1 z.2.2.2.2.1 z.2.2.2.2.2.1 z.2.2.2.2.2.2 }) => match z with | ⟨(c, gp1, gt1, rs1, ps1, last1, odd1), hI⟩ => wkM bw gp1 gt1 rs1 C ps1 last1 odd1) (fun (z : { z : Nat × Gr Int × Gr Row × List Row × List Nat × Int × Bool // RunI ⟨rs.map Prod.snd, [], 1, false⟩ C K rs.length z.1 z.2.2.2.1 z.2.2.2.2.1 z.2.2.2.2.2.1 z.2.2.2.2.2.2 }) => match z with | ⟨(c, gp1, gt1, rs1, ps1, last1, odd1), hI⟩ => C - c) (⟨(0, gp, gt, rs, [], 1, false), Nat.zero_le _, rfl, hrow, Nat.zero_le _, fun r hr => (hb r hr).mono (by show K ≤ (K + 1) * 1 - 1; omega), (by show (List.length (words (1 : Int).natAbs)) ≤ (K + 1) * 1 - 1; rw [nz_one]; omega), .zero⟩) (Cv.mem (.c 2 rfl ?_ (.l [0] rfl)) ?_) ?_)))))))
 ·rfl
 ·rfl
 rintro ⟨⟨c, gp1, gt1, rs1, ps1, last1, odd1⟩, hI⟩ K2 hK2
 refine .cv (Cv.wk (.l [2, 0] rfl)) (.memEq (M' := wkM bw gp1 gt1 rs1 C ps1 last1 odd1) rfl ?_)
 simp only [] at hI
 have hbn := hI.bnd
 have hpv := pv_len ps1
 have hlen1 := hI.hlen
 have hps1 := hI.hps
 have hcC := hI.hc
 refine .seq fun _ k3 => .seq fun _ k4 => .dr (.s [] rfl rfl rfl (.o rfl (.mv (.t rfl))) (.s [] rfl rfl rfl (.o rfl (.mv (.t rfl))) (.s [4] rfl rfl rfl (.o rfl (.nilc (.t rfl))) (.s [5] rfl rfl rfl (.o rfl (.fieldAddr (.t rfl) fld153_1 ty3)) (.s [6] rfl rfl rfl (.o rfl (.load1 (.t rfl) (i := 0) rfl ty3 rfl)) (.s [3, 7] rfl rfl rfl (.o rfl (.ltI (.t rfl) (.t rfl))) (.s [8] rfl rfl rfl (.o rfl (.mv (.t rfl))) ?_)))))))
 refine .s [9] rfl rfl rfl (.T rfl rfl rfl (fun hg => have hg' := BP.t hg; OK1.mv (.t rfl))) ?_
 refine .s [9, 10] rfl rfl rfl (.T rfl rfl rfl (fun hg => have hg' := BP.t hg; OK1.nilc (Has.g rfl hg))) ?_
 refine .s [9, 11] rfl rfl rfl (.T rfl rfl rfl (fun hg => have hg' := BP.t hg; OK1.fieldAddr (Has.g rfl hg) fld153_2 ty108)) ?_
 refine .s [9, 12] rfl rfl rfl (.T rfl rfl rfl (fun hg => have hg' := BP.t hg; OK1.load1 (Has.g rfl hg) (i := 0) rfl ty108 rfl)) ?_
 refine .s [9, 13] rfl rfl rfl (.T rfl rfl rfl (fun hg => have hg' := BP.t hg; OK1.len sl108 (Has.g rfl hg))) ?_
 refine .s [9] rfl rfl rfl (.T rfl rfl rfl (fun hg => have hg' := BP.t hg; OK1.mv (.t rfl))) ?_
 refine .s [9, 15] rfl rfl rfl (.T rfl rfl rfl (fun hg => have hg' := BP.t hg; OK1.nilc (Has.g rfl hg))) ?_
 refine .s [9, 16] rfl rfl rfl (.T rfl rfl rfl (fun hg => have hg' := BP.t hg; OK1.fieldAddr (Has.g rfl hg) fld153_0 ty151)) ?_
 refine .s [9, 17] rfl rfl rfl (.T rfl rfl rfl (fun hg => have hg' := BP.t hg; OK1.load1 (Has.g rfl hg) (i := 0) rfl ty151 rfl)) ?_
 refine .s [9, 18] rfl rfl rfl (.T rfl rfl rfl (fun hg => have hg' := BP.t hg; OK1.len sl151 (Has.g rfl hg))) ?_
 refine .fin (n := 17) mixed (by kernel_rfl) (by kernel_rfl) (by kernel_rfl) (.cv (Cv.wk (.l [0, 2, 3, 4, 5, 6, 7, 8, 9, 10, 11, 12, 13, 14, 15, 16, 17, 18, 19] rfl)) ?_)
 refine stT rfl rfl (fun hg => have hg' := BP.t hg; OK1.ltI (Has.g rfl hg) (Has.g rfl hg)) rfl ?_
 refine st (.pickAnd (.t rfl) (fun h => Has.g rfl h)) rfl (nl (.thn (k4 _ _ (.cond (.t rfl) (fun hc1 => ?_) (fun hc1 => ?_)))))
 ·have hc1 := BP.t hc1
  refine .skip (.thn (k3 _ _ (.seq fun _ k5 => .block (.seq fun _ k6 => .region (st (.mv (.t rfl)) rfl (st (.mv (.t rfl)) rfl (.callX (bareiss_find (col := c) hI.hrow hI.hb hC (by omega) (by omega) (by omega) (by omega)) (perm0 _) (.cons (.t rfl) (.cons (.t rfl) .nil)) rfl ?_)))))))
  rintro _ _ ⟨rs2, odd2, ok, rfl, rfl, hF⟩
  refine .memEq (M' := wkM bw gp1 gt1 rs2 C ps1 last1 odd2) (List.append_nil _) (nl (.thn (k6 _ _ (.cond (.t rfl) (fun hc2 => ?_) (fun hc2 => ?_)))))
  ·have hc2 := BP.t hc2
   subst hc2
   obtain ⟨r0, h0, hl2, htR, hrow2, hb2, hrun⟩ := hI.yes (by omega) hF
   refine .region (st (.mv (.t rfl)) rfl (st (.mv (.t rfl)) rfl (.callX (bareiss_clear (col := c) (r0 := r0) hrow2 hb2 hC (by omega) (by omega) (by omega) (by omega) hI.hl h0) (perm0 _) (.cons (.t rfl) (.cons (.t rfl) .nil)) rfl ?_)))
   rintro _ _ ⟨gp3, gt3, rs3, rfl, rfl, hcl⟩
   refine .memEq (M' := wkM bw gp3 gt3 rs3 C (ps1 ++ [c]) (cf r0.2 c) odd2) (List.append_nil _) (nl (.bln (.thn (k5 _ _ (.region (st (.mv (.t rfl)) rfl (st (.addI (.t rfl) (.cI 1 rfl) (by first | omega | assumption) (by first | omega | assumption)) rfl (st (.as (.t rfl)) rfl (nl (.thn (hK2 (⟨(c + 1, gp3, gt3, rs3, ps1 ++ [c], cf r0.2 c, odd2), hrun rs3 hcl⟩) _ _ ?_ (Cv.mem (.c 2 rfl ?_ (.l [0] rfl)) ?_))))))))))))
   ·show C - (c + 1) < C - c; omega
   ·exact isI_eq (by omega)
   ·rfl
  ·have hc2 := BP.f hc2
   subst hc2
   have hno := hI.no (by omega) hF
   refine .skip (.bln (.thn (k5 _ _ (.region (st (.mv (.t rfl)) rfl (st (.addI (.t rfl) (.cI 1 rfl) (by first | omega | assumption) (by first | omega | assumption)) rfl (st (.as (.t rfl)) rfl (nl (.thn (hK2 (⟨(c + 1, gp1, gt1, rs2, ps1, last1, odd2), hno⟩) _ _ ?_ (Cv.mem (.c 2 rfl ?_ (.l [0] rfl)) ?_)))))))))))
   ·show C - (c + 1) < C - c; omega
   ·exact isI_eq (by omega)
   ·rfl
 ·have hc1 := BP.f hc1
  refine .exit (.the (.the (.blh (rtX0 (.inr rfl) Tryz.results193 rfl (⟨gp1, gt1, rs1, ps1, last1, odd1, rfl, rfl, hI.fin (by omega)⟩)))))
theorem bareiss_done {R C K : Nat} {xs : List (Bool × List Nat)} (hx : Bd (vals xs) K) (hK1 : 1 ≤ K) (hR : R ≤ 64) (hC : C ≤ 64) (hl : xs.length = R * C) (hK : (K + 1) * 2 ^ R ≤ 100000000) : CtrX Tryz.prog 120 [isM (R : Int) (C : Int) xs] ([]) (fun S M => ∃ rs ps last odd, S = isTup [wkF (rs.map Prod.snd) C ps last odd, isI 0] ∧ M = [] ∧ RunI ⟨rowsOf R C (vals xs), [], 1, false⟩ C K R C rs ps last odd) := by
 refine CtrX.intro Tryz.func120 rfl (by kernel_rfl) Tryz.ntmps120 rfl fun w0 F0 => .cv (Cv.wk (.l [0] rfl)) ?_
 have hfo := formB_true hR hC hl
 refine .seq fun _ k1 => .region (.box (.t rfl) rfl fun b1 => st (.as Has.cP) rfl (st (.as (.cI 0 rfl)) rfl (nl (.thn (k1 _ _ (.seq fun _ k2 => .seq fun _ k3 => .region (st (.load (.t rfl) (i := 0) rfl ty24 rfl (Ss' := [_, _, _]) rfl) rfl (st (.eq (.call (zmat_Formed) (.cons (.t rfl) .nil)) ((show isB _ = isB true from isB_eq hfo))) rfl (st (.not (.t rfl)) rfl (nl (.thn (k3 _ _ (.cond (.t rfl) (fun hc1 => ?_) (fun hc1 => ?_))))))))))))))
 ·have hc1 := BP.t hc1
  simp at hc1
 ·have hc1 := BP.f hc1
  refine .skip (.thn (k2 _ _ (.seq fun _ k4 => .region (st (.load (.t rfl) (i := 0) rfl ty24 rfl (Ss' := [_, _, _]) rfl) rfl (.cv (Cv.drop ((.cons _ .slnil))) (.cv (Cv.wk (.l [0, 2, 3, 5, 6, 7, 8] rfl)) (.callX (bareiss_begun hx (by have := Nat.mul_le_mul_left (K + 1) (Nat.one_le_pow R 2 (by decide)); omega) hR hC hl) (perm0 _) (.cons (.t rfl) .nil) rfl ?_)))))))
  rintro _ _ ⟨bw, gt, rs0, rfl, rfl, hrs0⟩
  have hl0 : rs0.length = R := by have := congrArg List.length hrs0; rwa [List.length_map, rowsOf_len] at this
  obtain ⟨hrow0, hb0⟩ := rowsOf_all hx hrs0
  refine .memEq (M' := wkM bw Gr.nil gt rs0 C [] 1 false) (List.append_nil _) (st (.as (.t rfl)) rfl (nl (.thn (k4 _ _ (.cv (Cv.wk (.l [2, 3, 4] rfl)) (.seq fun _ k5 => .region (st (.mv (.t rfl)) rfl (.callX (bareiss_run (rs := rs0) hrow0 hb0 hC (by omega) hK1 (by rw [hl0]; exact hK)) (perm0 _) (.cons (.t rfl) .nil) rfl ?_))))))))
  rintro _ _ ⟨gp, gt2, rs, ps, last, odd, rfl, rfl, hRun⟩
  rw [hrs0, hl0] at hRun
  refine .memEq (M' := wkM bw gp gt2 rs C ps last odd) (List.append_nil _) (nl (.thn (k5 _ _ (.seq fun _ k6 => .cv (Cv.freezeWk (t := 4) rfl rfl) (.region (st (.mv (.t rfl)) rfl (st (.as (.t rfl)) rfl (st (.as (.cI 0 rfl)) rfl (nl (.thn (k6 _ _ (.ret (rtXN (.inl rfl) Tryz.results120 rfl rfl (.tmp (.t rfl) (.tmp (.t rfl) .nil)) (⟨rs, ps, last, odd, rfl, rfl, hRun⟩))))))))))))))
end Go.Proofs.YthkdmhaafanjlaaGreat
namespace Go.Proofs.YthkdmhaafanjlaaGreat
open Go.En Go.RowKit
set_option maxRecDepth 10000
set_option maxHeartbeats 4000000
open Go.Nt
open Go.Pz
open Go.Mz
open Go.Dt
theorem bareiss_matrix {rs : List (List Int)} {C : Nat} {ps : List Nat} {last : Int} {odd : Bool} (hrow : ∀ r ∈ rs, r.length ≤ 64) (hR : rs.length ≤ 64) : Ctr Tryz.prog 285 [wkF rs C ps last odd] (isMz rs.length C (fltn rs)) := by
 refine Ctr.intro Tryz.func285 rfl (by kernel_rfl) Tryz.ntmps285 rfl fun w0 F0 => .cv (Cv.wk (.l [0] rfl)) ?_
 have hmx : ∀ i, (fltn (rs.take i)).length ≤ 4096 := fun i => Nat.le_trans (fltn_len (W := 64) fun r hr => hrow r (List.mem_of_mem_take hr)) (by rw [List.length_take]; exact Nat.le_trans (Nat.mul_le_mul_right 64 (show min i rs.length ≤ 64 by omega)) (by decide))
 refine .seq fun _ k1 => .region (.alloc [isI 0, isI 0, nilS] zero24 (fun _ _ => ⟨⟨rfl, by decide, by decide⟩, ⟨rfl, by decide, by decide⟩, rfl, trivial⟩) rfl fun b1 => nl (.thn (k1 _ _ (.seq fun _ k2 => .drh [true] (Ms := [_]) rfl (.s [] rfl rfl rfl (.o rfl (.mv (.t rfl))) (.s [6] rfl rfl rfl (.o rfl (.nilcP (.t rfl))) (.s [7] rfl rfl rfl (.o rfl (.fieldAddrP (.t rfl) fld153_0 ty151 (Ss' := [_, _, _, _, _, _]) rfl)) (.s [8] rfl rfl rfl (.o rfl (.loadP1 (.t rfl) ty151)) (.s [9] rfl rfl rfl (.o rfl (.len sl151 (.t rfl))) (.s [] rfl rfl rfl (.o rfl (.mv (.t rfl))) (.s [11] rfl rfl rfl (.o rfl (.nilcP (.t rfl))) (.s [12] rfl rfl rfl (.o rfl (.fieldAddrP (.t rfl) fld153_1 ty3 (Ss' := [_, _, _, _, _]) rfl)) (.s [13] rfl rfl rfl (.o rfl (.loadP1 (.t rfl) ty3)) (.s [10, 14] rfl rfl rfl (.o rfl (.build [isI 0, isI 0, nilS] pl24 zero24 (fun _ _ => ⟨⟨rfl, by decide, by decide⟩, ⟨rfl, by decide, by decide⟩, rfl, trivial⟩) (.cons (.t rfl) rfl rfl rfl (.cons (.t rfl) rfl rfl rfl .nil)) (Z'' := [_, _, _]) rfl)) (.als (n1 := 11) (ds := [3]) (zs := [[isI 0, isI 0, nilS]]) rfl (.cons rfl rfl zero24 (fun _ _ => ⟨⟨rfl, by decide, by decide⟩, ⟨rfl, by decide, by decide⟩, rfl, trivial⟩) .nil) (.cons_cons _ .slnil) (Cs := [_]) rfl (.fin (n := 11) mixed rfl (by kernel_rfl) (by kernel_rfl) (by kernel_rfl) (fun bs hbs => ?_)))))))))))))))))
 obtain ⟨b2, rfl⟩ := len1 hbs
 refine .memEq (M' := [_, _]) rfl (.cv (Cv.wk (.k 0 rfl (.k 2 rfl (.k 15 rfl (.cons (t := 3) (Has.op rfl) .nil))))) (.store (.t rfl) (.t rfl) (i := 0) rfl ty24 rfl rfl (Ss' := [_, _, _]) rfl (M' := [(some _, cellM [_, _, _]), _]) rfl (nl (.thn (k2 _ _ (.seq fun _ k3 => .seq fun _ k4 => .cv (Cv.growF (Bool × List Nat) (i := 0) (o := 2) rfl rfl rfl) (.memEq (M' := [grMK zc Gr.nil [], _, _]) rfl (.region (st (.mv (.t rfl)) rfl (st (.nilcP (.t rfl)) rfl (st (.fieldAddrP (.t rfl) fld153_0 ty151 (Ss' := [_, _, _, _, _, _]) rfl) rfl (st (.loadP1 (.t rfl) ty151) rfl (st (.len sl151 (.t rfl)) rfl (st (.mv (.cI 0 rfl)) rfl (nl (.thn (k4 _ _ (.cv (Cv.wk (.l [2, 3, 19, 20, 21] rfl)) (.block (.loopF [2, 3, 19, 20] (fun (z : { z : Nat × Gr (Bool × List Nat) // z.1 ≤ rs.length }) => match z with | ⟨(i, g), hI⟩ => [(21, isI (i : Int))]) (fun M => fun (z : { z : Nat × Gr (Bool × List Nat) // z.1 ≤ rs.length }) => match z with | ⟨(i, g), hI⟩ => [grMK zc g ((fltn (rs.take i)).map nz), (some b2, cellM [isI (rs.length : Int), isI (C : Int), isGr g ((fltn (rs.take i)).map nz).length]), (some b1, cellM [isI 0, isI 0, nilS])]) (fun (z : { z : Nat × Gr (Bool × List Nat) // z.1 ≤ rs.length }) => match z with | ⟨(i, g), hI⟩ => rs.length - i) (⟨(0, Gr.nil), Nat.zero_le _⟩) (Cv.mem (.c 21 rfl ?_ (.l [2, 3, 19, 20] rfl)) ?_) ?_))))))))))))))))))))
 ·rfl
 ·rfl
 rintro ⟨⟨i, g⟩, hI⟩ K5 hK5
 refine .cv (Cv.wk (.l [21, 2, 3, 19, 20] rfl)) (.memEq (M' := [grMK zc g ((fltn (rs.take i)).map nz), (some b2, cellM [isI (rs.length : Int), isI (C : Int), isGr g ((fltn (rs.take i)).map nz).length]), (some b1, cellM [isI 0, isI 0, nilS])]) rfl ?_)
 simp only [] at hI
 have hfl := hmx i
 refine .seq fun _ k6 => .region (st (.ltI (.t rfl) (.t rfl)) rfl (nl (.thn (k6 _ _ (.seq fun _ k7 => .cond (.t rfl) (fun hc1 => ?_) (fun hc1 => ?_))))))
 ·have hc1 := BP.t hc1
  obtain ⟨r, hr⟩ : ∃ r, rs[i]? = some r := ⟨_, List.getElem?_eq_getElem (by omega)⟩
  have hrW := hrow r (List.mem_of_getElem? hr)
  refine .skip (.thn (k7 _ _ (.seq fun _ k8 => .block (.seq fun _ k9 => .region (st (.ixP sl151 ty22 (.t rfl) (.t rfl) ⟨by omega, by omega⟩ hr) rfl (st (.loadP1 (.t rfl) ty22) rfl (st (.as (.t rfl)) rfl (nl (.thn (k9 _ _ (.region (st (.fieldAddr (.t rfl) fld24_2 ty22) rfl (st (.load1 (.t rfl) (i := 1) rfl ty22 rfl) rfl (st (.mv (.t rfl)) rfl (.appendGK0 (fk := zc) (u := (false, [])) zc_len (by decide) (fun _ => inferInstance) sl22 ty31 zero31 (fun _ _ => ⟨rfl, nilM _ _, trivial⟩) by31 (.t rfl) (i := 0) rfl (.t rfl) (by rw [List.length_map, List.length_map]; omega) rfl fun gr1 => ?_)))))))))))))))
  refine .memEq (M' := [grMK _ _ _, _, _]) rfl (st (.fieldAddr (.t rfl) fld24_2 ty22) rfl (.store (.t rfl) (.t rfl) (i := 1) rfl ty22 rfl rfl (Ss' := [_, _, _]) rfl (M' := [_, (some _, cellM [_, _, _]), _]) rfl (nl (.bln (.thn (k8 _ _ (.region (st (.addI (.t rfl) (.cI 1 rfl) (by first | omega | assumption) (by first | omega | assumption)) rfl (st (.mv (.t rfl)) rfl (nl (.thn ?_)))))))))))
  refine hK5 (⟨(i + 1, gr1), by show i + 1 ≤ rs.length; omega⟩) _ _ ?_ (Cv.mem (.c 21 rfl ?_ (.l [2, 3, 19, 20] rfl)) ?_)
  ·show rs.length - (i + 1) < rs.length - i; omega
  ·exact isI_eq (by omega)
  ·exact grF_eq (by rw [fltn_snoc hr, List.map_append, List.length_append]) (by rw [fltn_snoc hr, List.map_append])
 ·have hc1 := BP.f hc1
  refine .exit (.the (.the (.blh (.thn (k3 _ _ (.seq fun _ k10 => .cv (Cv.freezeF (k := 2) (i := 0) (j := 0) (o := 2) rfl rfl rfl rfl (gr_lenK zc_len) (gr_takeK zc_len) (Ss' := [_, _, SlK 2 zc ((fltn (rs.take i)).map nz)]) rfl) (.memEq (M' := [(some _, cellM [_, _, SlK 2 zc ((fltn (rs.take i)).map nz)]), _]) rfl (.cv (Cv.wk (.l [2, 3, 19, 20, 21, 22] rfl)) (.region (st (.load (.t rfl) (i := 0) rfl ty24 rfl (Ss' := [_, _, _]) rfl) rfl (.store (.t rfl) (.t rfl) (i := 1) rfl ty24 rfl rfl (Ss' := [_, _, _]) rfl (M' := [_, (some _, cellM [_, _, _])]) rfl (nl (.thn (k10 _ _ (.cv (Cv.wk (.l [2] rfl)) (.ret (rt1 (.inl rfl) Tryz.results285 rfl (.cell rfl (i := 1) rfl ty24 rfl ?_ .nil))))))))))))))))))
  all_goals (exact isMz_eq (by rw [List.take_of_length_le (by omega)]))
end Go.Proofs.YthkdmhaafanjlaaGreat
namespace Go.Pz
open Go.Nt Go.En
theorem normal_dead {z : Int} (h : (0 < (((List.length (words z.natAbs)) : Nat) : Int) ∧ dig z.natAbs ((List.length (words z.natAbs)) - 1) = 0) ∨ ((((List.length (words z.natAbs)) : Nat) : Int) = 0 ∧ z < 0)) : False := by
 rcases h with ⟨h1, h2⟩ | ⟨h1, h2⟩
 ·refine dig_top (n := z.natAbs) (fun e => ?_) h2
  rw [e, words_zero] at h1; exact absurd h1 (by decide)
 ·have := nw_lt z.natAbs
  rw [show (List.length (words z.natAbs)) = 0 by omega, Nat.pow_zero] at this
  omega
def fewB (xs : List (Bool × List Nat)) (n w : Int) : Bool := (xs.take 100).all (fun p => decide ((p.2.length : Int) ≤ w)) && decide ((xs.length : Int) ≤ n)
theorem fewB_no {xs : List (Bool × List Nat)} {n w : Int} {i : Nat} (hi : i < xs.length) (h1 : i < 100) (h : ¬ ((xs.getD i (false, [])).2.length : Int) ≤ w) : fewB xs n w = false := by
 unfold fewB
 have hm : xs.getD i (false, []) ∈ xs.take 100 := by
  rw [List.getD, List.getElem?_eq_getElem hi]
  exact List.mem_take_iff_getElem.2 ⟨i, by omega, rfl⟩
 have : (xs.take 100).all (fun p => decide ((p.2.length : Int) ≤ w)) = false := by
  rw [List.all_eq_false]
  exact ⟨_, hm, by rw [decide_eq_true_eq]; exact h⟩
 rw [this]; rfl
theorem fewB_yes {xs : List (Bool × List Nat)} {n w : Int} {i : Nat} (hi : xs.length ≤ i ∨ 100 ≤ i) (h : ∀ j, j < i → ((xs.getD j (false, [])).2.length : Int) ≤ w) : fewB xs n w = decide ((xs.length : Int) ≤ n) := by
 unfold fewB
 have : (xs.take 100).all (fun p => decide ((p.2.length : Int) ≤ w)) = true := by
  rw [List.all_eq_true]
  intro p hp
  obtain ⟨j, hj, rfl⟩ := List.mem_take_iff_getElem.1 hp
  have := h j (by omega)
  rw [List.getD, List.getElem?_eq_getElem (by omega)] at this
  exact decide_eq_true this
 rw [this]; rfl
theorem fewB_bd {xs : List (Bool × List Nat)} {n w : Int} {N K : Nat} (ok : ∀ p ∈ xs, (∀ y ∈ p.2, y < 18446744073709551616) ∧ p.2.length ≤ 9223372036854775807) (h : fewB xs n w = true) (hn : n = (N : Int)) (hw : w = (K : Int)) (h1 : N ≤ 100) : xs.length ≤ N ∧ Bd (vals xs) K := by
 unfold fewB at h
 rw [Bool.and_eq_true, decide_eq_true_eq, List.all_eq_true] at h
 subst hn; subst hw
 refine ⟨by omega, fun i => ?_⟩
 rw [cf_vals, zv_nw]
 rcases Nat.lt_or_ge i xs.length with hi | hi
 ·rw [List.getD, List.getElem?_eq_getElem hi]
  have h2 := h.1 xs[i] (List.mem_take_iff_getElem.2 ⟨i, by omega, rfl⟩)
  rw [decide_eq_true_eq] at h2
  exact Nat.le_trans (nw_val (ok _ (List.getElem_mem hi)).1) (by show xs[i].2.length ≤ K; omega)
 ·rw [List.getD, List.getElem?_eq_none (by omega)]
  show (List.length (words (val []))) ≤ K
  rw [show val [] = 0 from rfl, words_zero]; exact Nat.zero_le _
end Go.Pz
namespace Go.Proofs.YthkdmhaafanjlaaGreat
open Go.En Go.RowKit
set_option maxRecDepth 10000
set_option maxHeartbeats 4000000
open Go.Nt
open Go.Pz
theorem ref10_Few {xs : List (Bool × List Nat)} {n w : Int} : Ctr Tryz.prog 30 [SlK 2 zc xs, isI n, isI w] (isB (fewB xs n w)) := by
 refine Ctr.intro Tryz.func30 rfl (by kernel_rfl) Tryz.ntmps30 rfl fun w0 F0 => .cv (Cv.wk (.l [0, 1, 2] rfl)) (.fact (Has.lenLt (Has.t (t := 0) rfl)) fun lt0 => .fact (Has.rngI (Has.t (t := 1) rfl)) fun lt1 => .fact (Has.rngI (Has.t (t := 2) rfl)) fun lt2 => .seq fun _ k1 => .region (st (.as (.cB false)) rfl (nl (.thn (k1 _ _ (.seq fun _ k2 => .seq fun _ k3 => .region (st (.as (.cI 0 rfl)) rfl (nl (.thn (k3 _ _ (.block (.loopF [0, 1, 2] (fun (z : { i : Nat // i ≤ xs.length ∧ i ≤ 100 ∧ ∀ j, j < i → ((xs.getD j (false, [])).2.length : Int) ≤ w }) => match z with | ⟨i, hi⟩ => [(7, isI (i : Int))]) (fun M => fun (z : { i : Nat // i ≤ xs.length ∧ i ≤ 100 ∧ ∀ j, j < i → ((xs.getD j (false, [])).2.length : Int) ≤ w }) => match z with | ⟨i, hi⟩ => []) (fun (z : { i : Nat // i ≤ xs.length ∧ i ≤ 100 ∧ ∀ j, j < i → ((xs.getD j (false, [])).2.length : Int) ≤ w }) => match z with | ⟨i, hi⟩ => xs.length - i) (⟨0, Nat.zero_le _, by omega, fun j h => absurd h (Nat.not_lt_zero _)⟩) (Cv.mem (.c 7 rfl ?_ (.l [0, 1, 2] rfl)) ?_) ?_))))))))))))
 ·rfl
 ·rfl
 rintro ⟨i, hi, h1, hj⟩ K4 hK4
 refine .cv (Cv.wk (.l [7, 0, 1, 2] rfl)) (.memEq (M' := []) rfl (.seq fun _ k5 => .seq fun _ k6 => .region (st (.mv (.t rfl)) rfl (st (.mv (.t rfl)) rfl (st (.len sl22 (.t rfl)) rfl (st (.ltI (.t rfl) (.t rfl)) rfl (st (.mv (.t rfl)) rfl ?_)))))))
 refine stT rfl rfl (fun hg => have hg' := BP.t hg; OK1.mv (.t rfl)) rfl ?_
 refine stT rfl rfl (fun hg => have hg' := BP.t hg; OK1.ltI (Has.g rfl hg) (.cI 100 rfl)) rfl ?_
 refine st (.pickAnd (.t rfl) (fun h => Has.g rfl h)) rfl (nl (.thn (k6 _ _ (.cond (.t rfl) (fun hc1 => ?_) (fun hc1 => ?_)))))
 ·have hc1 := BP.t hc1
  refine .skip (.thn (k5 _ _ (.seq fun _ k7 => .block (.seq fun _ k8 => .region (st (.mv (.t rfl)) rfl (st (.mv (.t rfl)) rfl (st (.ixK sl22 ty31 (.t rfl) (.t rfl) zc_len ⟨by omega, by omega⟩ (getD_some (d := (false, [])) (by first | omega | (simp only [Int.toNat_natCast, List.length_set]; omega)))) rfl ?_)))))))
  refine st (.fieldAddrP (.t rfl) fld31_1 ty29 (Ss' := [_]) rfl) rfl (st (.loadP1 (.t rfl) ty29) rfl (st (.len sl29 (.t rfl)) rfl (st (.mv (.t rfl)) rfl (st (.gtI (.t rfl) (.t rfl)) rfl (nl (.thn (k8 _ _ (.cond (.t rfl) (fun hc2 => ?_) (fun hc2 => ?_)))))))))
  ·have hc2 := BP.t hc2
   have hNo : ¬ ((xs.getD i (false, [])).2.length : Int) ≤ w := (by simp only [Int.toNat_natCast] at hc2; omega)
   refine .seq fun _ k9 => .region (st (.as (.cB false)) rfl (nl (.thn (k9 _ _ (.ret (.blr (.thr (.thr (.blr (.thr (rt1 (.inl rfl) Tryz.results30 rfl (.tmp (Has.t' rfl ?_) .nil))))))))))))
   all_goals (exact isB_eq (fewB_no (by omega) (by omega) hNo).symm)
  ·have hc2 := BP.f hc2
   have hLe : ((xs.getD i (false, [])).2.length : Int) ≤ w := (by simp only [Int.toNat_natCast] at hc2; omega)
   refine .skip (.bln (.thn (k7 _ _ (.region (st (.mv (.t rfl)) rfl (st (.addI (.t rfl) (.cI 1 rfl) (by first | omega | assumption) (by first | omega | assumption)) rfl (st (.as (.t rfl)) rfl (nl (.thn ?_)))))))))
   refine hK4 (⟨i + 1, by omega, by omega, fun j h => by rcases Nat.lt_or_ge j i with h2 | h2; exact hj j h2; rw [show j = i by omega]; exact hLe⟩) _ _ ?_ (Cv.mem (.c 7 rfl ?_ (.l [0, 1, 2] rfl)) ?_)
   ·show xs.length - (i + 1) < xs.length - i; omega
   ·exact isI_eq (by omega)
   ·rfl
 ·have hc1 := BP.f hc1
  refine .exit (.the (.the (.blh (.thn (k2 _ _ (.cv (Cv.wk (.l [0, 1] rfl)) (.seq fun _ k10 => .region (st (.mv (.t rfl)) rfl (st (.len sl22 (.t rfl)) rfl (st (.mv (.t rfl)) rfl (st (.leI (.t rfl) (.t rfl)) rfl (st (.as (.t rfl)) rfl (nl (.thn (k10 _ _ (.cv (Cv.wk (.l [6] rfl)) (.ret (rt1 (.inl rfl) Tryz.results30 rfl (.tmp (Has.t' rfl ?_) .nil)))))))))))))))))))
  all_goals (exact isB_eq (fewB_yes (by omega) hj).symm)
end Go.Proofs.YthkdmhaafanjlaaGreat
namespace Go.Proofs.YthkdmhaafanjlaaGreat
open Go.En Go.RowKit
set_option maxRecDepth 10000
set_option maxHeartbeats 4000000
open Go.Nt
open Go.Pz
open Go.Mz
open Go.Hn
open Go.Tr
open Go.Dt
theorem mulB0 {R K : Nat} {L : List Int} : MulB R 0 K L 1 := ⟨by decide, by
 show (words (1 : Int).natAbs).length ≤ _
 rw [nz_one]
 exact Nat.mul_le_mul (show 1 ≤ K + 1 by omega) (Nat.pow_pos (by decide)), Nat.zero_le _, [], rfl, by simp, List.nodup_nil, rfl⟩
theorem bareiss_EchelonT {R C K : Nat} {xs : List (Bool × List Nat)} (hx : Bd (vals xs) K) (hK1 : 1 ≤ K) (hR : R ≤ 64) (hC : C ≤ 64) (hl : xs.length = R * C) (hK : (K + 1) * 2 ^ R ≤ 30000000) : CtrX Tryz.prog 260 [isM (R : Int) (C : Int) xs] ([]) (fun S M => ∃ rs ps last odd, S = isTup [isMz rs.length C (fltn (rs.map Prod.snd)), SlM isI (pv ps), isI 0] ∧ M = [] ∧ RunI ⟨rowsOf R C (vals xs), [], 1, false⟩ C K R C rs ps last odd) := by
 refine CtrX.intro Tryz.func260 rfl (by kernel_rfl) Tryz.ntmps260 rfl fun w0 F0 => .cv (Cv.wk (.l [0] rfl)) (.seq fun _ k1 => .region (.box (.t rfl) rfl fun b1 => .alloc [isI 0, isI 0, nilS] zero24 (fun _ _ => ⟨⟨rfl, by decide, by decide⟩, ⟨rfl, by decide, by decide⟩, rfl, trivial⟩) rfl fun b2 => st (.as (.cW (f := isI))) rfl (st (.as (.cI 0 rfl)) rfl (nl (.thn (k1 _ _ (.seq fun _ k2 => .region (st (.load (.t rfl) (i := 1) rfl ty24 rfl (Ss' := [_, _, _]) rfl) rfl (.callX (bareiss_done hx hK1 hR hC hl (by omega)) (List.Perm.refl _) (.cons (.t rfl) .nil) rfl ?_)))))))))
 rintro _ _ ⟨rs, ps, last, odd, rfl, rfl, hRun⟩
 have hpv := pv_len ps
 have hps := hRun.hps
 refine st (.mv (.t rfl)) rfl (st (.ext (.t rfl) rfl) rfl (st (.ext (.t rfl) rfl) rfl (st (.as (.t rfl)) rfl (st (.as (.t rfl)) rfl (nl (.thn (k2 _ _ (.cv (Cv.wk (.l [2, 3, 4, 5, 6] rfl)) (.seq fun _ k3 => .seq fun _ k4 => .region (st (.mv (.t rfl)) rfl (st (.neI (.t rfl) (.cI 0 rfl)) rfl (nl (.thn (k4 _ _ (.cond (.t rfl) (fun hc1 => ?_) (fun hc1 => ?_))))))))))))))))
 ·have hc1 := BP.t hc1
  exact absurd rfl hc1
 ·have hc1 := BP.f hc1
  skip
  refine .skip (.thn (k3 _ _ (.seq fun _ k5 => .drh [false, true] (Ms := [_]) rfl (.s [] rfl rfl rfl (.o rfl (.mv (.t rfl))) ?_))))
  refine .s [16] rfl rfl rfl (.o rfl (.eq (.call (bareiss_matrix (fun r hr => by obtain ⟨q, hq, rfl⟩ := List.mem_map.1 hr; have := hRun.hrow q hq; omega) (by rw [List.length_map]; have := hRun.hlen; omega)) (.cons (.t rfl) .nil)) ((show _ = isMz rs.length C (fltn (rs.map Prod.snd)) from by rw [List.length_map])))) ?_
  refine .s [] rfl rfl rfl (.o rfl (.mv (.t rfl))) (.s [18] rfl rfl rfl (.o rfl (.nilcP (.t rfl))) (.s [19] rfl rfl rfl (.o rfl (.fieldAddrP (.t rfl) fld153_2 ty108 (Ss' := [_, _, _, _]) rfl)) (.s [20] rfl rfl rfl (.o rfl (.loadP1 (.t rfl) ty108)) (.mid (.cons _ (.cons_cons _ .slnil)) (.st [17] rfl rfl (by kernel_rfl) (by kernel_rfl) (StS.store (.t rfl) (.t rfl) (i := 0) rfl ty24 rfl rfl (Ss' := [_, _, _]) rfl (M' := [(some _, cellM [_, _, _]), _]) rfl) (.cons _ (.cons_cons _ .slnil)) (.fin (n := 7) mixed rfl (by kernel_rfl) (by kernel_rfl) (by kernel_rfl) (.cv (Cv.wk (.l [2, 3, 4, 21] rfl)) (st (.as (.t rfl)) rfl (st (.as (.cI 0 rfl)) rfl (nl (.thn (k5 _ _ (.ret (rtXND (.cons _ (.cons _ .slnil)) (.inl rfl) Tryz.results260 rfl rfl (.cell rfl (i := 0) rfl ty24 rfl rfl (.tmp (.t rfl) (.tmp (.t rfl) .nil))) (⟨rs, ps, last, odd, rfl, rfl, hRun⟩)))))))))))))))
theorem modhnf_Multiple {R C K : Nat} {xs : List (Bool × List Nat)} (hx : Bd (vals xs) K) (hK1 : 1 ≤ K) (hR : R ≤ 64) (hC : C ≤ 64) (hl : xs.length = R * C) (hK : (K + 1) * 2 ^ R ≤ 30000000) (hp : (Go.Dt.pivs (mf C (vals xs)) R C).length = C) : CtrX Tryz.prog 211 [isM (R : Int) (C : Int) xs] ([]) (fun S M => ∃ b, S = isTup [isZ b, isI 0] ∧ M = [] ∧ MulB R C K (vals xs) b) := by
 refine CtrX.intro Tryz.func211 rfl (by kernel_rfl) Tryz.ntmps211 rfl fun w0 F0 => .cv (Cv.wk (.l [0] rfl)) (.seq fun _ k1 => .region (.box (.t rfl) rfl fun b1 => .alloc [isB false, SlM isU []] zero31 (fun _ _ => ⟨rfl, nilM _ _, trivial⟩) rfl fun b2 => st (.as (.cI 0 rfl)) rfl (nl (.thn (k1 _ _ (.seq fun _ k2 => .region (st (.load (.t rfl) (i := 1) rfl ty24 rfl (Ss' := [_, _, _]) rfl) rfl (.callX (bareiss_EchelonT hx hK1 hR hC hl hK) (List.Perm.refl _) (.cons (.t rfl) .nil) rfl ?_))))))))
 rintro _ _ ⟨rs, ps, last, odd, rfl, rfl, hRun⟩
 have hpv := pv_len ps
 have hpp : ps.length = (Go.Dt.pivs (mf C (vals xs)) R C).length := by rw [run_pivs hRun]
 have hrl := hRun.hlen
 have hpl := hRun.hps
 refine st (.mv (.t rfl)) rfl (st (.ext (.t rfl) rfl) rfl (st (.ext (.t rfl) rfl) rfl (st (.ext (.t rfl) rfl) rfl (.alloc [isI 0, isI 0, nilS] zero24 (fun _ _ => ⟨⟨rfl, by decide, by decide⟩, ⟨rfl, by decide, by decide⟩, rfl, trivial⟩) rfl fun b3 => .store (.t rfl) (.t rfl) (i := 0) rfl ty24 rfl rfl (Ss' := [_, _, _]) rfl (M' := [(some _, cellM [_, _, _]), _, _]) rfl (st (.as (.t rfl)) rfl (st (.as (.t rfl)) rfl (nl (.thn (k2 _ _ (.cv (Cv.wk (.l [1, 2, 3, 4, 5, 6] rfl)) (.seq fun _ k3 => .block (.seq fun _ k4 => .region (st (.mv (.t rfl)) rfl (st (.neI (.t rfl) (.cI 0 rfl)) rfl (st (.as (.t rfl)) rfl (nl (.thn (k4 _ _ (.cond (.t rfl) (fun hc1 => ?_) (fun hc1 => ?_))))))))))))))))))))
 ·have hc1 := BP.t hc1
  exfalso; simp at hc1
 ·have hc1 := BP.f hc1
  skip
  refine .seq fun _ k5 => .region (st (.mv (.t rfl)) rfl (st (.len sl108 (.t rfl)) rfl (st (.fieldAddr (.t rfl) fld24_1 ty3) rfl (st (.load1 (.t rfl) (i := 2) rfl ty3 rfl) rfl (st (.ltI (.t rfl) (.t rfl)) rfl (st (.as (.t rfl)) rfl (nl (.thn (k5 _ _ (.cv (Cv.wk (.l [1, 2, 3, 4, 18] rfl)) (.cond (.t rfl) (fun hc2 => ?_) (fun hc2 => ?_))))))))))))
  ·have hc2 := BP.t hc2
   exfalso; omega
  ·have hc2 := BP.f hc2
   obtain ⟨hMB, hlast⟩ := run_mul hRun (by omega)
   have hrow : ∀ r ∈ rs.map Prod.snd, r.length = C := fun r hr => by obtain ⟨q, hq, rfl⟩ := List.mem_map.1 hr; exact hRun.hrow q hq
   have hbA : ∀ r ∈ rs.map Prod.snd, Bd r ((K + 1) * 2 ^ R) := fun r hr => by obtain ⟨q, hq, rfl⟩ := List.mem_map.1 hr; exact (hRun.hb q hq).mono (by have := Nat.mul_le_mul_left (K + 1) (Nat.pow_le_pow_right (show 0 < 2 by decide) hpl); omega)
   have hll := hRun.hl
   have hp2 := Nat.mul_le_mul_left (K + 1) (Nat.pow_le_pow_right (show 0 < 2 by decide) hpl)
   refine .seq fun _ k6 => .region (st (.fieldAddr (.t rfl) fld24_1 ty3) rfl (st (.load1 (.t rfl) (i := 2) rfl ty3 rfl) rfl (st (.eqI (.t rfl) (.cI 0 rfl)) rfl (st (.as (.t rfl)) rfl (nl (.thn (k6 _ _ (.cond (.t rfl) (fun hc3 => ?_) (fun hc3 => ?_)))))))))
   ·have hc3 := BP.t hc3
    obtain rfl : C = 0 := by omega
    refine .seq fun _ k7 => .region (st (.call (zint_Of) (.cons (.cI 1 rfl) .nil)) rfl (.store (.t rfl) (.t rfl) (i := 1) rfl ty31 rfl rfl (Ss' := [_, _]) rfl (M' := [_, (some _, cellM [_, _]), _]) rfl (st (.as (.cI 0 rfl)) rfl (nl (.thn (k7 _ _ (.cv (Cv.wk (.l [1, 2, 3, 4] rfl)) (.ret (.blr (.thr (rtXND (.cons _ (.cons _ (.cons _ .slnil))) (.inl rfl) Tryz.results211 rfl rfl (.cell rfl (i := 1) rfl ty31 rfl rfl (.tmp (.t rfl) .nil)) (⟨1, rfl, rfl, mulB0⟩))))))))))))
   ·have hc3 := BP.f hc3
    have hC0 : 0 < C := by omega
    obtain ⟨rl, hrl1, hrl2⟩ := hlast hC0
    refine .skip (.bln (.thn (k3 _ _ (.cv (Cv.wk (.l [1, 2, 3, 4] rfl)) (.seq fun _ k8 => .region (st (.load (.t rfl) (i := 0) rfl ty24 rfl (Ss' := [_, _, _]) rfl) rfl (st (.fieldAddr (.t rfl) fld24_1 ty3) rfl (st (.load1 (.t rfl) (i := 2) rfl ty3 rfl) rfl (st (.eq (.subI (.t rfl) (.cI 1 rfl) (by first | omega | assumption) (by first | omega | assumption)) ((show isI _ = isI ((C - 1 : Nat) : Int) from isI_eq (by omega)))) rfl (st (.fieldAddr (.t rfl) fld24_1 ty3) rfl (st (.load1 (.t rfl) (i := 2) rfl ty3 rfl) rfl (st (.eq (.subI (.t rfl) (.cI 1 rfl) (by first | omega | assumption) (by first | omega | assumption)) ((show isI _ = isI ((C - 1 : Nat) : Int) from isI_eq (by omega)))) rfl (st (.eq (.call (zmat_At (R := rs.length) (i := C - 1) (k := C - 1) (K := (K + 1) * 2 ^ R) (by rw [vals_nz]; exact fltn_bd hrow hbA) (by omega) (by omega) hC (by rw [List.length_map, fltn_tab hrow, tab_len, List.length_map]) (by omega) (by omega)) (.cons (.t rfl) (.cons (.t rfl) (.cons (.t rfl) .nil)))) ((show _ = isZ last from isZ_eq (by rw [vals_nz]; exact (fltn_at hrow (r := rl.2) (by rw [List.getElem?_map, hrl1]; rfl) (by omega)).trans hrl2)))) rfl ?_)))))))))))))
    refine st (.eq (.call (zint_Abs (by rw [val_words]; omega)) (.cons (.t rfl) .nil)) ((show _ = isZ ((last.natAbs : Nat) : Int) from isZ_eq (by rw [zv_nf])))) rfl ?_
    refine .store (.t rfl) (.t rfl) (i := 1) rfl ty31 rfl rfl (Ss' := [_, _]) rfl (M' := [_, (some _, cellM [_, _]), _]) rfl (st (.as (.cI 0 rfl)) rfl (nl (.thn (k8 _ _ (.cv (Cv.wk (.l [2, 3] rfl)) (.ret (rtXND (.cons _ (.cons _ (.cons _ .slnil))) (.inl rfl) Tryz.results211 rfl rfl (.cell rfl (i := 1) rfl ty31 rfl rfl (.tmp (.t rfl) .nil)) (⟨_, rfl, rfl, hMB⟩))))))))
theorem tri_mem {n0 : Nat} {gt : Gr Row} {rs : List Row} {ls : List (List Int)} {M : Mem} (h : rs.map Prod.snd = ls) : (grM (tN n0) (gN gt) (rs.map fun r => some r.2) :: M : Mem) = grM (tN n0) (gN gt) (ls.map some) :: M := by
 subst h; rw [List.map_map]; rfl
theorem modhnf_filled {R C K : Nat} {xs : List (Bool × List Nat)} (hx : Bd (vals xs) K) (hK1 : 1 ≤ K) (hR : R ≤ 64) (hC : C ≤ 64) (hl : xs.length = R * C) (hK : (((K + 1) * 2 ^ R) + 2) * 2 ^ C ≤ 80000000) (hKm : ((K + 1) * 2 ^ R) ≤ 30000000) (hp : (Go.Dt.pivs (mf C (vals xs)) R C).length = C) : CtrX Tryz.prog 147 [isM (R : Int) (C : Int) xs] ([]) (fun S M => ∃ b, S = isTup [PtrL [SlM isP (filT b R C (vals xs)), isB (decide (b < 0)), SlM isU (words b.natAbs)], isI 0] ∧ M = [] ∧ MulB R C K (vals xs) b) := by
 refine CtrX.introF Tryz.func147 rfl (by kernel_rfl) Tryz.ntmps147 rfl fun w0 F0 hF0 => .cv (Cv.wk (.l [0] rfl)) ?_
 have hKb : K + 1 ≤ ((K + 1) * 2 ^ R) := Nat.le_mul_of_pos_right _ (Nat.pow_pos (by decide))
 refine .seq fun _ k1 => .region (.box (.t rfl) rfl fun b1 => st (.as Has.cP) rfl (st (.as (.cI 0 rfl)) rfl (nl (.thn (k1 _ _ (.seq fun _ k2 => .region (st (.load (.t rfl) (i := 0) rfl ty24 rfl (Ss' := [_, _, _]) rfl) rfl (.callX (modhnf_Multiple hx hK1 hR hC hl hKm hp) (List.Perm.refl _) (.cons (.t rfl) .nil) rfl ?_))))))))
 rintro _ _ ⟨b, rfl, rfl, hMB⟩
 have hb0 := hMB.1
 have hbK := hMB.2.1
 refine st (.mv (.t rfl)) rfl (st (.ext (.t rfl) rfl) rfl (st (.ext (.t rfl) rfl) rfl (.alloc [isB false, SlM isU []] zero31 (fun _ _ => ⟨rfl, nilM _ _, trivial⟩) rfl fun b2 => .store (.t rfl) (.t rfl) (i := 0) rfl ty31 rfl rfl (Ss' := [_, _]) rfl (M' := [(some _, cellM [_, _]), _]) rfl (st (.as (.t rfl)) rfl (nl (.thn (k2 _ _ (.cv (Cv.wk (.l [1, 2, 3, 4, 5] rfl)) (.seq fun _ k3 => .seq fun _ k4 => .region (st (.mv (.t rfl)) rfl (st (.neI (.t rfl) (.cI 0 rfl)) rfl (nl (.thn (k4 _ _ (.cond (.t rfl) (fun hc1 => ?_) (fun hc1 => ?_))))))))))))))))
 ·have hc1 := BP.t hc1
  exfalso; simp at hc1
 ·have hc1 := BP.f hc1
  skip
  refine .skip (.thn (k3 _ _ (.seq fun _ k5 => .region (st (.fieldAddr (.t rfl) fld24_1 ty3) rfl (st (.load1 (.t rfl) (i := 1) rfl ty3 rfl) rfl (st (.load (.t rfl) (i := 0) rfl ty31 rfl (Ss' := [_, _]) rfl) rfl (.callX (modhnf_begun (n := C) (b := b) hC) (List.Perm.refl _) (.cons (.t rfl) (.cons (.t rfl) .nil)) rfl ?_)))))))
  rintro _ _ ⟨bt, gt0, rs0, rfl, rfl, hrs0⟩
  have hl0 : rs0.length = C := by have := congrArg List.length hrs0; rwa [List.length_map, tri0_len] at this
  refine .cv (Cv.triN (t := 23) (n' := C) rfl rfl hl0 rfl) (st (.as (.t rfl)) rfl (nl (.thn (k5 _ _ (.cv (Cv.wk (.l [1, 2, 3, 4, 6] rfl)) (.seq fun _ k6 => .seq fun _ k7 => .region (st (.fieldAddr (.t rfl) fld24_0 ty3) rfl (st (.load1 (.t rfl) (i := 2) rfl ty3 rfl) rfl (st (.mv (.cI 0 rfl)) rfl (nl (.thn (k7 _ _ (.block (.loopF [1, 2, 3, 4, 6, 25] (fun (z : { i : Nat // i ≤ R }) => match z with | ⟨i, hi⟩ => [(26, isI (i : Int))]) (fun M => fun (z : { i : Nat // i ≤ R }) => match z with | ⟨i, hi⟩ => (grM (tN w0.heap.size) (gN gt0) ((fil b C (vals xs) i).map some) :: zM b2 b :: (some b1, cellM [isI (R : Int), isI (C : Int), SlK 2 zc xs]) :: [])) (fun (z : { i : Nat // i ≤ R }) => match z with | ⟨i, hi⟩ => R - i) (⟨0, Nat.zero_le _⟩) (Cv.mem (.c 26 rfl ?_ (.l [1, 2, 3, 4, 6, 25] rfl)) ?_) ?_))))))))))))))
  ·rfl
  ·exact tri_mem hrs0
  rintro ⟨i, hi⟩ K8 hK8
  refine .cv (Cv.wk (.l [26, 1, 2, 3, 4, 6, 25] rfl)) (.memEq (M' := (grM (tN w0.heap.size) (gN gt0) ((fil b C (vals xs) i).map some) :: zM b2 b :: (some b1, cellM [isI (R : Int), isI (C : Int), SlK 2 zc xs]) :: [])) rfl (.seq fun _ k9 => .region (st (.ltI (.t rfl) (.t rfl)) rfl (nl (.thn (k9 _ _ (.seq fun _ k10 => .cond (.t rfl) (fun hc2 => ?_) (fun hc2 => ?_))))))))
  ·have hc2 := BP.t hc2
   refine .skip (.thn (k10 _ _ (.seq fun _ k11 => .block (.seq fun _ k12 => .region (st (.mv (.t rfl)) rfl (st (.as (.t rfl)) rfl (nl (.thn (k12 _ _ (.seq fun _ k13 => .region (.cv (Cv.grow0K (α := Bool × List Nat) zc) (st (.as (Has.cGr (α := Bool × List Nat))) rfl (nl (.thn (k13 _ _ (.seq fun _ k14 => .seq fun _ k15 => .region (st (.fieldAddr (.t rfl) fld24_1 ty3) rfl (st (.load1 (.t rfl) (i := 3) rfl ty3 rfl) rfl (st (.mv (.cI 0 rfl)) rfl (nl (.thn (k15 _ _ (.block (.loopF [1, 2, 3, 4, 6, 25, 26, 27, 28, 7, 29, 30] (fun (z : { z : Nat × Gr (Bool × List Nat) // z.1 ≤ C }) => match z with | ⟨(k, g), hK3⟩ => [(31, isI (k : Int)), (8, isGr g ((vrow b C (vals xs) i k).map nz).length)]) (fun M => fun (z : { z : Nat × Gr (Bool × List Nat) // z.1 ≤ C }) => match z with | ⟨(k, g), hK3⟩ => (grMK zc g ((vrow b C (vals xs) i k).map nz) :: grM (tN w0.heap.size) (gN gt0) ((fil b C (vals xs) i).map some) :: zM b2 b :: (some b1, cellM [isI (R : Int), isI (C : Int), SlK 2 zc xs]) :: [])) (fun (z : { z : Nat × Gr (Bool × List Nat) // z.1 ≤ C }) => match z with | ⟨(k, g), hK3⟩ => C - k) (⟨(0, Gr.nil), Nat.zero_le _⟩) (Cv.mem (.c 31 rfl ?_ (.c 8 rfl ?_ (.l [1, 2, 3, 4, 6, 25, 26, 27, 28, 7, 29, 30] rfl))) ?_) ?_))))))))))))))))))))))))
   ·rfl
   ·rfl
   ·rfl
   rintro ⟨⟨k, g⟩, hK3⟩ K16 hK16
   refine .cv (Cv.wk (.l [31, 8, 1, 2, 3, 4, 6, 25, 26, 27, 28, 7, 29, 30] rfl)) (.memEq (M' := (grMK zc g ((vrow b C (vals xs) i k).map nz) :: grM (tN w0.heap.size) (gN gt0) ((fil b C (vals xs) i).map some) :: zM b2 b :: (some b1, cellM [isI (R : Int), isI (C : Int), SlK 2 zc xs]) :: [])) rfl ?_)
   simp only [] at hK3
   have hvk : ((vrow b C (vals xs) i k).map nz).length = k := by rw [List.length_map, vrow_len]
   refine .seq fun _ k17 => .region (st (.ltI (.t rfl) (.t rfl)) rfl (nl (.thn (k17 _ _ (.seq fun _ k18 => .cond (.t rfl) (fun hc3 => ?_) (fun hc3 => ?_))))))
   ·have hc3 := BP.t hc3
    refine .skip (.thn (k18 _ _ (.seq fun _ k19 => .block (.seq fun _ k20 => .region (st (.mv (.t rfl)) rfl (st (.as (.t rfl)) rfl (nl (.thn (k20 _ _ (.seq fun _ k21 => .drh [true, true, true, true] (Ms := [_, _, _, _]) rfl (.s [] rfl rfl rfl (.o rfl (.load (.t rfl) (i := 3) rfl ty24 rfl (Ss' := [_, _, _]) rfl)) (.s [] rfl rfl rfl (.o rfl (.mv (.t rfl))) (.s [] rfl rfl rfl (.o rfl (.mv (.t rfl))) (.s [35, 36, 37] rfl rfl rfl (.o rfl (.call (zmat_At hx (by omega) hR hC hl (i := i) (k := k) (by omega) (by omega)) (.cons (.t rfl) (.cons (.t rfl) (.cons (.t rfl) .nil))))) (.s [] rfl rfl rfl (.o rfl (.load (.t rfl) (i := 2) rfl ty31 rfl (Ss' := [_, _]) rfl)) ?_)))))))))))))))
    refine .s [38, 39] rfl rfl rfl (.o rfl (.eq (.call (modn_Mod (by rw [val_words]; have := hx (i * C + k); omega) (by rw [val_words]; omega)) (.cons (.t rfl) (.cons (.t rfl) .nil))) ((show _ = isTup [isZ (cf (vals xs) (i * C + k) % b), isB true] from by simp only [zv_nf, zv_nz]; rw [if_pos hb0, decide_eq_true hb0])))) ?_
    refine .s [40] rfl rfl rfl (.o rfl (.mv (.t rfl))) (.s [34] rfl rfl rfl (.o rfl (.ext (.t rfl) rfl)) (.s [34] rfl rfl rfl (.o rfl (.ext (.t rfl) rfl)) (.als (n1 := 10) (ds := [10]) (zs := [[isB false, SlM isU []]]) rfl (.cons rfl rfl zero31 (fun _ _ => ⟨rfl, nilM _ _, trivial⟩) .nil) (.cons_cons _ (.cons_cons _ (.cons_cons _ (.cons_cons _ .slnil)))) (Cs := [_]) rfl (.new [41] 0 (Ss' := [_, _]) (Cs' := [cellM [_, _]]) rfl (by kernel_rfl) (by kernel_rfl) rfl rfl rfl (by kernel_rfl) rfl (.t rfl) ty31 rfl rfl rfl rfl (.fin (n := 11) mixed rfl (by kernel_rfl) (by kernel_rfl) (by kernel_rfl) (fun bs hbs => ?_))))))
    obtain ⟨b3, rfl⟩ := len1 hbs
    refine .memEq (M' := [_, _, _, _, _]) rfl (.cv (Cv.wk (.k 1 rfl (.k 2 rfl (.k 3 rfl (.k 4 rfl (.k 6 rfl (.k 25 rfl (.k 26 rfl (.k 27 rfl (.k 28 rfl (.k 7 rfl (.k 29 rfl (.k 30 rfl (.k 31 rfl (.k 8 rfl (.k 32 rfl (.k 33 rfl (.k 9 rfl (.k 35 rfl (.k 36 rfl (.k 37 rfl (.k 38 rfl (.k 39 rfl (.k 40 rfl (.k 34 rfl (.k 41 rfl (.k 42 rfl (.cons (t := 10) (Has.op rfl) .nil)))))))))))))))))))))))))))) (st (.as (.t rfl)) rfl (nl (.thn (k21 _ _ (.region (st (.mv (.t rfl)) rfl (st (.load (.t rfl) (i := 0) rfl ty31 rfl (Ss' := [_, _]) rfl) rfl (st (.buildS [isB false, SlM isU []] sl22 ty31 zero31 (fun _ _ => ⟨rfl, nilM _ _, trivial⟩) rfl rfl (.cons (.t rfl) rfl rfl rfl .nil) rfl (S := SlK 2 zc [nz (cf (vals xs) (i * C + k) % b)]) rfl) rfl (.appendGK (fk := zc) (u := (false, [])) zc_len (by decide) (fun _ => inferInstance) sl22 ty31 zero31 (fun _ _ => ⟨rfl, nilM _ _, trivial⟩) by31 (.t rfl) (i := 1) rfl (.t rfl) (by rw [hvk]; show k + 1 ≤ _; omega) (by simp) rfl fun gr1 => ?_))))))))))
    refine .memEq (M' := [_, grMK _ _ _, _, _, _]) rfl (st (.as (.t rfl)) rfl (nl (.bln (.thn (k19 _ _ (.region (st (.addI (.t rfl) (.cI 1 rfl) (by first | omega | assumption) (by first | omega | assumption)) rfl (st (.mv (.t rfl)) rfl (nl (.thn ?_))))))))))
    refine hK16 (⟨(k + 1, gr1), by show k + 1 ≤ C; omega⟩) _ _ ?_ (Cv.trans (Cv.drop ((.cons _ (.cons_cons _ (.cons_cons _ (.cons_cons _ (.cons_cons _ .slnil))))))) (Cv.mem (.c 31 rfl ?_ (.c 8 rfl ?_ (.l [1, 2, 3, 4, 6, 25, 26, 27, 28, 7, 29, 30] rfl))) ?_))
    ·show C - (k + 1) < C - k; omega
    ·exact isI_eq (by omega)
    ·exact isGr_eq (by rw [← vrow_succ, List.map_append, List.length_append]; rfl)
    ·exact grMK_eq (by rw [← vrow_succ, List.map_append]; rfl)
   ·have hc3 := BP.f hc3
    refine .exit (.the (.the (.blh (.thn (k14 _ _ (.cv (Cv.freezeGK (t := 8) (i := 0) (ys := (vrow b C (vals xs) i k).map nz) zc_len rfl rfl rfl) (.memEq (M' := [_, _, _]) rfl (.cv (Cv.wk (.l [1, 2, 3, 4, 6, 25, 26, 27, 28, 7, 29, 30, 31, 8, 32] rfl)) (.region (st (.mv (.t rfl)) rfl (st (.mv (.t rfl)) rfl (.callX (modhnf_put (n0 := w0.heap.size) (gt := gN gt0) (rows := fil b C (vals xs) i) (v0 := vrow b C (vals xs) i k) (K := ((K + 1) * 2 ^ R)) hb0 hC hKm hbK (fil_ok hb0 _ _ i) (by rw [show k = C by omega]; exact vrow_ok hb0 _ _ i)) (List.Perm.refl _) (.cons (.t rfl) (.cons (.t rfl) .nil)) rfl ?_))))))))))))
    rintro _ _ ⟨rfl, rfl⟩
    refine .memEq (M' := (grM (tN w0.heap.size) (gN gt0) ((fil b C (vals xs) (i + 1)).map some) :: zM b2 b :: (some b1, cellM [isI (R : Int), isI (C : Int), SlK 2 zc xs]) :: [])) (by rw [show k = C by omega]; rfl) ?_
    refine nl (.bln (.thn (k11 _ _ (.region (st (.addI (.t rfl) (.cI 1 rfl) (by first | omega | assumption) (by first | omega | assumption)) rfl (st (.mv (.t rfl)) rfl (nl (.thn ?_))))))))
    have hkC : C = k := by omega
    subst hkC
    refine hK8 (⟨i + 1, by omega⟩) _ _ ?_ (Cv.mem (.c 26 rfl ?_ (.l [1, 2, 3, 4, 6, 25] rfl)) ?_)
    ·show R - (i + 1) < R - i; omega
    ·exact isI_eq (by omega)
    ·rfl
  ·have hc2 := BP.f hc2
   refine .exit (.the (.the (.blh (.thn (k6 _ _ (.cv (Cv.wk (.l [2, 3, 6] rfl)) (.seq fun _ k22 => .thaw (t := 6) rfl hF0 rfl (fil_ok hb0 C (vals xs) i).len.symm (fil_ok hb0 C (vals xs) i).differ fun gt3 rs3 hrs3 => .region (st (.mv (.t rfl)) rfl (.callX (modhnf_reduce (b := b) (n := C) (K := ((K + 1) * 2 ^ R)) hC hbK (by rw [hrs3]; exact fil_ok hb0 _ _ i) hK) (perm0 _) (.cons (.t rfl) .nil) rfl ?_)))))))))
   rintro _ _ ⟨rs4, rfl, rfl, hrs4⟩
   have hl4 : rs4.length = C := by have := congrArg List.length hrs4; rwa [List.length_map, rdT_len, hrs3, (fil_ok hb0 C (vals xs) i).len] at this
   refine .memEq (M' := (grM rowV gt3 rs4 :: rs4.map rowM)) (List.append_nil _) (nl (.thn (k22 _ _ (.seq fun _ k23 => .cv (Cv.freezeTri (t := 6) (n := C) rfl hl4.symm rfl) (.region (st (.mv (.t rfl)) rfl (st (.as (.t rfl)) rfl (st (.as (.cI 0 rfl)) rfl (nl (.thn (k23 _ _ (.ret (rtXND .slnil (.inl rfl) Tryz.results147 rfl rfl (.tmp (.t rfl) (.tmp (.t rfl) .nil)) ?_)))))))))))))
   exact ⟨b, by rw [hrs4, hrs3, show i = R by omega]; rfl, rfl, hMB⟩
end Go.Proofs.YthkdmhaafanjlaaGreat
namespace Go.Hp
open Go.Dt Go.Hn Go.Pz Go.Nt Go.Mz Go.En
def fir (C : Nat) (f : Nat → Int) : Int := if fc C f < C then ((fc C f : Nat) : Int) else -1
theorem fir_at {C i : Nat} {f : Nat → Int} (hi : i < C) (h0 : ∀ j, j < i → f j = 0) (h : f i ≠ 0) : fir C f = (i : Int) := by
 have := fc_at hi h0 h
 unfold fir
 rw [this, if_pos hi]
theorem fir_all {C : Nat} {f : Nat → Int} (h : ∀ j, j < C → f j = 0) : fir C f = -1 := by
 unfold fir
 rw [fc_all h, if_neg (Nat.lt_irrefl _)]
theorem fir_congr {C : Nat} {f g : Nat → Int} (h : ∀ k, k < C → f k = g k) : fir C f = fir C g := by unfold fir; rw [fc_congr h]
theorem fir_lt {C : Nat} {f : Nat → Int} (h : 0 ≤ fir C f) : fc C f < C := by
 unfold fir at h
 split at h
 ·assumption
 ·omega
theorem fir_no {C : Nat} {f : Nat → Int} (h : fir C f < 0) : ¬ fc C f < C := fun h2 => by
 unfold fir at h
 rw [if_pos h2] at h; omega
theorem vals_drop (xs : List (Bool × List Nat)) (n : Nat) : vals (xs.drop n) = (vals xs).drop n := List.map_drop
theorem vals_take (xs : List (Bool × List Nat)) (n : Nat) : vals (xs.take n) = (vals xs).take n := List.map_take
theorem cf_part_row {xs : List (Bool × List Nat)} {a b k : Nat} (h : a + k < b) : cf (vals ((xs.take b).drop a)) k = cf (vals xs) (a + k) := by
 rw [vals_drop, vals_take]
 unfold cf
 rw [List.getD, List.getElem?_drop, List.getElem?_take_of_lt h]; rfl
def pivL (C : Nat) (A : MatF) : Nat → List Nat
 | 0 => []
 | n + 1 => if fc C (A n) < C then pivL C A n ++ [fc C (A n)] else pivL C A n
theorem pivL_yes {C n : Nat} {A : MatF} (h : fc C (A n) < C) : pivL C A (n + 1) = pivL C A n ++ [fc C (A n)] := if_pos h
theorem pivL_no {C n : Nat} {A : MatF} (h : ¬ fc C (A n) < C) : pivL C A (n + 1) = pivL C A n := if_neg h
theorem pivL_len (C : Nat) (A : MatF) : ∀ n, (pivL C A n).length ≤ n
  | 0 => Nat.le_refl _
  | n + 1 => by
    have := pivL_len C A n
    by_cases h : fc C (A n) < C
    · rw [pivL_yes h, List.length_append]; show _ + 1 ≤ _; omega
    · rw [pivL_no h]; omega
theorem pv_app (l : List Nat) (n : Nat) : pv (l ++ [n]) = pv l ++ [(n : Int)] := by unfold pv; rw [List.map_append]; rfl
theorem ext_cf {a b : List Int} (hl : a.length = b.length) (h : ∀ j, j < a.length → cf a j = cf b j) : a = b := by
 refine List.ext_getElem? fun j => ?_
 rcases Nat.lt_or_ge j a.length with h1 | h1
 ·rw [getElem_cf h1, getElem_cf (by omega), h j h1]
 ·rw [List.getElem?_eq_none h1, List.getElem?_eq_none (by omega)]
theorem is_dead131 {R C i : Nat} {A : MatF} {last : Int} {ended : Bool} (hi : i < R) (hfk : fc C (A i) < C) (hh : HermF R C A) (hE1 : ended = true → 0 < i ∧ fc C (A (i - 1)) = C) (hE2 : ended = false → last = if i = 0 then -1 else ((fc C (A (i - 1)) : Nat) : Int))
    (h : ended = true ∨ ((fc C (A i) : Nat) : Int) ≤ last ∨ sgn (A i (fc C (A i))) < 0) : False := by
  obtain ⟨h1, h2, _⟩ := hh i hi hfk
  have hs := sgn_lt (A i (fc C (A i)))
  cases he : ended with
  | true =>
    obtain ⟨h3, h4⟩ := hE1 he
    have := h1 h3; omega
  | false =>
    have h5 := hE2 he
    rcases h with h | h | h
    · rw [he] at h; cases h
    · by_cases h0 : i = 0
      · rw [if_pos h0] at h5; omega
      · rw [if_neg h0] at h5
        have := h1 (by omega); omega
    · omega
end Go.Hp
namespace Go.Hp
open Go.Dt Go.Hn Go.Pz Go.Nt Go.Mz Go.En
theorem HermF.sub {R C n : Nat} {A : MatF} (h : HermF R C A) (hn : n ≤ R) : HermF n C A := fun i hi hc => h i (by omega) hc
/-! ### rows within others -/
def latL (R C : Nat) (L : List Int) : List Int := tab ((pivL C (mf C (hL R C L)) R).length * C) C fun i k => cf (hL R C L) ((0 + i) * C + k)
def stkL (R R' C : Nat) (L L' : List Int) : List Int := tab ((R + R') * C) C fun i k => if i < R then cf L (i * C + k) else cf L' ((i - R) * C + k)
end Go.Hp
namespace Go.Hp
open Go.Dt Go.Hn Go.Pz Go.Nt Go.Mz Go.En
end Go.Hp
namespace Go.Tr
open Go.Nt Go.Pz Go.Mz Go.En Go.Hn Go.Hp Go.Dt
theorem TriR.e {b : Int} {n : Nat} {rows : List (List Int)} (h : TriR b n rows) {i : Nat} (hi : i < n) : (∀ j, j < i → E rows i j = 0) ∧ 0 < E rows i i ∧ E rows i i ≤ b ∧ (∀ j, i < j → 0 ≤ E rows i j ∧ E rows i j < b) ∧ ∀ j, n ≤ j → E rows i j = 0 := by
 obtain ⟨p, hp⟩ : ∃ p, rows[i]? = some p := ⟨_, List.getElem?_eq_getElem (by rw [h.len]; exact hi)⟩
 rw [E_of hp]
 exact ⟨h.low i p hp, (h.dia i p hp).1, (h.dia i p hp).2, h.hi i p hp, fun j hj => cf_high (by rw [h.row i p hp]; exact hj)⟩
theorem E_out {rows : List (List Int)} {i : Nat} (h : rows.length ≤ i) (j : Nat) : E rows i j = 0 := by
 unfold E; rw [List.getD, List.getElem?_eq_none h]; rfl
theorem rdT_low {b : Int} {n : Nat} {rows : List (List Int)} (h : TriR b n rows) : ∀ k, k ≤ n → ∀ i j, i < n → j ≤ i → E (rdT rows k) i j = E rows i j
  | 0, _, i, j, _, _ => rfl
  | k + 1, hk, i, j, hi, hj => by
    have ih := rdT_low h k (by omega)
    show E (rds (rdT rows k) k k k) i j = _
    rw [rds_at (rdT_row h k (by omega)) (by rw [rdT_len, h.len]; exact hk) k (Nat.le_refl _)]
    split
    · next hik =>
      rw [ih i j hi hj, ih k j (by omega) (by omega), (h.e (show k < n by omega)).1 j (by omega)]
      omega
    · exact ih i j hi hj
theorem rdT_red {b : Int} {n : Nat} {rows : List (List Int)} (h : TriR b n rows) : ∀ k, k ≤ n → ∀ i j, i < j → j < k → 0 ≤ E (rdT rows k) i j ∧ E (rdT rows k) i j < E rows j j
  | 0, _, i, j, _, hj => absurd hj (Nat.not_lt_zero _)
  | k + 1, hk, i, j, hij, hj => by
    have ih := rdT_red h k (by omega)
    have lo := rdT_low h k (by omega)
    show 0 ≤ E (rds (rdT rows k) k k k) i j ∧ E (rds (rdT rows k) k k k) i j < _
    rw [rds_at (rdT_row h k (by omega)) (by rw [rdT_len, h.len]; exact hk) k (Nat.le_refl _), if_pos (show i < k by omega)]
    rcases Nat.lt_or_ge j k with h1 | h1
    · rw [lo k j (by omega) (by omega), (h.e (show k < n by omega)).1 j h1, Int.mul_zero, Int.sub_zero]
      exact ih i j hij h1
    · obtain rfl : j = k := by omega
      have hd := (h.e (show j < n by omega)).2.1
      rw [lo j j (by omega) (Nat.le_refl _)]
      have e := Int.emod_def (E (rdT rows j) i j) (E rows j j)
      rw [Int.mul_comm] at e
      rw [← e]
      exact ⟨Int.emod_nonneg _ (by omega), Int.emod_lt_of_pos _ hd⟩
def trF (b : Int) (R C : Nat) (L : List Int) : MatF := E (filT b R C L)
theorem filT_len (b : Int) (R C : Nat) (L : List Int) (hb : 0 < b) : (filT b R C L).length = C := by unfold filT; rw [rdT_len, (fil_ok hb C L R).len]
theorem filT_row {b : Int} {R C : Nat} {L : List Int} (hb : 0 < b) : ∀ r ∈ filT b R C L, r.length = C := rdT_row (fil_ok hb C L R) C (Nat.le_refl _)
theorem trF_low {b : Int} {R C : Nat} {L : List Int} (hb : 0 < b) {i j : Nat} (hj : j < i) : trF b R C L i j = 0 := by
 rcases Nat.lt_or_ge i C with h | h
 ·have ht := fil_ok hb C L R
  show E (rdT _ C) i j = 0
  rw [rdT_low ht C (Nat.le_refl _) i j h (by omega)]
  exact (ht.e h).1 j hj
 ·exact E_out (by rw [filT_len _ _ _ _ hb]; exact h) j
theorem trF_dia {b : Int} {R C : Nat} {L : List Int} (hb : 0 < b) {i : Nat} (hi : i < C) : 0 < trF b R C L i i ∧ trF b R C L i i ≤ b := by
 have ht := fil_ok hb C L R
 show 0 < E (rdT _ C) i i ∧ E (rdT _ C) i i ≤ b
 rw [rdT_low ht C (Nat.le_refl _) i i hi (Nat.le_refl _)]
 exact ⟨(ht.e hi).2.1, (ht.e hi).2.2.1⟩
theorem trF_up {b : Int} {R C : Nat} {L : List Int} (hb : 0 < b) {i j : Nat} (hij : i < j) (hj : j < C) : 0 ≤ trF b R C L i j ∧ trF b R C L i j < trF b R C L j j := by
 have ht := fil_ok hb C L R
 have h1 := rdT_red ht C (Nat.le_refl _) i j hij hj
 have h2 := rdT_low ht C (Nat.le_refl _) j j hj (Nat.le_refl _)
 exact ⟨h1.1, by show _ < E (rdT _ C) j j; rw [h2]; exact h1.2⟩
theorem trF_out {b : Int} {R C : Nat} {L : List Int} (hb : 0 < b) {i j : Nat} (hi : C ≤ i) : trF b R C L i j = 0 := E_out (by rw [filT_len _ _ _ _ hb]; exact hi) j
theorem trF_all {b : Int} {R C : Nat} {L : List Int} (hb : 0 < b) (i j : Nat) : 0 ≤ trF b R C L i j ∧ trF b R C L i j ≤ b := by
 rcases Nat.lt_or_ge i C with hi | hi
 ·rcases Nat.lt_or_ge j C with hj | hj
  ·rcases Nat.lt_trichotomy i j with h | h | h
   ·have h1 := trF_up (R := R) (L := L) hb h hj
    have h2 := trF_dia (R := R) (L := L) hb hj
    omega
   ·subst h
    have h2 := trF_dia (R := R) (L := L) hb hj
    omega
   ·rw [trF_low hb h]; omega
  ·have : trF b R C L i j = 0 := by
    obtain ⟨p, hp⟩ : ∃ p, (filT b R C L)[i]? = some p := ⟨_, List.getElem?_eq_getElem (by rw [filT_len _ _ _ _ hb]; exact hi)⟩
    unfold trF
    rw [E_of hp]
    exact cf_high (by rw [filT_row hb p (List.mem_of_getElem? hp)]; exact hj)
   omega
 ·rw [trF_out hb hi]; omega
theorem trF_fc {b : Int} {R C : Nat} {L : List Int} (hb : 0 < b) {i : Nat} (hi : i < C) : fc C (trF b R C L i) = i := fc_at hi (fun k hk => trF_low hb hk) (by have := (trF_dia (R := R) (L := L) hb hi).1; omega)
theorem trF_form {b : Int} {R C : Nat} {L : List Int} (hb : 0 < b) : HermF R C (trF b R C L) := fun i hi hc => by
 have hiC : i < C := by
  rcases Nat.lt_or_ge i C with h | h
  ·exact h
  ·rw [fc_all fun k _ => trF_out hb h] at hc; omega
 rw [trF_fc hb hiC]
 refine ⟨fun h0 => by rw [trF_fc hb (by omega)]; omega, (trF_dia hb hiC).1, fun r hr => trF_up hb hr hiC⟩
def hmL (b : Int) (R C : Nat) (L : List Int) : List Int := tab (R * C) C (trF b R C L)
theorem hmL_len (b : Int) (R C : Nat) (L : List Int) : (hmL b R C L).length = R * C := tab_len _ _ _
def ixv (b : Int) (R C : Nat) (L : List Int) : Nat → Int
 | 0 => 1
 | k + 1 => ixv b R C L k * trF b R C L k k
theorem ixv_nw {b : Int} {R C K : Nat} {L : List Int} (hb : 0 < b) (hK : (List.length (words b.natAbs)) ≤ K) : ∀ k, (List.length (words (ixv b R C L k).natAbs)) ≤ 1 + k * K
  | 0 => Nat.le_trans (show (words (1 : Int).natAbs).length ≤ 1 from nw_small' (by decide)) (by omega)
  | k + 1 => by
    have ih := ixv_nw (R := R) (C := C) (L := L) hb hK k
    have h1 := nz_mul (ixv b R C L k) (trF b R C L k k)
    have h2 := nw_le_b (trF_all (R := R) (C := C) (L := L) hb k k).1 (trF_all (R := R) (C := C) (L := L) hb k k).2 hK
    show (words (ixv b R C L k * trF b R C L k k).natAbs).length ≤ _
    rw [Nat.succ_mul]
    omega
end Go.Tr
namespace Go.Proofs.YthkdmhaafanjlaaGreat
open Go.En Go.RowKit
set_option maxRecDepth 10000
set_option maxHeartbeats 4000000
open Go.Nt
open Go.Pz
open Go.Mz
open Go.Hn
open Go.Tr
open Go.Dt
theorem modhnf_Hermite {R C K : Nat} {xs : List (Bool × List Nat)} (hx : Bd (vals xs) K) (hK1 : 1 ≤ K) (hR : R ≤ 64) (hC : C ≤ 64) (hl : xs.length = R * C) (hK : (((K + 1) * 2 ^ R) + 2) * 2 ^ C ≤ 80000000) (hKm : ((K + 1) * 2 ^ R) ≤ 30000000) (hp : (Go.Dt.pivs (mf C (vals xs)) R C).length = C) : CtrX Tryz.prog 70 [isM (R : Int) (C : Int) xs] ([]) (fun S M => ∃ b, S = isTup [isMz R C (hmL b R C (vals xs)), isI 0] ∧ M = [] ∧ MulB R C K (vals xs) b) := by
 refine CtrX.intro Tryz.func70 rfl (by kernel_rfl) Tryz.ntmps70 rfl fun w0 F0 => .cv (Cv.wk (.l [0] rfl)) ?_
 have hRC := side_le hR hC
 refine .seq fun _ k1 => .region (.box (.t rfl) rfl fun b1 => .alloc [isI 0, isI 0, nilS] zero24 (fun _ _ => ⟨⟨rfl, by decide, by decide⟩, ⟨rfl, by decide, by decide⟩, rfl, trivial⟩) rfl fun b2 => st (.as (.cI 0 rfl)) rfl (nl (.thn (k1 _ _ (.seq fun _ k2 => .region (st (.load (.t rfl) (i := 1) rfl ty24 rfl (Ss' := [_, _, _]) rfl) rfl (.callX (modhnf_filled hx hK1 hR hC hl hK hKm hp) (List.Perm.refl _) (.cons (.t rfl) .nil) rfl ?_)))))))
 rintro _ _ ⟨b, rfl, rfl, hMB⟩
 have hb0 := hMB.1
 have hbK := hMB.2.1
 have hTl := filT_len b R C (vals xs) hb0
 refine st (.mv (.t rfl)) rfl (st (.ext (.t rfl) rfl) rfl (st (.ext (.t rfl) rfl) rfl (st (.as (.t rfl)) rfl (st (.as (.t rfl)) rfl (nl (.thn (k2 _ _ (.cv (Cv.wk (.l [1, 2, 3, 4, 5] rfl)) (.seq fun _ k3 => .seq fun _ k4 => .region (st (.mv (.t rfl)) rfl (st (.neI (.t rfl) (.cI 0 rfl)) rfl (nl (.thn (k4 _ _ (.cond (.t rfl) (fun hc1 => ?_) (fun hc1 => ?_))))))))))))))))
 ·have hc1 := BP.t hc1
  exfalso; simp at hc1
 ·have hc1 := BP.f hc1
  skip
  refine .skip (.thn (k3 _ _ (.seq fun _ k5 => .region (st (.fieldAddr (.t rfl) fld24_0 ty3) rfl (st (.load1 (.t rfl) (i := 1) rfl ty3 rfl) rfl (st (.fieldAddr (.t rfl) fld24_1 ty3) rfl (st (.load1 (.t rfl) (i := 1) rfl ty3 rfl) rfl (st (.build [isI 0, isI 0, nilS] pl24 zero24 (fun _ _ => ⟨⟨rfl, by decide, by decide⟩, ⟨rfl, by decide, by decide⟩, rfl, trivial⟩) (.cons (.t rfl) rfl rfl rfl (.cons (.t rfl) rfl rfl rfl .nil)) (Z'' := [_, _, _]) rfl) rfl (.alloc [isI 0, isI 0, nilS] zero24 (fun _ _ => ⟨⟨rfl, by decide, by decide⟩, ⟨rfl, by decide, by decide⟩, rfl, trivial⟩) rfl fun b3 => .store (.t rfl) (.t rfl) (i := 0) rfl ty24 rfl rfl (Ss' := [_, _, _]) rfl (M' := [(some _, cellM [_, _, _]), _, _]) rfl (nl (.thn (k5 _ _ (.cv (Cv.wk (.l [1, 2, 3, 4, 6] rfl)) (.seq fun _ k6 => .seq fun _ k7 => .cv (Cv.growF (Bool × List Nat) (i := 0) (o := 2) rfl rfl rfl) (.memEq (M' := [grMK zc Gr.nil [], _, _, _]) rfl (.region (st (.fieldAddr (.t rfl) fld24_0 ty3) rfl (st (.load1 (.t rfl) (i := 3) rfl ty3 rfl) rfl (st (.mv (.cI 0 rfl)) rfl (nl (.thn (k7 _ _ (.block (.loopF [1, 2, 3, 4, 6, 25] (fun (z : { z : Nat × Gr (Bool × List Nat) // z.1 ≤ R }) => match z with | ⟨(i, g), hI⟩ => [(26, isI (i : Int))]) (fun M => fun (z : { z : Nat × Gr (Bool × List Nat) // z.1 ≤ R }) => match z with | ⟨(i, g), hI⟩ => [grMK zc g ((tab (i * C + 0) C (trF b R C (vals xs))).map nz), (some b3, cellM [isI (R : Int), isI (C : Int), isGr g ((tab (i * C + 0) C (trF b R C (vals xs))).map nz).length]), (some b2, cellM [isI 0, isI 0, nilS]), (some b1, cellM [isI (R : Int), isI (C : Int), SlK 2 zc xs])]) (fun (z : { z : Nat × Gr (Bool × List Nat) // z.1 ≤ R }) => match z with | ⟨(i, g), hI⟩ => R - i) (⟨(0, Gr.nil), Nat.zero_le _⟩) (Cv.mem (.c 26 rfl ?_ (.l [1, 2, 3, 4, 6, 25] rfl)) ?_) ?_))))))))))))))))))))))))
  ·rfl
  ·exact grF_eq (n := 0) (ys := []) (by rw [List.length_map, tab_len, Nat.zero_mul]) (show [] = (tab (0 * C + 0) _ _).map nz by rw [Nat.zero_mul]; rfl)
  rintro ⟨⟨i, g⟩, hI⟩ K8 hK8
  refine .cv (Cv.wk (.l [26, 1, 2, 3, 4, 6, 25] rfl)) (.memEq (M' := [grMK zc g ((tab (i * C + 0) C (trF b R C (vals xs))).map nz), (some b3, cellM [isI (R : Int), isI (C : Int), isGr g ((tab (i * C + 0) C (trF b R C (vals xs))).map nz).length]), (some b2, cellM [isI 0, isI 0, nilS]), (some b1, cellM [isI (R : Int), isI (C : Int), SlK 2 zc xs])]) rfl ?_)
  simp only [] at hI
  refine .seq fun _ k9 => .region (st (.ltI (.t rfl) (.t rfl)) rfl (nl (.thn (k9 _ _ (.seq fun _ k10 => .cond (.t rfl) (fun hc2 => ?_) (fun hc2 => ?_))))))
  ·have hc2 := BP.t hc2
   refine .skip (.thn (k10 _ _ (.seq fun _ k11 => .block (.seq fun _ k12 => .region (st (.mv (.t rfl)) rfl (st (.as (.t rfl)) rfl (nl (.thn (k12 _ _ (.seq fun _ k13 => .region (st (.fieldAddr (.t rfl) fld24_1 ty3) rfl (st (.load1 (.t rfl) (i := 3) rfl ty3 rfl) rfl (st (.mv (.cI 0 rfl)) rfl (nl (.thn (k13 _ _ (.block (.loopF [1, 2, 3, 4, 6, 25, 26, 27, 28, 7, 29, 30] (fun (z : { z : Nat × Gr (Bool × List Nat) // z.1 ≤ C }) => match z with | ⟨(k, g2), hK3⟩ => [(31, isI (k : Int))]) (fun M => fun (z : { z : Nat × Gr (Bool × List Nat) // z.1 ≤ C }) => match z with | ⟨(k, g2), hK3⟩ => [grMK zc g2 ((tab (i * C + k) C (trF b R C (vals xs))).map nz), (some b3, cellM [isI (R : Int), isI (C : Int), isGr g2 ((tab (i * C + k) C (trF b R C (vals xs))).map nz).length]), (some b2, cellM [isI 0, isI 0, nilS]), (some b1, cellM [isI (R : Int), isI (C : Int), SlK 2 zc xs])]) (fun (z : { z : Nat × Gr (Bool × List Nat) // z.1 ≤ C }) => match z with | ⟨(k, g2), hK3⟩ => C - k) (⟨(0, g), Nat.zero_le _⟩) (Cv.mem (.c 31 rfl ?_ (.l [1, 2, 3, 4, 6, 25, 26, 27, 28, 7, 29, 30] rfl)) ?_) ?_))))))))))))))))))
   ·rfl
   ·rfl
   rintro ⟨⟨k, g2⟩, hK3⟩ K14 hK14
   refine .cv (Cv.wk (.l [31, 1, 2, 3, 4, 6, 25, 26, 27, 28, 7, 29, 30] rfl)) (.memEq (M' := [grMK zc g2 ((tab (i * C + k) C (trF b R C (vals xs))).map nz), (some b3, cellM [isI (R : Int), isI (C : Int), isGr g2 ((tab (i * C + k) C (trF b R C (vals xs))).map nz).length]), (some b2, cellM [isI 0, isI 0, nilS]), (some b1, cellM [isI (R : Int), isI (C : Int), SlK 2 zc xs])]) rfl ?_)
   simp only [] at hK3
   refine .seq fun _ k15 => .region (st (.ltI (.t rfl) (.t rfl)) rfl (nl (.thn (k15 _ _ (.seq fun _ k16 => .cond (.t rfl) (fun hc3 => ?_) (fun hc3 => ?_))))))
   ·have hc3 := BP.t hc3
    refine .skip (.thn (k16 _ _ (.seq fun _ k17 => .block (.seq fun _ k18 => .region (st (.mv (.t rfl)) rfl (st (.as (.t rfl)) rfl (nl (.thn (k18 _ _ (.seq fun _ k19 => .region (st (.build [isB false, SlM isU []] pl31 zero31 (fun _ _ => ⟨rfl, nilM _ _, trivial⟩) .nil (Z'' := [_, _]) rfl) rfl (.alloc [isB false, SlM isU []] zero31 (fun _ _ => ⟨rfl, nilM _ _, trivial⟩) rfl fun b4 => .store (.t rfl) (.t rfl) (i := 0) rfl ty31 rfl rfl (Ss' := [_, _]) rfl (M' := [(some _, cellM [_, _]), _, _, _, _]) rfl (nl (.thn (k19 _ _ (.seq fun _ k20 => .seq fun _ k21 => .region (st (.mv (.t rfl)) rfl (st (.mv (.t rfl)) rfl (st (.nilcP (.t rfl)) rfl (st (.fieldAddrP (.t rfl) fld179_0 ty151 (Ss' := [_, _, _]) rfl) rfl (st (.loadP1 (.t rfl) ty151) rfl (st (.len sl151 (.t rfl)) rfl (st (.ltI (.t rfl) (.t rfl)) rfl (nl (.thn (k21 _ _ (.cond (.t rfl) (fun hc4 => ?_) (fun hc4 => ?_))))))))))))))))))))))))))))
    ·have hc4 := BP.t hc4
     obtain ⟨p, hp1⟩ : ∃ p, (filT b R C (vals xs))[i]? = some p := ⟨_, List.getElem?_eq_getElem (by omega)⟩
     have hpl := filT_row hb0 p (List.mem_of_getElem? hp1)
     have hpm : (p.map nz).length = C := by rw [List.length_map, hpl]
     have hGt : cf p k = (trF b R C (vals xs)) i k := by unfold trF; rw [Go.Hp.E_of hp1]
     refine .region (st (.mv (.t rfl)) rfl (st (.nilcP (.t rfl)) rfl (st (.fieldAddrP (.t rfl) fld179_0 ty151 (Ss' := [_, _, _]) rfl) rfl (st (.loadP1 (.t rfl) ty151) rfl (st (.mv (.t rfl)) rfl (st (.ixP sl151 ty22 (.t rfl) (.t rfl) ⟨by omega, by omega⟩ hp1) rfl (st (.loadP1 (.t rfl) ty22) rfl (st (.mv (.t rfl)) rfl (st (.ixK sl22 ty31 (.t rfl) (.t rfl) zc_len ⟨by omega, by omega⟩ (getZ (i := k) (by omega))) rfl (st (.loadP (.t rfl) ty31 rfl (Ss' := [_, _]) rfl) rfl (.store (.t rfl) (.t rfl) (i := 0) rfl ty31 rfl rfl (Ss' := [_, _]) rfl (M' := [(some _, cellM [_, _]), _, _, _, _]) rfl (nl (.thn (k20 _ _ (.region (st (.fieldAddr (.t rfl) fld24_2 ty22) rfl ?_))))))))))))))))
     refine st (.load1 (.t rfl) (i := 2) rfl ty22 rfl) rfl (st (.eq (.load (.t rfl) (i := 0) rfl ty31 rfl (Ss' := [_, _]) rfl) ((show _ = Flat (zc (nz ((trF b R C (vals xs)) i k))) from by first | (rw [← hGt]; done) | (rw [← hGf]; exact isZ0)))) rfl ?_)
     refine st (.buildS [isB false, SlM isU []] sl22 ty31 zero31 (fun _ _ => ⟨rfl, nilM _ _, trivial⟩) rfl rfl (.cons (.t rfl) rfl rfl rfl .nil) rfl (S := SlK 2 zc [nz ((trF b R C (vals xs)) i k)]) rfl) rfl (.appendGK (fk := zc) (u := (false, [])) zc_len (by decide) (fun _ => inferInstance) sl22 ty31 zero31 (fun _ _ => ⟨rfl, nilM _ _, trivial⟩) by31 (.t rfl) (i := 1) rfl (.t rfl) (by have hpl3 := place_lt (show i < R by omega) (show k < C by omega); rw [List.length_map, tab_len, List.length_singleton]; omega) (by simp) rfl fun gr1 => ?_)
     refine .memEq (M' := [_, grMK _ _ _, _, _, _]) rfl (st (.fieldAddr (.t rfl) fld24_2 ty22) rfl (.store (.t rfl) (.t rfl) (i := 2) rfl ty22 rfl rfl (Ss' := [_, _, _]) rfl (M' := [_, _, (some _, cellM [_, _, _]), _, _]) rfl (nl (.bln (.thn (k17 _ _ (.region (st (.addI (.t rfl) (.cI 1 rfl) (by first | omega | assumption) (by first | omega | assumption)) rfl (st (.mv (.t rfl)) rfl (nl (.thn ?_)))))))))))
     refine hK14 (⟨(k + 1, gr1), by show k + 1 ≤ C; omega⟩) _ _ ?_ (Cv.trans (Cv.drop ((.cons _ (.cons_cons _ (.cons_cons _ (.cons_cons _ (.cons_cons _ .slnil))))))) (Cv.mem (.c 31 rfl ?_ (.l [1, 2, 3, 4, 6, 25, 26, 27, 28, 7, 29, 30] rfl)) ?_))
     ·show C - (k + 1) < C - k; omega
     ·exact isI_eq (by omega)
     ·exact grF_eq (by rw [← tab_succ _ (show k < C by omega), List.map_append, List.length_append]; rfl) (by rw [← tab_succ _ (show k < C by omega), List.map_append]; rfl)
    ·have hc4 := BP.f hc4
     have hGf : (0 : Int) = (trF b R C (vals xs)) i k := (trF_out hb0 (by omega)).symm
     refine .skip (.thn (k20 _ _ (.region (st (.fieldAddr (.t rfl) fld24_2 ty22) rfl ?_))))
     refine st (.load1 (.t rfl) (i := 2) rfl ty22 rfl) rfl (st (.eq (.load (.t rfl) (i := 0) rfl ty31 rfl (Ss' := [_, _]) rfl) ((show _ = Flat (zc (nz ((trF b R C (vals xs)) i k))) from by first | (rw [← hGt]; done) | (rw [← hGf]; exact isZ0)))) rfl ?_)
     refine st (.buildS [isB false, SlM isU []] sl22 ty31 zero31 (fun _ _ => ⟨rfl, nilM _ _, trivial⟩) rfl rfl (.cons (.t rfl) rfl rfl rfl .nil) rfl (S := SlK 2 zc [nz ((trF b R C (vals xs)) i k)]) rfl) rfl (.appendGK (fk := zc) (u := (false, [])) zc_len (by decide) (fun _ => inferInstance) sl22 ty31 zero31 (fun _ _ => ⟨rfl, nilM _ _, trivial⟩) by31 (.t rfl) (i := 1) rfl (.t rfl) (by have hpl3 := place_lt (show i < R by omega) (show k < C by omega); rw [List.length_map, tab_len, List.length_singleton]; omega) (by simp) rfl fun gr1 => ?_)
     refine .memEq (M' := [_, grMK _ _ _, _, _, _]) rfl (st (.fieldAddr (.t rfl) fld24_2 ty22) rfl (.store (.t rfl) (.t rfl) (i := 2) rfl ty22 rfl rfl (Ss' := [_, _, _]) rfl (M' := [_, _, (some _, cellM [_, _, _]), _, _]) rfl (nl (.bln (.thn (k17 _ _ (.region (st (.addI (.t rfl) (.cI 1 rfl) (by first | omega | assumption) (by first | omega | assumption)) rfl (st (.mv (.t rfl)) rfl (nl (.thn ?_)))))))))))
     refine hK14 (⟨(k + 1, gr1), by show k + 1 ≤ C; omega⟩) _ _ ?_ (Cv.trans (Cv.drop ((.cons _ (.cons_cons _ (.cons_cons _ (.cons_cons _ (.cons_cons _ .slnil))))))) (Cv.mem (.c 31 rfl ?_ (.l [1, 2, 3, 4, 6, 25, 26, 27, 28, 7, 29, 30] rfl)) ?_))
     ·show C - (k + 1) < C - k; omega
     ·exact isI_eq (by omega)
     ·exact grF_eq (by rw [← tab_succ _ (show k < C by omega), List.map_append, List.length_append]; rfl) (by rw [← tab_succ _ (show k < C by omega), List.map_append]; rfl)
   ·have hc3 := BP.f hc3
    refine .exit (.the (.the (.blh (.bln (.thn (k11 _ _ (.region (st (.addI (.t rfl) (.cI 1 rfl) (by first | omega | assumption) (by first | omega | assumption)) rfl (st (.mv (.t rfl)) rfl (nl (.thn ?_)))))))))))
    have hkC : k = C := by omega
    subst hkC
    refine hK8 (⟨(i + 1, g2), by show i + 1 ≤ R; omega⟩) _ _ ?_ (Cv.mem (.c 26 rfl ?_ (.l [1, 2, 3, 4, 6, 25] rfl)) ?_)
    ·show R - (i + 1) < R - i; omega
    ·exact isI_eq (by omega)
    ·exact grF_eq (by rw [tab_next]) (by rw [tab_next])
  ·have hc2 := BP.f hc2
   refine .exit (.the (.the (.blh (.thn (k6 _ _ (.cv (Cv.wk (.l [2, 3, 6] rfl)) (.seq fun _ k22 => .cv (Cv.freezeF (k := 2) (i := 0) (j := 0) (o := 2) rfl rfl rfl rfl (gr_lenK zc_len) (gr_takeK zc_len) (Ss' := [_, _, SlK 2 zc ((tab (i * C + 0) C (trF b R C (vals xs))).map nz)]) rfl) (.memEq (M' := [(some _, cellM [_, _, SlK 2 zc ((tab (i * C + 0) C (trF b R C (vals xs))).map nz)]), _, _]) rfl (.cv (Cv.wk (.l [2, 3, 6] rfl)) (.region (st (.load (.t rfl) (i := 0) rfl ty24 rfl (Ss' := [_, _, _]) rfl) rfl (.store (.t rfl) (.t rfl) (i := 1) rfl ty24 rfl rfl (Ss' := [_, _, _]) rfl (M' := [_, (some _, cellM [_, _, _]), _]) rfl (st (.as (.cI 0 rfl)) rfl (nl (.thn (k22 _ _ (.ret (rtXND (.cons _ (.cons _ (.cons _ .slnil))) (.inl rfl) Tryz.results70 rfl rfl (.cell rfl (i := 1) rfl ty24 rfl rfl (.tmp (.t rfl) .nil)) ?_))))))))))))))))))
   exact ⟨b, by rw [Nat.add_zero, show i = R by omega]; rfl, rfl, hMB⟩
theorem ix_small {K R C k : Nat} (h : ((K + 1) * 2 ^ R + 2) * 2 ^ C ≤ 80000000) (hk : k ≤ C) : k * ((K + 1) * 2 ^ R) ≤ 80000000 := by
 have h1 : k ≤ 2 ^ C := Nat.le_trans hk (Nat.le_of_lt Nat.lt_two_pow_self)
 have h2 : ((K + 1) * 2 ^ R) * k ≤ ((K + 1) * 2 ^ R + 2) * 2 ^ C := Nat.mul_le_mul (by omega) h1
 rw [Nat.mul_comm]; omega
theorem modhnf_Index {R C K : Nat} {xs : List (Bool × List Nat)} (hx : Bd (vals xs) K) (hK1 : 1 ≤ K) (hR : R ≤ 64) (hC : C ≤ 64) (hl : xs.length = R * C) (hK : (((K + 1) * 2 ^ R) + 2) * 2 ^ C ≤ 80000000) (hKm : ((K + 1) * 2 ^ R) ≤ 30000000) (hp : (Go.Dt.pivs (mf C (vals xs)) R C).length = C) : CtrX Tryz.prog 69 [isM (R : Int) (C : Int) xs] ([]) (fun S M => ∃ b, S = isTup [isZ (ixv b R C (vals xs) C), isI 0] ∧ M = [] ∧ MulB R C K (vals xs) b) := by
 refine CtrX.intro Tryz.func69 rfl (by kernel_rfl) Tryz.ntmps69 rfl fun w0 F0 => .cv (Cv.wk (.l [0] rfl)) (.seq fun _ k1 => .region (.box (.t rfl) rfl fun b1 => .alloc [isB false, SlM isU []] zero31 (fun _ _ => ⟨rfl, nilM _ _, trivial⟩) rfl fun b2 => st (.as (.cI 0 rfl)) rfl (nl (.thn (k1 _ _ (.seq fun _ k2 => .region (st (.load (.t rfl) (i := 1) rfl ty24 rfl (Ss' := [_, _, _]) rfl) rfl (.callX (modhnf_filled hx hK1 hR hC hl hK hKm hp) (List.Perm.refl _) (.cons (.t rfl) .nil) rfl ?_))))))))
 rintro _ _ ⟨b, rfl, rfl, hMB⟩
 have hb0 := hMB.1
 have hbK := hMB.2.1
 have hTl := filT_len b R C (vals xs) hb0
 refine st (.mv (.t rfl)) rfl (st (.ext (.t rfl) rfl) rfl (st (.ext (.t rfl) rfl) rfl (st (.as (.t rfl)) rfl (st (.as (.t rfl)) rfl (nl (.thn (k2 _ _ (.cv (Cv.wk (.l [2, 3, 4, 5] rfl)) (.seq fun _ k3 => .seq fun _ k4 => .region (st (.mv (.t rfl)) rfl (st (.neI (.t rfl) (.cI 0 rfl)) rfl (nl (.thn (k4 _ _ (.cond (.t rfl) (fun hc1 => ?_) (fun hc1 => ?_))))))))))))))))
 ·have hc1 := BP.t hc1
  exfalso; simp at hc1
 ·have hc1 := BP.f hc1
  skip
  refine .skip (.thn (k3 _ _ (.seq fun _ k5 => .region (st (.call (zint_Of) (.cons (.cI 1 rfl) .nil)) rfl (.alloc [isB false, SlM isU []] zero31 (fun _ _ => ⟨rfl, nilM _ _, trivial⟩) rfl fun b3 => .store (.t rfl) (.t rfl) (i := 0) rfl ty31 rfl rfl (Ss' := [_, _]) rfl (M' := [(some _, cellM [_, _]), _, _]) rfl (nl (.thn (k5 _ _ (.seq fun _ k6 => .seq fun _ k7 => .region (st (.mv (.t rfl)) rfl (st (.nilcP (.t rfl)) rfl (st (.fieldAddrP (.t rfl) fld179_0 ty151 (Ss' := [_, _, _]) rfl) rfl (st (.loadP1 (.t rfl) ty151) rfl (st (.len sl151 (.t rfl)) rfl (st (.mv (.cI 0 rfl)) rfl (nl (.thn (k7 _ _ (.cv (Cv.wk (.l [2, 3, 6, 22, 23, 24] rfl)) (.block (.loopF [2, 3, 6, 22, 23] (fun (z : { k : Nat // k ≤ C }) => match z with | ⟨k, hk⟩ => [(24, isI (k : Int))]) (fun M => fun (z : { k : Nat // k ≤ C }) => match z with | ⟨k, hk⟩ => [zM b3 (ixv b R C (vals xs) k), (some b2, cellM [isB false, SlM isU []]), (some b1, cellM [isI (R : Int), isI (C : Int), SlK 2 zc xs])]) (fun (z : { k : Nat // k ≤ C }) => match z with | ⟨k, hk⟩ => C - k) (⟨0, Nat.zero_le _⟩) (Cv.mem (.c 24 rfl ?_ (.l [2, 3, 6, 22, 23] rfl)) ?_) ?_)))))))))))))))))))))
  ·rfl
  ·exact zM_eq rfl rfl
  rintro ⟨k, hk⟩ K8 hK8
  refine .cv (Cv.wk (.l [24, 2, 3, 6, 22, 23] rfl)) (.memEq (M' := [zM b3 (ixv b R C (vals xs) k), (some b2, cellM [isB false, SlM isU []]), (some b1, cellM [isI (R : Int), isI (C : Int), SlK 2 zc xs])]) rfl (.seq fun _ k9 => .region (st (.ltI (.t rfl) (.t rfl)) rfl (nl (.thn (k9 _ _ (.seq fun _ k10 => .cond (.t rfl) (fun hc2 => ?_) (fun hc2 => ?_))))))))
  ·have hc2 := BP.t hc2
   obtain ⟨p, hp1⟩ : ∃ p, (filT b R C (vals xs))[k]? = some p := ⟨_, List.getElem?_eq_getElem (by omega)⟩
   have hpl := filT_row hb0 p (List.mem_of_getElem? hp1)
   have hpm : (p.map nz).length = C := by rw [List.length_map, hpl]
   have hGt : cf p k = (trF b R C (vals xs)) k k := by unfold trF; rw [Go.Hp.E_of hp1]
   have hwk := ixv_nw (R := R) (C := C) (L := vals xs) hb0 hbK k
   have hwp : (List.length (words (cf p k).natAbs)) ≤ ((K + 1) * 2 ^ R) := by rw [hGt]; exact nw_le_b (trF_all hb0 k k).1 (trF_all hb0 k k).2 hbK
   have hkb := ix_small hK (show k ≤ C by omega)
   refine .skip (.thn (k10 _ _ (.seq fun _ k11 => .block (.seq fun _ k12 => .region (st (.mv (.t rfl)) rfl (st (.ixP sl151 ty22 (.t rfl) (.t rfl) ⟨by omega, by omega⟩ hp1) rfl (st (.loadP1 (.t rfl) ty22) rfl (st (.as (.t rfl)) rfl (st (.as (.t rfl)) rfl (nl (.thn (k12 _ _ (.dr (.s [] rfl rfl rfl (.o rfl (.load (.t rfl) (i := 0) rfl ty31 rfl (Ss' := [_, _]) rfl)) (.s [] rfl rfl rfl (.o rfl (.mv (.t rfl))) (.s [] rfl rfl rfl (.o rfl (.mv (.t rfl))) (.s [30, 31] rfl rfl rfl (.o rfl (.ixK sl22 ty31 (.t rfl) (.t rfl) zc_len ⟨by omega, by omega⟩ (getZ (i := k) (by omega)))) (.s [32] rfl rfl rfl (.o rfl (.loadP (.t rfl) ty31 rfl (Ss' := [_, _]) rfl)) (.fin (n := 5) mixed (by kernel_rfl) (by kernel_rfl) (by kernel_rfl) (.cv (Cv.wk (.l [2, 3, 6, 22, 23, 24, 25, 26, 27, 28, 7, 8, 29, 30, 31, 32, 33] rfl)) (st (.eq (.call (zint_Mul (by rw [val_words]; omega) (by rw [val_words]; omega)) (.cons (.t rfl) (.cons (.t rfl) .nil))) ((show _ = isZ (ixv b R C (vals xs) k * cf p k) from isZ_eq (by simp only [zv_nz, zv_nf])))) rfl ?_)))))))))))))))))))))
   refine .store (.t rfl) (.t rfl) (i := 0) rfl ty31 rfl rfl (Ss' := [_, _]) rfl (M' := [(some _, cellM [_, _]), _, _]) rfl (nl (.bln (.thn (k11 _ _ (.region (st (.addI (.t rfl) (.cI 1 rfl) (by first | omega | assumption) (by first | omega | assumption)) rfl (st (.mv (.t rfl)) rfl (nl (.thn (hK8 (⟨k + 1, by omega⟩) _ _ ?_ (Cv.mem (.c 24 rfl ?_ (.l [2, 3, 6, 22, 23] rfl)) ?_)))))))))))
   ·show C - (k + 1) < C - k; omega
   ·exact isI_eq (by omega)
   ·exact zM_eq (by show _ = ixv b R C (vals xs) k * (trF b R C (vals xs)) k k; rw [← hGt]) rfl
  ·have hc2 := BP.f hc2
   refine .exit (.the (.the (.blh (.thn (k6 _ _ (.seq fun _ k13 => .region (st (.load (.t rfl) (i := 0) rfl ty31 rfl (Ss' := [_, _]) rfl) rfl (.store (.t rfl) (.t rfl) (i := 1) rfl ty31 rfl rfl (Ss' := [_, _]) rfl (M' := [_, (some _, cellM [_, _]), _]) rfl (st (.as (.cI 0 rfl)) rfl (nl (.thn (k13 _ _ (.cv (Cv.wk (.l [2, 3] rfl)) (.ret (rtXND (.cons _ (.cons _ (.cons _ .slnil))) (.inl rfl) Tryz.results69 rfl rfl (.cell rfl (i := 1) rfl ty31 rfl rfl (.tmp (.t rfl) .nil)) (⟨b, by rw [show k = C by omega], rfl, hMB⟩))))))))))))))))
end Go.Proofs.YthkdmhaafanjlaaGreat
namespace Go.Tr
open Go.Nt Go.Pz Go.Mz Go.En Go.Hn Go.Hp Go.Dt
abbrev un (b : Int) (j : Nat) : Nat → Int := fun k => if k = j then b else 0
theorem eqv_mod {rs : List (List Int)} {W i : Nat} {x : List Int} (hi : i < rs.length) (h : SpZ rs.length W (E (rs.set i [])) fun k => cf x k - E rs i k) : Eqv rs.length rs.length W (E rs) (E (rs.set i x)) := by
 have hz : ∀ (y : List Int) (j : Nat), j < rs.length → SpZ rs.length W (E (rs.set i y)) (E (rs.set i []) j) := fun y j hj => by
  rw [E_set hi]
  split
  ·exact (SpZ.zero _).congr fun k _ => rfl
  ·next hne =>
   have := SpZ.row (W := W) (E (rs.set i y)) hj
   rwa [E_set hi, if_neg hne] at this
 have hself : rs.set i (rs.getD i []) = rs := by
  rw [List.getD, List.getElem?_eq_getElem hi]; exact List.set_getElem_self hi
 refine ⟨fun j hj => ?_, fun j hj => ?_⟩
 ·by_cases e : j = i
  ·subst e
   have h1 := SpZ.row (W := W) (E (rs.set j x)) hj
   rw [E_set hi, if_pos rfl] at h1
   exact (h1.comb 1 (-1) (h.trans (hz x))).congr fun k _ => by omega
  ·have := SpZ.row (W := W) (E (rs.set i x)) hj
   rwa [E_set hi, if_neg e] at this
 ·rw [E_set hi]
  split
  ·next e =>
   have hz2 := hz (rs.getD i [])
   rw [hself] at hz2
   exact ((SpZ.row (W := W) (E rs) hi).comb 1 1 (h.trans hz2)).congr fun k _ => by omega
  ·exact SpZ.row (W := W) (E rs) hj
theorem sp_units {R W : Nat} {B : MatF} {b : Int} {z : Nat → Int} (h : ∀ j, j < W → z j = 0 ∨ SpZ R W B (un b j)) : SpZ R W B fun k => z k * b := by
 have h1 : SpZ R W B fun k => sm W fun j => z j * un b j k := by
  have : SpZ R W B fun k => sm W fun j => 1 * (z j * un b j k) := SpZ.sum (fun _ => 1) (fun j k => z j * un b j k) W fun j hj => by
   rcases h j hj with h0 | h0
   ·exact (SpZ.zero B).congr fun k _ => by rw [h0, Int.zero_mul]
   ·exact (h0.comb (z j) 0 h0).congr fun k _ => by omega
  exact this.congr fun k _ => sm_congr fun j _ => by rw [Int.one_mul]
 exact h1.congr fun k hk => by
  rw [sm_one hk fun j hj hne => by show z j * (if k = j then b else 0) = 0; rw [if_neg (fun e => hne e.symm), Int.mul_zero]]
  show z k * b = z k * (if k = k then b else 0)
  rw [if_pos rfl]
def HasB (b : Int) (n : Nat) (rows : List (List Int)) : Prop := ∀ j, j < n → SpZ n n (E rows) (un b j)
theorem tail_of {b : Int} {n : Nat} {rows : List (List Int)} (h : TriR b n rows) (hB : HasB b n rows) {j : Nat} (hj : j < n) : ∃ c : Nat → Int, (∀ i, i < j → c i = 0) ∧ ∀ k, k < n → un b j k = sm n fun i => c i * E rows i k := by
  obtain ⟨c, hc⟩ := hB j hj
  refine ⟨c, fun i => ?_, hc⟩
  induction i using Nat.strongRecOn with
  | ind i ih =>
    intro hij
    have h1 := hc i (by omega)
    rw [show un b j i = 0 from if_neg (by omega), sm_one (c := i) (by omega) fun l hl hne => by
      rcases Nat.lt_or_ge l i with h2 | h2
      · rw [ih l h2 (by omega), Int.zero_mul]
      · rw [(h.e hl).1 i (by omega), Int.mul_zero]] at h1
    have hd := (h.e (show i < n by omega)).2.1
    rcases Int.mul_eq_zero.1 h1.symm with h2 | h2
    · exact h2
    · omega
theorem tail_sp {b : Int} {n : Nat} {rows L : List (List Int)} (h : TriR b n rows) (hB : HasB b n rows) {j : Nat} (hj : j < n) (hL : ∀ l, j ≤ l → l < n → E L l = E rows l) : SpZ (n + 1) n (E L) (un b j) := by
 obtain ⟨c, h0, hc⟩ := tail_of h hB hj
 refine ⟨fun l => if l < n then c l else 0, fun k hk => ?_⟩
 rw [hc k hk]
 show _ = (sm n fun i => (if i < n then c i else 0) * E L i k) + (if n < n then c n else 0) * E L n k
 rw [if_neg (Nat.lt_irrefl n), Int.zero_mul, Int.add_zero]
 refine sm_congr fun i hi => ?_
 rw [if_pos hi]
 rcases Nat.lt_or_ge i j with h1 | h1
 ·rw [h0 i h1, Int.zero_mul, Int.zero_mul]
 ·rw [hL i h1 hi]
theorem mxT_mod {b : Int} {place n : Nat} {x y : Int} {p q : List Int} (hq : q.length = p.length) (k : Nat) : ∃ z, cf (mxT b place x p y q) k = cf (mx2 x p y q) k + z * b ∧ (k ≤ place → z = 0) := by
 rw [cf_mxT hq, cf_mx2 hq]
 unfold mxv
 split
 ·next h =>
  refine ⟨-((x * cf p k + y * cf q k) / b), ?_, fun h2 => by omega⟩
  rw [Int.emod_def, Int.neg_mul, Int.mul_comm b]; omega
 ·exact ⟨0, by rw [Int.zero_mul]; omega, fun _ => rfl⟩
theorem mod_eqv {b : Int} {n k i : Nat} {rows L : List (List Int)} (h : TriR b n rows) (hB : HasB b n rows) (hl : L.length = n + 1) (hi : i < n + 1) (hik : i ≤ k ∨ i = n) (hL : ∀ l, k < l → l < n → E L l = E rows l) {x : List Int} (hx : ∀ j, ∃ z, cf x j = E L i j + z * b ∧ (j ≤ k → z = 0)) :
  Eqv (n + 1) (n + 1) n (E L) (E (L.set i x)) := by
 have hz : ∀ j, ∃ z, cf x j = E L i j + z * b ∧ (j ≤ k → z = 0) := hx
 have := eqv_mod (W := n) (rs := L) (i := i) (x := x) (by omega) (by
  rw [hl]
  have h1 : SpZ (n + 1) n (E (L.set i [])) fun j => (Classical.choose (hz j)) * b := sp_units fun j hj => by
   rcases Nat.lt_or_ge k j with h1 | h1
   ·refine .inr (tail_sp h hB hj fun l h2 h3 => ?_)
    rw [E_set (by omega), if_neg (by omega)]
    exact hL l (by omega) h3
   ·exact .inl ((Classical.choose_spec (hz j)).2 h1)
  exact h1.congr fun j _ => by have := (Classical.choose_spec (hz j)).1; omega)
 rwa [hl] at this
theorem E_app {rs : List (List Int)} {w : List Int} {n : Nat} (h : rs.length = n) : (∀ i, i < n → E (rs ++ [w]) i = E rs i) ∧ E (rs ++ [w]) n = cf w := by
 subst h
 refine ⟨fun i hi => E_same (List.getElem?_append_left hi), ?_⟩
 rw [E_of (x := w) (by rw [List.getElem?_append_right (Nat.le_refl _), Nat.sub_self]; rfl)]
theorem pst_eqv {b : Int} {n k : Nat} {rows : List (List Int)} {s : List (List Int) × List Int} (h : TriR b n rows) (hB : HasB b n rows) (ht : TriR b n s.1) (hv : VR b n k s.2) (hk : k < n) (hoff : ∀ j, k ≤ j → s.1[j]? = rows[j]?) :
  Eqv (n + 1) (n + 1) n (E (s.1 ++ [s.2])) (E ((pst b s k).1 ++ [(pst b s k).2])) ∧ ∀ j, k + 1 ≤ j → (pst b s k).1[j]? = rows[j]? := by
 by_cases h0 : cf s.2 k = 0
 ·rw [pst_no h0]
  exact ⟨Eqv.refl _ _ _, fun j hj => hoff j (by omega)⟩
 ·obtain ⟨p, hp⟩ : ∃ p, s.1[k]? = some p := ⟨_, List.getElem?_eq_getElem (by rw [ht.len]; exact hk)⟩
  have hpl := ht.row k p hp
  have hql : s.2.length = p.length := by rw [hv.len, hpl]
  have hpd := ht.dia k p hp
  have hg := xgg_pos (b := cf s.2 k) hpd.1
  rw [pst_go hp h0]
  refine ⟨?_, fun j hj => by show (s.1.set k _)[j]? = _; rw [List.getElem?_set_ne (by omega)]; exact hoff j (by omega)⟩
  obtain ⟨L, hL⟩ : ∃ L, L = s.1 ++ [s.2] := ⟨_, rfl⟩
  have hLl : L.length = n + 1 := by rw [hL, List.length_append, ht.len]; rfl
  have hLk : L[k]? = some p := by rw [hL, List.getElem?_append_left (by rw [ht.len]; exact hk)]; exact hp
  have hLn : L[n]? = some s.2 := by rw [hL, List.getElem?_append_right (by rw [ht.len]; exact Nat.le_refl _), ht.len, Nat.sub_self]; rfl
  have hrow : ∀ r ∈ L, r.length = n := fun r hr => by
   rw [hL] at hr
   rcases List.mem_append.1 hr with h1 | h1
   ·obtain ⟨i, hi⟩ := List.mem_iff_getElem?.1 h1; exact ht.row i r hi
   ·rw [List.mem_singleton.1 h1]; exact hv.len
  have e1 := jn_eqv (V := n) (col := k) hrow (show k ≠ n by omega) (by omega) (show n < L.length by omega)
  rw [jn_go hLk hLn (by omega), hLl] at e1
  obtain ⟨a1, ha1⟩ : ∃ a1, a1 = mx2 (xgx (cf p k) (cf s.2 k)) p (xgy (cf p k) (cf s.2 k)) s.2 := ⟨_, rfl⟩
  obtain ⟨a2, ha2⟩ : ∃ a2, a2 = mx2 (-((cf s.2 k).tdiv (xgg (cf p k) (cf s.2 k)))) p ((cf p k).tdiv (xgg (cf p k) (cf s.2 k))) s.2 := ⟨_, rfl⟩
  rw [← ha1, ← ha2] at e1
  obtain ⟨b1, hb1⟩ : ∃ b1, b1 = mxT b k (xgx (cf p k) (cf s.2 k)) p (xgy (cf p k) (cf s.2 k)) s.2 := ⟨_, rfl⟩
  obtain ⟨b2, hb2⟩ : ∃ b2, b2 = mxT b k (-((cf s.2 k).tdiv (xgg (cf p k) (cf s.2 k)))) p ((cf p k).tdiv (xgg (cf p k) (cf s.2 k))) s.2 := ⟨_, rfl⟩
  rw [← hb1, ← hb2]
  have hLoff : ∀ l, k < l → l < n → E L l = E rows l := fun l h1 h2 => by
   rw [hL, (E_app ht.len).1 l h2]; exact E_same (hoff l (by omega))
  have s1 : ((L.set k a1).set n a2).length = n + 1 := by rw [List.length_set, List.length_set, hLl]
  have o1 : ∀ l, k < l → l < n → E ((L.set k a1).set n a2) l = E rows l := fun l h1 h2 => by
   rw [E_set (by rw [List.length_set]; omega), if_neg (by omega), E_set (by omega), if_neg (by omega)]; exact hLoff l h1 h2
  have e2 := mod_eqv (i := k) (x := b1) h hB s1 (by omega) (.inl (Nat.le_refl _)) o1 fun j => by
   rw [E_set (by rw [List.length_set]; omega), if_neg (by omega), E_set (by omega), if_pos rfl, hb1, ha1]
   exact mxT_mod (n := n) hql j
  have s2 : (((L.set k a1).set n a2).set k b1).length = n + 1 := by rw [List.length_set, s1]
  have o2 : ∀ l, k < l → l < n → E (((L.set k a1).set n a2).set k b1) l = E rows l := fun l h1 h2 => by
   rw [E_set (by omega), if_neg (by omega)]; exact o1 l h1 h2
  have e3 := mod_eqv (i := n) (x := b2) h hB s2 (by omega) (.inr rfl) o2 fun j => by
   rw [E_set (by omega), if_neg (by omega), E_set (by rw [List.length_set]; omega), if_pos rfl, hb2, ha2]
   exact mxT_mod (n := n) hql j
  have hend : (((L.set k a1).set n a2).set k b1).set n b2 = s.1.set k b1 ++ [b2] := by
   rw [List.set_comm _ _ (show n ≠ k by omega), List.set_set, List.set_set, hL, List.set_append_left _ _ (by rw [ht.len]; exact hk), List.set_append_right _ _ (by rw [List.length_set, ht.len]; exact Nat.le_refl _), List.length_set, ht.len, Nat.sub_self]
   rfl
  rw [hend] at e3
  have e4 := e1.trans (e2.trans e3)
  rw [hL] at e4
  exact e4
theorem pss_eqv {b : Int} {n : Nat} {rows : List (List Int)} {v : List Int} (hb : 0 < b) (h : TriR b n rows) (hB : HasB b n rows) (hv : VR b n 0 v) : ∀ k, k ≤ n → Eqv (n + 1) (n + 1) n (E (rows ++ [v])) (E ((pss b (rows, v) k).1 ++ [(pss b (rows, v) k).2])) ∧ ∀ j, k ≤ j → (pss b (rows, v) k).1[j]? = rows[j]?
  | 0, _ => ⟨Eqv.refl _ _ _, fun _ _ => rfl⟩
  | k + 1, hk => by
    obtain ⟨h1, h2⟩ := pss_eqv hb h hB hv k (by omega)
    obtain ⟨h3, h4⟩ := pss_ok hb h hv k (by omega)
    obtain ⟨h5, h6⟩ := pst_eqv h hB h3 h4 hk h2
    exact ⟨h1.trans h5, h6⟩
theorem putT_sp {b : Int} {n : Nat} {rows : List (List Int)} {v : List Int} (hb : 0 < b) (h : TriR b n rows) (hB : HasB b n rows) (hv : VR b n 0 v) :
  (∀ i, i < n → SpZ n n (E (putT b rows v)) (E rows i)) ∧ SpZ n n (E (putT b rows v)) (cf v) ∧ ∀ i, i < n → SpZ (n + 1) n (E (rows ++ [v])) (E (putT b rows v) i) := by
 obtain ⟨h1, _⟩ := pss_eqv hb h hB hv n (Nat.le_refl _)
 obtain ⟨h3, h4⟩ := pss_ok hb h hv n (Nat.le_refl _)
 have hput : putT b rows v = (pss b (rows, v) n).1 := by unfold putT; rw [h.len]
 rw [hput]
 obtain ⟨a1, a2⟩ := E_app (w := (pss b (rows, v) n).2) h3.len
 obtain ⟨c1, c2⟩ := E_app (w := v) h.len
 have hin : ∀ i, i < n + 1 → SpZ n n (E (pss b (rows, v) n).1) (E ((pss b (rows, v) n).1 ++ [(pss b (rows, v) n).2]) i) := fun i hi => by
  rcases Nat.lt_or_ge i n with h5 | h5
  ·rw [a1 i h5]; exact SpZ.row _ h5
  ·rw [show i = n by omega, a2]; exact (SpZ.zero _).congr fun k hk => h4.low k hk
 refine ⟨fun i hi => ?_, ?_, fun i hi => ?_⟩
 ·rw [← c1 i hi]; exact (h1.1 i (by omega)).trans hin
 ·rw [← c2]; exact (h1.1 n (by omega)).trans hin
 ·rw [← a1 i hi]; exact h1.2 i (by omega)
theorem vrow_sp {b : Int} {C R' i : Nat} {L : List Int} {B : MatF} (hu : ∀ j, j < C → SpZ R' C B (un b j)) : SpZ R' C B (cf (vrow b C L i C)) ↔ SpZ R' C B (mf C L i) := by
 have hz : SpZ R' C B fun k => (mf C L i k / b) * b := sp_units fun j hj => .inr (hu j hj)
 have e : ∀ k, k < C → cf (vrow b C L i C) k = mf C L i k - (mf C L i k / b) * b := fun k hk => by
  unfold vrow
  rw [cf_tab, if_pos hk]
  show mf C L i k % b = _
  rw [Int.emod_def, Int.mul_comm b]
 exact ⟨fun h => (h.comb 1 1 hz).congr fun k hk => by rw [e k hk]; omega, fun h => (h.comb 1 (-1) hz).congr fun k hk => by rw [e k hk]; omega⟩
theorem fil_sp {b : Int} (hb : 0 < b) (C : Nat) (L : List Int) : ∀ R, HasB b C (fil b C L R) ∧ (∀ r, r < R → SpZ C C (E (fil b C L R)) (mf C L r)) ∧
    ∀ (R' : Nat) (B : MatF), (∀ j, j < C → SpZ R' C B (un b j)) → (∀ r, r < R → SpZ R' C B (mf C L r)) → ∀ t, t < C → SpZ R' C B (E (fil b C L R) t)
  | 0 => by
    have e : ∀ t, t < C → E (fil b C L 0) t = cf (tr0 b C t) := fun t ht => E_of (by
      show (tri0 b C C)[t]? = _
      unfold tri0; rw [List.getElem?_map, List.getElem?_range ht]; rfl)
    refine ⟨fun j hj => ?_, fun r hr => absurd hr (Nat.not_lt_zero _), fun R' B hu _ t ht => ?_⟩
    · have := SpZ.row (W := C) (E (fil b C L 0)) hj
      rw [e j hj] at this
      exact this.congr fun k _ => by rw [cf_tr0 hj]
    · rw [e t ht]; exact (hu t ht).congr fun k _ => by rw [cf_tr0 ht]
  | R + 1 => by
    obtain ⟨h1, h2, h3⟩ := fil_sp hb C L R
    have hok := fil_ok hb C L R
    have hv := vrow_ok hb C L R
    obtain ⟨p1, p2, p3⟩ := putT_sp hb hok h1 hv
    have hB : HasB b C (fil b C L (R + 1)) := fun j hj => (h1 j hj).trans p1
    refine ⟨hB, fun r hr => ?_, fun R' B hu hA t ht => ?_⟩
    · rcases Nat.lt_or_ge r R with h | h
      · exact (h2 r h).trans p1
      · rw [show r = R by omega]; exact (vrow_sp hB).1 p2
    · refine (p3 t ht).trans fun i hi => ?_
      obtain ⟨c1, c2⟩ := E_app (w := vrow b C L R C) hok.len
      rcases Nat.lt_or_ge i C with h | h
      · rw [c1 i h]; exact h3 R' B hu (fun r hr => hA r (by omega)) i h
      · rw [show i = C by omega, c2]; exact (vrow_sp hu).2 (hA R (by omega))
theorem rdT_eqv {b : Int} {n : Nat} {rows : List (List Int)} (h : TriR b n rows) : ∀ k, k ≤ n → Eqv n n n (E rows) (E (rdT rows k))
  | 0, _ => Eqv.refl _ _ _
  | k + 1, hk => by
    have ih := rdT_eqv h k (by omega)
    have hl : (rdT rows k).length = n := by rw [rdT_len, h.len]
    have := rds_eqv (V := n) (col := k) (rdT_row h k (by omega)) (show k < (rdT rows k).length by omega) k (Nat.le_refl _)
    rw [hl] at this
    exact ih.trans this
theorem trF_eqv {R C K : Nat} {L : List Int} {b : Int} (hM : MulB R C K L b) : Eqv R R C (mf C L) (trF b R C L) := by
 obtain ⟨hb, _, hCR, q, hq, hqR, _, hbe⟩ := hM
 obtain ⟨h1, h2, h3⟩ := fil_sp hb C L R
 have hr := rdT_eqv (fil_ok hb C L R) C (Nat.le_refl _)
 have hin : ∀ t, t < C → SpZ R C (trF b R C L) (trF b R C L t) := fun t ht => SpZ.row _ (by omega)
 refine ⟨fun i hi => ((h2 i hi).trans hr.1).trans hin, fun t ht => ?_⟩
 rcases Nat.lt_or_ge t C with h | h
 ·refine (hr.2 t h).trans fun i hi => h3 R (mf C L) (fun j hj => ?_) (fun r hr => SpZ.row _ hr) i hi
  have := mul_span (A := mf C L) hq hqR hj
  rw [← hbe] at this
  exact this
 ·exact (SpZ.zero _).congr fun k _ => trF_out hb h
theorem aw15_b : Bd [2, 0, 0, 3, 1, 1] 1 := bd64 (by decide)
theorem aw15 {K : Nat} {b : Int} (hM : MulB 3 2 K [2, 0, 0, 3, 1, 1] b) : ixv b 3 2 [2, 0, 0, 3, 1, 1] 2 = 1 := by
 have hb := hM.1
 have hf := trF_form (R := 3) (C := 2) (L := [2, 0, 0, 3, 1, 1]) hb
 have he := trF_eqv hM
 have key : ∀ (c : Nat) (v : Nat → Int), c < 2 → SpZ 3 2 (mf 2 [2, 0, 0, 3, 1, 1]) v → (∀ l, l < c → v l = 0) → v c = 1 → trF b 3 2 [2, 0, 0, 3, 1, 1] c c = 1 := fun c v hc hv h0 h1 => by
  obtain ⟨r, hr, e1, e2⟩ := hf.key (hv.trans he.1) hc h0 (by omega)
  have hrC : r < 2 := by
   rcases Nat.lt_or_ge r 2 with h | h
   ·exact h
   ·rw [fc_all fun l _ => trF_out hb h] at e1; omega
  rw [trF_fc hb hrC] at e1
  subst e1
  rw [h1] at e2
  have hp := (trF_dia (R := 3) (L := [2, 0, 0, 3, 1, 1]) hb hrC).1
  have := Int.le_of_dvd (by decide) e2
  omega
 have d0 := key 0 (mf 2 [2, 0, 0, 3, 1, 1] 2) (by decide) (SpZ.row _ (by decide)) (fun l hl => absurd hl (Nat.not_lt_zero _)) rfl
 have d1 := key 1 (fun k => if k = 1 then 1 else 0) (by decide) ⟨fun i => if i = 2 then -2 else 1, by decide⟩ (fun l hl => if_neg (by omega)) rfl
 show 1 * trF b 3 2 [2, 0, 0, 3, 1, 1] 0 0 * trF b 3 2 [2, 0, 0, 3, 1, 1] 1 1 = 1
 rw [d0, d1]; rfl
theorem aw15_p : (pivs (mf 2 [2, 0, 0, 3, 1, 1]) 3 2).length = 2 := by decide
theorem aw15_tab : tab (3 * 2) 2 (fun i k => cf [2, 0, 0, 3, 1, 1] (i * 2 + k)) = [2, 0, 0, 3, 1, 1] := by decide
end Go.Tr
namespace Go.Proofs.YthkdmhaafanjlaaGreat
open Go.En Go.RowKit
set_option maxRecDepth 10000
set_option maxHeartbeats 4000000
open Go.Nt
open Go.Pz
open Go.Mz
open Go.Dt
theorem ref11_Formed {r c : Int} {xs : List (Bool × List Nat)} : Ctr Tryz.prog 14 [isM r c xs] (isB (formB r c xs.length)) := by
 refine Ctr.intro Tryz.func14 rfl (by kernel_rfl) Tryz.ntmps14 rfl fun w0 F0 => .cv (Cv.wk (.l [0] rfl)) (.seq fun _ k1 => .region (.box (.t rfl) rfl fun b1 => st (.as (.cB false)) rfl (nl (.thn (k1 _ _ (.seq fun _ k2 => .region (st (.fieldAddr (.t rfl) fld24_0 ty3) rfl (st (.load1 (.t rfl) (i := 0) rfl ty3 rfl) rfl (st (.geI (.t rfl) (.cI 0 rfl)) rfl (st (.mv (.t rfl)) rfl ?_))))))))))
 refine stT rfl rfl (fun hg => have hg' := BP.t hg; OK1.fieldAddr (.t rfl) fld24_0 ty3) rfl ?_
 refine stT rfl rfl (fun hg => have hg' := BP.t hg; OK1.load1 (Has.g rfl hg) (i := 0) rfl ty3 rfl) rfl ?_
 refine stT rfl rfl (fun hg => have hg' := BP.t hg; OK1.leI (Has.g rfl hg) (.cI 64 rfl)) rfl ?_
 refine st (.pickAnd (.t rfl) (fun h => Has.g rfl h)) rfl (st (.mv (.t rfl)) rfl ?_)
 refine stT rfl rfl (fun hg => have hg' := BP.t hg; OK1.fieldAddr (.t rfl) fld24_1 ty3) rfl ?_
 refine stT rfl rfl (fun hg => have hg' := BP.t hg; OK1.load1 (Has.g rfl hg) (i := 0) rfl ty3 rfl) rfl ?_
 refine stT rfl rfl (fun hg => have hg' := BP.t hg; OK1.geI (Has.g rfl hg) (.cI 0 rfl)) rfl ?_
 refine st (.pickAnd (.t rfl) (fun h => Has.g rfl h)) rfl (st (.mv (.t rfl)) rfl ?_)
 refine stT rfl rfl (fun hg => have hg' := BP.t hg; OK1.fieldAddr (.t rfl) fld24_1 ty3) rfl ?_
 refine stT rfl rfl (fun hg => have hg' := BP.t hg; OK1.load1 (Has.g rfl hg) (i := 0) rfl ty3 rfl) rfl ?_
 refine stT rfl rfl (fun hg => have hg' := BP.t hg; OK1.leI (Has.g rfl hg) (.cI 64 rfl)) rfl ?_
 refine st (.pickAnd (.t rfl) (fun h => Has.g rfl h)) rfl (st (.mv (.t rfl)) rfl ?_)
 refine stT rfl rfl (fun hg => have hg' := BP.t hg; OK1.fieldAddr (.t rfl) fld24_2 ty22) rfl ?_
 refine stT rfl rfl (fun hg => have hg' := BP.t hg; OK1.load1 (Has.g rfl hg) (i := 0) rfl ty22 rfl) rfl ?_
 refine stT rfl rfl (fun hg => have hg' := BP.t hg; OK1.len sl22 (Has.g rfl hg)) rfl ?_
 refine stT rfl rfl (fun hg => have hg' := BP.t hg; OK1.fieldAddr (.t rfl) fld24_0 ty3) rfl ?_
 refine stT rfl rfl (fun hg => have hg' := BP.t hg; OK1.load1 (Has.g rfl hg) (i := 0) rfl ty3 rfl) rfl ?_
 refine stT rfl rfl (fun hg => have hg' := BP.t hg; OK1.fieldAddr (.t rfl) fld24_1 ty3) rfl ?_
 refine stT rfl rfl (fun hg => have hg' := BP.t hg; OK1.load1 (Has.g rfl hg) (i := 0) rfl ty3 rfl) rfl ?_
 refine stT rfl rfl (fun hg => have hg' := BP.t hg; OK1.mulI (Has.g rfl hg) (Has.g rfl hg) (by have := mul_bnd ⟨⟨hg'.1.1.1, hg'.1.1.2⟩, hg'.1.2, hg'.2⟩; omega) (by have := mul_bnd ⟨⟨hg'.1.1.1, hg'.1.1.2⟩, hg'.1.2, hg'.2⟩; omega)) rfl ?_
 refine stT rfl rfl (fun hg => have hg' := BP.t hg; OK1.eqI (Has.g rfl hg) (Has.g rfl hg)) rfl ?_
 refine st (.pickAnd (.t rfl) (fun h => Has.g rfl h)) rfl (st (.as (.t rfl)) rfl (nl (.thn (k2 _ _ (.cv (Cv.wk (.l [2] rfl)) (.ret (rt1 (.inl rfl) Tryz.results14 rfl (.tmp (Has.t' rfl ?_) .nil))))))))
 all_goals (exact isB_eq (by unfold formB; simp only [Bool.and_assoc]))
theorem ref11_At {r : Int} {C i k : Nat} {xs : List (Bool × List Nat)} (hx : xs.length ≤ 4096) (hl : i * C + k < xs.length) : Ctr Tryz.prog 49 [isM r (C : Int) xs, isI (i : Int), isI (k : Int)] (Flat (zc (xs.getD (i * C + k) (false, [])))) := by
 refine Ctr.intro Tryz.func49 rfl (by kernel_rfl) Tryz.ntmps49 rfl fun w0 F0 => .cv (Cv.wk (.l [0, 1, 2] rfl)) (.fact (Has.rngI (Has.t (t := 1) rfl)) fun lt1 => .fact (Has.rngI (Has.t (t := 2) rfl)) fun lt2 => ?_)
 have hcp : ((i : Int) * (C : Int)) = ((i * C : Nat) : Int) := (Int.natCast_mul i C).symm
 refine .seq fun _ k1 => .region (.box (.t rfl) rfl fun b1 => .alloc [isB false, SlM isU []] zero31 (fun _ _ => ⟨rfl, nilM _ _, trivial⟩) rfl fun b2 => nl (.thn (k1 _ _ (.seq fun _ k2 => .region (st (.fieldAddr (.t rfl) fld24_2 ty22) rfl (st (.load1 (.t rfl) (i := 1) rfl ty22 rfl) rfl (st (.mv (.t rfl)) rfl (st (.fieldAddr (.t rfl) fld24_1 ty3) rfl (st (.load1 (.t rfl) (i := 1) rfl ty3 rfl) rfl (st (.eq (.mulI (.t rfl) (.t rfl) (by first | omega | (rw [hcp]; omega)) (by first | omega | (rw [hcp]; omega))) ((show isI _ = isI ((i * C : Nat) : Int) from isI_eq hcp))) rfl ?_))))))))))
 refine st (.mv (.t rfl)) rfl (st (.eq (.addI (.t rfl) (.t rfl) (by first | omega | (rw [hcp]; omega)) (by first | omega | (rw [hcp]; omega))) ((show isI _ = isI ((i * C + k : Nat) : Int) from isI_eq (by omega)))) rfl ?_)
 refine st (.ixK sl22 ty31 (.t rfl) (.t rfl) zc_len ⟨by omega, by omega⟩ (getD_some (d := (false, [])) (by first | omega | (simp only [Int.toNat_natCast, List.length_set]; omega)))) rfl ?_
 refine st (.loadP (.t rfl) ty31 rfl (Ss' := [_, _]) rfl) rfl (.store (.t rfl) (.t rfl) (i := 0) rfl ty31 rfl rfl (Ss' := [_, _]) rfl (M' := [(some _, cellM [_, _]), _]) rfl (nl (.thn (k2 _ _ (.cv (Cv.wk (.l [6] rfl)) (.ret (rt1 (.inl rfl) Tryz.results49 rfl (.cell rfl (i := 0) rfl ty31 rfl ?_ .nil))))))))
 all_goals (rfl)
theorem ref11_Few {r c n w : Int} {xs : List (Bool × List Nat)} : Ctr Tryz.prog 13 [isM r c xs, isI n, isI w] (isB (decide (r ≤ n) && decide (c ≤ n) && fewB xs 100 w)) := by
 refine Ctr.intro Tryz.func13 rfl (by kernel_rfl) Tryz.ntmps13 rfl fun w0 F0 => .cv (Cv.wk (.l [0, 1, 2] rfl)) (.fact (Has.rngI (Has.t (t := 1) rfl)) fun lt1 => .fact (Has.rngI (Has.t (t := 2) rfl)) fun lt2 => .seq fun _ k1 => .region (.box (.t rfl) rfl fun b1 => st (.as (.cB false)) rfl (nl (.thn (k1 _ _ (.seq fun _ k2 => .region (st (.fieldAddr (.t rfl) fld24_0 ty3) rfl (st (.load1 (.t rfl) (i := 0) rfl ty3 rfl) rfl (st (.mv (.t rfl)) rfl (st (.leI (.t rfl) (.t rfl)) rfl (st (.mv (.t rfl)) rfl ?_)))))))))))
 refine stT rfl rfl (fun hg => have hg' := BP.t hg; OK1.fieldAddr (.t rfl) fld24_1 ty3) rfl ?_
 refine stT rfl rfl (fun hg => have hg' := BP.t hg; OK1.load1 (Has.g rfl hg) (i := 0) rfl ty3 rfl) rfl ?_
 refine stT rfl rfl (fun hg => have hg' := BP.t hg; OK1.mv (.t rfl)) rfl ?_
 refine stT rfl rfl (fun hg => have hg' := BP.t hg; OK1.leI (Has.g rfl hg) (Has.g rfl hg)) rfl ?_
 refine st (.pickAnd (.t rfl) (fun h => Has.g rfl h)) rfl (st (.mv (.t rfl)) rfl ?_)
 refine stT rfl rfl (fun hg => have hg' := BP.t hg; OK1.fieldAddr (.t rfl) fld24_2 ty22) rfl ?_
 refine stT rfl rfl (fun hg => have hg' := BP.t hg; OK1.load1 (Has.g rfl hg) (i := 0) rfl ty22 rfl) rfl ?_
 refine stT rfl rfl (fun hg => have hg' := BP.t hg; OK1.mv (.t rfl)) rfl ?_
 refine stT rfl rfl (fun hg => have hg' := BP.t hg; OK1.call (ref10_Few) (.cons (Has.g rfl hg) (.cons (.cI 100 rfl) (.cons (Has.g rfl hg) .nil)))) rfl ?_
 refine st (.pickAnd (.t rfl) (fun h => Has.g rfl h)) rfl (st (.as (.t rfl)) rfl (nl (.thn (k2 _ _ (.cv (Cv.wk (.l [6] rfl)) (.ret (rt1 (.inl rfl) Tryz.results13 rfl (.tmp (Has.t' rfl ?_) .nil))))))))
 all_goals (rfl)
end Go.Proofs.YthkdmhaafanjlaaGreat
namespace Go.Proofs.YthkdmhaafanjlaaGreat
open Go.En Go.RowKit
set_option maxRecDepth 10000
set_option maxHeartbeats 4000000
open Go.Nt
open Go.Pz
open Go.Mz
open Go.Hn
open Go.Hp
open Go.Dt
theorem ref11_None {r c : Int} {xs : List (Bool × List Nat)} : Ctr Tryz.prog 16 [isM r c xs] (isB (decide (r = 0) && decide (c = 0) && decide ((xs.length : Int) = 0))) := by
 refine Ctr.intro Tryz.func16 rfl (by kernel_rfl) Tryz.ntmps16 rfl fun w0 F0 => .cv (Cv.wk (.l [0] rfl)) (.seq fun _ k1 => .region (.box (.t rfl) rfl fun b1 => st (.as (.cB false)) rfl (nl (.thn (k1 _ _ (.seq fun _ k2 => .region (st (.fieldAddr (.t rfl) fld24_0 ty3) rfl (st (.load1 (.t rfl) (i := 0) rfl ty3 rfl) rfl (st (.eqI (.t rfl) (.cI 0 rfl)) rfl (st (.mv (.t rfl)) rfl ?_))))))))))
 refine stT rfl rfl (fun hg => have hg' := BP.t hg; OK1.fieldAddr (.t rfl) fld24_1 ty3) rfl ?_
 refine stT rfl rfl (fun hg => have hg' := BP.t hg; OK1.load1 (Has.g rfl hg) (i := 0) rfl ty3 rfl) rfl ?_
 refine stT rfl rfl (fun hg => have hg' := BP.t hg; OK1.eqI (Has.g rfl hg) (.cI 0 rfl)) rfl ?_
 refine st (.pickAnd (.t rfl) (fun h => Has.g rfl h)) rfl (st (.mv (.t rfl)) rfl ?_)
 refine stT rfl rfl (fun hg => have hg' := BP.t hg; OK1.fieldAddr (.t rfl) fld24_2 ty22) rfl ?_
 refine stT rfl rfl (fun hg => have hg' := BP.t hg; OK1.load1 (Has.g rfl hg) (i := 0) rfl ty22 rfl) rfl ?_
 refine stT rfl rfl (fun hg => have hg' := BP.t hg; OK1.len sl22 (Has.g rfl hg)) rfl ?_
 refine stT rfl rfl (fun hg => have hg' := BP.t hg; OK1.eqI (Has.g rfl hg) (.cI 0 rfl)) rfl ?_
 refine st (.pickAnd (.t rfl) (fun h => Has.g rfl h)) rfl (st (.as (.t rfl)) rfl (nl (.thn (k2 _ _ (.cv (Cv.wk (.l [2] rfl)) (.ret (rt1 (.inl rfl) Tryz.results16 rfl (.tmp (Has.t' rfl ?_) .nil))))))))
 all_goals (rfl)
theorem ref11_Normal {r c : Int} {l : List Int} {K : Nat} (hx : Bd l K) (hK : K ≤ 400000000) (hm : l.length ≤ 1000000) : Ctr Tryz.prog 20 [isM r c (l.map nz)] (isB (formB r c l.length)) := by
 refine Ctr.intro Tryz.func20 rfl (by kernel_rfl) Tryz.ntmps20 rfl fun w0 F0 => .cv (Cv.wk (.l [0] rfl)) ?_
 have hll : (l.map nz).length = l.length := List.length_map _
 refine .seq fun _ k1 => .region (.box (.t rfl) rfl fun b1 => st (.as (.cB false)) rfl (nl (.thn (k1 _ _ (.seq fun _ k2 => .seq fun _ k3 => .region (st (.as (.cI 0 rfl)) rfl (nl (.thn (k3 _ _ (.block (.loopF [1] (fun (z : { i : Nat // i ≤ l.length }) => match z with | ⟨i, hi⟩ => [(3, isI (i : Int))]) (fun M => fun (z : { i : Nat // i ≤ l.length }) => match z with | ⟨i, hi⟩ => M) (fun (z : { i : Nat // i ≤ l.length }) => match z with | ⟨i, hi⟩ => l.length - i) (⟨0, Nat.zero_le _⟩) (Cv.mem (.c 3 rfl ?_ (.l [1] rfl)) ?_) ?_)))))))))))
 ·rfl
 ·rfl
 rintro ⟨i, hi⟩ K4 hK4
 refine .cv (Cv.wk (.l [3, 1] rfl)) ?_
 have hbi := hx i
 refine .seq fun _ k5 => .seq fun _ k6 => .region (st (.mv (.t rfl)) rfl (st (.fieldAddr (.t rfl) fld24_2 ty22) rfl (st (.load1 (.t rfl) (i := 0) rfl ty22 rfl) rfl (st (.len sl22 (.t rfl)) rfl (st (.ltI (.t rfl) (.t rfl)) rfl (nl (.thn (k6 _ _ (.cond (.t rfl) (fun hc1 => ?_) (fun hc1 => ?_))))))))))
 ·have hc1 := BP.t hc1
  refine .skip (.thn (k5 _ _ (.seq fun _ k7 => .block (.seq fun _ k8 => .region (st (.fieldAddr (.t rfl) fld24_2 ty22) rfl (st (.load1 (.t rfl) (i := 0) rfl ty22 rfl) rfl (st (.mv (.t rfl)) rfl (st (.ixK sl22 ty31 (.t rfl) (.t rfl) zc_len ⟨by omega, by omega⟩ (getZ (i := i) (by omega))) rfl (st (.fieldAddrP (.t rfl) fld31_1 ty29 (Ss' := [_]) rfl) rfl (st (.eq (.loadP1 (.t rfl) ty29) ((show isWords _ = isWords (words (cf l i).natAbs) from rfl))) rfl (st (.len sl29 (.t rfl)) rfl (st (.as (.t rfl)) rfl (nl (.thn (k8 _ _ (.seq fun _ k9 => .region (st (.mv (.t rfl)) rfl (st (.gtI (.t rfl) (.cI 0 rfl)) rfl (st (.mv (.t rfl)) rfl ?_)))))))))))))))))))
  refine stT rfl rfl (fun hg => have hg' := BP.t hg; OK1.fieldAddr (.t rfl) fld24_2 ty22) rfl ?_
  refine stT rfl rfl (fun hg => have hg' := BP.t hg; OK1.load1 (Has.g rfl hg) (i := 0) rfl ty22 rfl) rfl ?_
  refine stT rfl rfl (fun hg => have hg' := BP.t hg; OK1.mv (.t rfl)) rfl ?_
  refine stT rfl rfl (fun hg => have hg' := BP.t hg; OK1.ixK sl22 ty31 (Has.g rfl hg) (Has.g rfl hg) zc_len ⟨by omega, by omega⟩ (getZ (i := i) (by omega))) rfl ?_
  refine stT rfl rfl (fun hg => have hg' := BP.t hg; OK1.fieldAddrP (Has.g rfl hg) fld31_1 ty29 (Ss' := [_]) rfl) rfl ?_
  refine stT rfl rfl (fun hg => have hg' := BP.t hg; OK1.eq (.loadP1 (Has.g rfl hg) ty29) ((show isWords _ = isWords (words (cf l i).natAbs) from rfl))) rfl ?_
  refine stT rfl rfl (fun hg => have hg' := BP.t hg; OK1.mv (.t rfl)) rfl ?_
  refine stT rfl rfl (fun hg => have hg' := BP.t hg; OK1.subI (Has.g rfl hg) (.cI 1 rfl) (by first | omega | assumption) (by first | omega | assumption)) rfl ?_
  refine stT rfl rfl (fun hg => have hg' := BP.t hg; OK1.ixP sl29 ty39 (Has.g rfl hg) (Has.g rfl hg) ⟨by omega, by omega⟩ (getD_some (d := 0) (by first | omega | (simp only [Int.toNat_natCast, List.length_set]; omega)))) rfl ?_
  refine stT rfl rfl (fun hg => have hg' := BP.t hg; OK1.eq (.loadP1 (Has.g rfl hg) ty39) ((show isU _ = isU (dig (cf l i).natAbs ((List.length (words (cf l i).natAbs)) - 1)) from isU_eq (by rw [show (((List.length (words (cf l i).natAbs)) : Int) - 1).toNat = (List.length (words (cf l i).natAbs)) - 1 by omega, getD_words])))) rfl ?_
  refine stT rfl rfl (fun hg => have hg' := BP.t hg; OK1.eqU (Has.g rfl hg) (.cU 0 rfl)) rfl ?_
  refine st (.pickAnd (.t rfl) (fun h => Has.g rfl h)) rfl (st (.mv (.t rfl)) rfl ?_)
  refine stF rfl rfl (fun hg => have hg' := BP.t hg; OK1.mv (.t rfl)) rfl ?_
  refine stF rfl rfl (fun hg => have hg' := BP.t hg; OK1.eqI (Has.g rfl hg) (.cI 0 rfl)) rfl ?_
  refine stF rfl rfl (fun hg => have hg' := BP.t hg; OK1.mv (Has.g rfl hg)) rfl ?_
  refine stGT rfl rfl (fun hg => have hg' := BP.t hg; OK1.fieldAddr (.t rfl) fld24_2 ty22) rfl ?_
  refine stGT rfl rfl (fun hg => have hg' := BP.t hg; OK1.load1 (Has.g rfl hg) (i := 0) rfl ty22 rfl) rfl ?_
  refine stGT rfl rfl (fun hg => have hg' := BP.t hg; OK1.mv (.t rfl)) rfl ?_
  refine stGT rfl rfl (fun hg => have hg' := BP.t hg; OK1.ixK sl22 ty31 (Has.g rfl hg) (Has.g rfl hg) zc_len ⟨by omega, by omega⟩ (getZ (i := i) (by omega))) rfl ?_
  refine stGT rfl rfl (fun hg => have hg' := BP.t hg; OK1.fieldAddrP (Has.g rfl hg) fld31_0 ty4 (Ss' := [_, _]) rfl) rfl ?_
  refine stGT rfl rfl (fun hg => have hg' := BP.t hg; OK1.eq (.loadP1 (Has.g rfl hg) ty4) ((show isB _ = isB (decide (cf l i < 0)) from rfl))) rfl ?_
  refine stF rfl rfl (fun hg => have hg' := BP.t hg; OK1.pickAnd (Has.g rfl hg) (fun h => Has.g rfl (ga hg h))) rfl ?_
  refine st (.pickOr (.t rfl) (fun h => Has.g rfl (ng h))) rfl (nl (.thn (k9 _ _ (.cond (.t rfl) (fun hc2 => ?_) (fun hc2 => ?_)))))
  ·have hc2 := BP.t hc2
   exact (normal_dead hc2).elim
  ·have hc2 := BP.f hc2
   refine .skip (.bln (.thn (k7 _ _ (.region (st (.mv (.t rfl)) rfl (st (.addI (.t rfl) (.cI 1 rfl) (by first | omega | assumption) (by first | omega | assumption)) rfl (st (.as (.t rfl)) rfl (nl (.thn (hK4 (⟨i + 1, by omega⟩) _ _ ?_ (Cv.mem (.c 3 rfl ?_ (.l [1] rfl)) ?_)))))))))))
   ·show l.length - (i + 1) < l.length - i; omega
   ·exact isI_eq (by omega)
   ·rfl
 ·have hc1 := BP.f hc1
  refine .exit (.the (.the (.blh (.thn (k2 _ _ (.cv (Cv.wk (.l [1] rfl)) (.seq fun _ k10 => .region (st (.load (.t rfl) (i := 0) rfl ty24 rfl (Ss' := [_, _, _]) rfl) rfl (st (.eq (.call (ref11_Formed) (.cons (.t rfl) .nil)) ((show _ = isB (formB r c l.length) from by rw [List.length_map]))) rfl (st (.as (.t rfl)) rfl (nl (.thn (k10 _ _ (.ret (rt1 (.inl rfl) Tryz.results20 rfl (.tmp (Has.t' rfl ?_) .nil))))))))))))))))
  all_goals (rfl)
theorem ref14_First {R C i K : Nat} {xs : List (Bool × List Nat)} (hx : Bd (vals xs) K) (hK : K ≤ 400000000) (hR : R ≤ 64) (hC : C ≤ 64) (hl : xs.length = R * C) (hi : i < R) : Ctr Tryz.prog 73 [isM (R : Int) (C : Int) xs, isI (i : Int)] (isI ((fc C ((mf C (vals xs)) i) : Nat) : Int)) := by
 refine Ctr.intro Tryz.func73 rfl (by kernel_rfl) Tryz.ntmps73 rfl fun w0 F0 => .cv (Cv.wk (.l [0, 1] rfl)) (.fact (Has.rngI (Has.t (t := 1) rfl)) fun lt1 => ?_)
 have hRC := side_le hR hC
 refine .seq fun _ k1 => .region (.box (.t rfl) rfl fun b1 => st (.as (.cI 0 rfl)) rfl (nl (.thn (k1 _ _ (.seq fun _ k2 => .region (st (.as (.cI 0 rfl)) rfl (nl (.thn (k2 _ _ (.seq fun _ k3 => .block (.loopF [1, 2, 4] (fun (z : { k : Nat // k ≤ C ∧ ∀ j, j < k → (mf C (vals xs)) i j = 0 }) => match z with | ⟨k, hI⟩ => [(5, isI (k : Int))]) (fun M => fun (z : { k : Nat // k ≤ C ∧ ∀ j, j < k → (mf C (vals xs)) i j = 0 }) => match z with | ⟨k, hI⟩ => M) (fun (z : { k : Nat // k ≤ C ∧ ∀ j, j < k → (mf C (vals xs)) i j = 0 }) => match z with | ⟨k, hI⟩ => C - k) (⟨0, Nat.zero_le _, fun j hj => absurd hj (Nat.not_lt_zero _)⟩) (Cv.mem (.c 5 rfl ?_ (.l [1, 2, 4] rfl)) ?_) ?_)))))))))))
 ·rfl
 ·rfl
 rintro ⟨k, hk, hz⟩ K4 hK4
 refine .cv (Cv.wk (.l [5, 1, 2, 4] rfl)) ?_
 have hxr := hx.raw (i * C + k)
 refine .seq fun _ k5 => .seq fun _ k6 => .region (st (.mv (.t rfl)) rfl (st (.fieldAddr (.t rfl) fld24_1 ty3) rfl (st (.load1 (.t rfl) (i := 0) rfl ty3 rfl) rfl (st (.ltI (.t rfl) (.t rfl)) rfl (st (.mv (.t rfl)) rfl ?_)))))
 refine stT rfl rfl (fun hg => have hg' := BP.t hg; OK1.load (.t rfl) (i := 0) rfl ty24 rfl (Ss' := [_, _, _]) rfl) rfl ?_
 refine stT rfl rfl (fun hg => have hg' := BP.t hg; OK1.mv (.t rfl)) rfl ?_
 refine stT rfl rfl (fun hg => have hg' := BP.t hg; OK1.mv (.t rfl)) rfl ?_
 refine stT rfl rfl (fun hg => have hg' := BP.t hg; OK1.call (ref11_At (i := i) (k := k) (by omega) (by have := place_lt hi (show k < C by omega); omega)) (.cons (Has.g rfl hg) (.cons (Has.g rfl hg) (.cons (Has.g rfl hg) .nil)))) rfl ?_
 refine stT rfl rfl (fun hg => have hg' := BP.t hg; OK1.eq (.call (zint_Sign (by omega)) (.cons (Has.g rfl hg) .nil)) ((show _ = isI (sgn ((mf C (vals xs)) i k)) from isI_eq (by rw [← cf_vals]; rfl)))) rfl ?_
 refine stT rfl rfl (fun hg => have hg' := BP.t hg; OK1.eqI (Has.g rfl hg) (.cI 0 rfl)) rfl ?_
 refine st (.pickAnd (.t rfl) (fun h => Has.g rfl h)) rfl (nl (.thn (k6 _ _ (.cond (.t rfl) (fun hc1 => ?_) (fun hc1 => ?_)))))
 ·have hc1 := BP.t hc1
  have hk0 := (sgn_eq0 _).1 hc1.2
  refine .skip (.thn (k5 _ _ (.block (.region (st (.mv (.t rfl)) rfl (st (.addI (.t rfl) (.cI 1 rfl) (by first | omega | assumption) (by first | omega | assumption)) rfl (st (.as (.t rfl)) rfl (nl (.bln (.thn ?_))))))))))
  refine hK4 (⟨k + 1, by omega, fun j hj => by rcases Nat.lt_or_ge j k with h | h; exact hz j h; obtain rfl : j = k := (by omega); exact hk0⟩) _ _ ?_ (Cv.mem (.c 5 rfl ?_ (.l [1, 2, 4] rfl)) ?_)
  ·show C - (k + 1) < C - k; omega
  ·exact isI_eq (by omega)
  ·rfl
 ·have hc1 := BP.f hc1
  have hout := hc1
  refine .exit (.the (.the (.blh (.thn (k3 _ _ (.cv (Cv.wk (.l [4, 5] rfl)) (.seq fun _ k7 => .region (st (.mv (.t rfl)) rfl (st (.as (.t rfl)) rfl (nl (.thn (k7 _ _ (.ret (rt1 (.inl rfl) Tryz.results73 rfl (.tmp (Has.t' rfl ?_) .nil)))))))))))))))
  all_goals (exact isI_eq (fc_out hk hz hout))
theorem ref14_Is {R C K : Nat} {xs : List (Bool × List Nat)} (hx : Bd (vals xs) K) (hK : K ≤ 400000000) (hR : R ≤ 64) (hC : C ≤ 64) (hl : xs.length = R * C) : Ctr Tryz.prog 17 [isM (R : Int) (C : Int) xs] (isB (hermB R C (mf C (vals xs)))) := by
 refine Ctr.intro Tryz.func17 rfl (by kernel_rfl) Tryz.ntmps17 rfl fun w0 F0 => .cv (Cv.wk (.l [0] rfl)) ?_
 have hRC := side_le hR hC
 refine .seq fun _ k1 => .region (.box (.t rfl) rfl fun b1 => st (.as (.cB false)) rfl (nl (.thn (k1 _ _ (.seq fun _ k2 => .seq fun _ k3 => .region (st (.as (.cI 0 rfl)) rfl (nl (.thn (k3 _ _ (.block (.loopF [1] (fun (z : { i : Nat // i ≤ R ∧ HermF i C (mf C (vals xs)) }) => match z with | ⟨i, hI⟩ => [(3, isI (i : Int))]) (fun M => fun (z : { i : Nat // i ≤ R ∧ HermF i C (mf C (vals xs)) }) => match z with | ⟨i, hI⟩ => M) (fun (z : { i : Nat // i ≤ R ∧ HermF i C (mf C (vals xs)) }) => match z with | ⟨i, hI⟩ => R - i) (⟨0, Nat.zero_le _, fun i hi => absurd hi (Nat.not_lt_zero _)⟩) (Cv.mem (.c 3 rfl ?_ (.l [1] rfl)) ?_) ?_)))))))))))
 ·rfl
 ·rfl
 rintro ⟨i, hi, hF⟩ K4 hK4
 refine .cv (Cv.wk (.l [3, 1] rfl)) (.seq fun _ k5 => .seq fun _ k6 => .region (st (.mv (.t rfl)) rfl (st (.fieldAddr (.t rfl) fld24_0 ty3) rfl (st (.load1 (.t rfl) (i := 0) rfl ty3 rfl) rfl (st (.ltI (.t rfl) (.t rfl)) rfl (nl (.thn (k6 _ _ (.cond (.t rfl) (fun hc1 => ?_) (fun hc1 => ?_))))))))))
 ·have hc1 := BP.t hc1
  have hiR : i < R := (by omega)
  have hkC := fc_le ((mf C (vals xs)) i) C
  have hne : (fc C ((mf C (vals xs)) i)) < C → (mf C (vals xs)) i (fc C ((mf C (vals xs)) i)) ≠ 0 := fc_ne
  refine .skip (.thn (k5 _ _ (.seq fun _ k7 => .block (.seq fun _ k8 => .region (st (.load (.t rfl) (i := 0) rfl ty24 rfl (Ss' := [_, _, _]) rfl) rfl (st (.mv (.t rfl)) rfl (st (.call (ref14_First (i := i) hx hK hR hC hl hiR) (.cons (.t rfl) (.cons (.t rfl) .nil))) rfl (st (.as (.t rfl)) rfl (nl (.thn (k8 _ _ (.seq fun _ k9 => .seq fun _ k10 => .region (st (.mv (.t rfl)) rfl (st (.gtI (.t rfl) (.cI 0 rfl)) rfl (st (.mv (.t rfl)) rfl ?_)))))))))))))))
  refine stT rfl rfl (fun hg => have hg' := BP.t hg; OK1.mv (.t rfl)) rfl ?_
  refine stT rfl rfl (fun hg => have hg' := BP.t hg; OK1.fieldAddr (.t rfl) fld24_1 ty3) rfl ?_
  refine stT rfl rfl (fun hg => have hg' := BP.t hg; OK1.load1 (Has.g rfl hg) (i := 0) rfl ty3 rfl) rfl ?_
  refine stT rfl rfl (fun hg => have hg' := BP.t hg; OK1.ltI (Has.g rfl hg) (Has.g rfl hg)) rfl ?_
  refine st (.pickAnd (.t rfl) (fun h => Has.g rfl h)) rfl (st (.mv (.t rfl)) rfl ?_)
  refine stT rfl rfl (fun hg => have hg' := BP.t hg; OK1.load (.t rfl) (i := 0) rfl ty24 rfl (Ss' := [_, _, _]) rfl) rfl ?_
  refine stT rfl rfl (fun hg => have hg' := BP.t hg; OK1.mv (.t rfl)) rfl ?_
  refine stT rfl rfl (fun hg => have hg' := BP.t hg; OK1.eq (.subI (Has.g rfl hg) (.cI 1 rfl) (by first | omega | assumption) (by first | omega | assumption)) ((show isI _ = isI ((i - 1 : Nat) : Int) from isI_eq (by omega)))) rfl ?_
  refine stT rfl rfl (fun hg => have hg' := BP.t hg; OK1.call (ref14_First (i := i - 1) hx hK hR hC hl (by omega)) (.cons (Has.g rfl hg) (.cons (Has.g rfl hg) .nil))) rfl ?_
  refine stT rfl rfl (fun hg => have hg' := BP.t hg; OK1.mv (.t rfl)) rfl ?_
  refine stT rfl rfl (fun hg => have hg' := BP.t hg; OK1.geI (Has.g rfl hg) (Has.g rfl hg)) rfl ?_
  refine st (.pickAnd (.t rfl) (fun h => Has.g rfl h)) rfl (st (.mv (.t rfl)) rfl ?_)
  refine stF rfl rfl (fun hg => have hg' := BP.t hg; OK1.mv (.t rfl)) rfl ?_
  refine stF rfl rfl (fun hg => have hg' := BP.t hg; OK1.fieldAddr (.t rfl) fld24_1 ty3) rfl ?_
  refine stF rfl rfl (fun hg => have hg' := BP.t hg; OK1.load1 (Has.g rfl hg) (i := 0) rfl ty3 rfl) rfl ?_
  refine stF rfl rfl (fun hg => have hg' := BP.t hg; OK1.ltI (Has.g rfl hg) (Has.g rfl hg)) rfl ?_
  refine stF rfl rfl (fun hg => have hg' := BP.t hg; OK1.mv (Has.g rfl hg)) rfl ?_
  refine stGT rfl rfl (fun hg => have hg' := BP.t hg; OK1.load (.t rfl) (i := 0) rfl ty24 rfl (Ss' := [_, _, _]) rfl) rfl ?_
  refine stGT rfl rfl (fun hg => have hg' := BP.t hg; OK1.mv (.t rfl)) rfl ?_
  refine stGT rfl rfl (fun hg => have hg' := BP.t hg; OK1.mv (.t rfl)) rfl ?_
  refine stGT rfl rfl (fun hg => have hg' := BP.t hg; OK1.call (ref11_At (i := i) (k := (fc C ((mf C (vals xs)) i))) (by omega) (by have := place_lt hiR (show (fc C ((mf C (vals xs)) i)) < C by omega); omega)) (.cons (Has.g rfl hg) (.cons (Has.g rfl hg) (.cons (Has.g rfl hg) .nil)))) rfl ?_
  refine stGT rfl rfl (fun hg => have hg' := BP.t hg; OK1.eq (.call (zint_Sign (by have := hx.raw (i * C + (fc C ((mf C (vals xs)) i))); omega)) (.cons (Has.g rfl hg) .nil)) ((show _ = isI (sgn ((mf C (vals xs)) i (fc C ((mf C (vals xs)) i)))) from isI_eq (by rw [← cf_vals]; rfl)))) rfl ?_
  refine stGT rfl rfl (fun hg => have hg' := BP.t hg; OK1.ltI (Has.g rfl hg) (.cI 0 rfl)) rfl ?_
  refine stF rfl rfl (fun hg => have hg' := BP.t hg; OK1.pickAnd (Has.g rfl hg) (fun h => Has.g rfl (ga hg h))) rfl ?_
  refine st (.pickOr (.t rfl) (fun h => Has.g rfl (ng h))) rfl (nl (.thn (k10 _ _ (.cond (.t rfl) (fun hc2 => ?_) (fun hc2 => ?_)))))
  ·have hc2 := BP.t hc2
   skip
   refine .seq fun _ k11 => .region (st (.as (.cB false)) rfl (nl (.thn (k11 _ _ (.ret (.thr (.blr (.thr (.thr (.blr (.thr (rt1 (.inl rfl) Tryz.results17 rfl (.tmp (Has.t' rfl ?_) .nil)))))))))))))
   all_goals (exact isB_eq (hermB_no fun hh => by have hsl := sgn_lt ((mf C (vals xs)) i (fc C ((mf C (vals xs)) i))); have hx1 := hh i hiR (by omega); have hx2 := hx1.1; have hx3 := hx1.2.1; omega))
  ·have hc2 := BP.f hc2
   have hs0 : (fc C ((mf C (vals xs)) i)) < C → 0 < (mf C (vals xs)) i (fc C ((mf C (vals xs)) i)) := fun h => by
    have h1 := hne h
    have h2 := mt (sgn_lt ((mf C (vals xs)) i (fc C ((mf C (vals xs)) i)))).2
    omega
   refine .skip (.thn (k9 _ _ (.seq fun _ k12 => .region (st (.as (.cI 0 rfl)) rfl (nl (.thn (k12 _ _ (.block (.loopF [1, 3, 7, 8, 9, 10, 13, 14, 15, 4, 16, 17, 18, 19, 20, 21, 22, 23, 24, 25, 26, 27, 28, 29, 30, 31, 32, 33, 34, 35, 36, 37, 38, 39, 40, 41, 42, 43, 44, 45] (fun (z : { r : Nat // r ≤ i ∧ ∀ j, j < r → (fc C ((mf C (vals xs)) i)) < C → 0 ≤ (mf C (vals xs)) j (fc C ((mf C (vals xs)) i)) ∧ (mf C (vals xs)) j (fc C ((mf C (vals xs)) i)) < (mf C (vals xs)) i (fc C ((mf C (vals xs)) i)) }) => match z with | ⟨r, hI2⟩ => [(5, isI (r : Int))]) (fun M => fun (z : { r : Nat // r ≤ i ∧ ∀ j, j < r → (fc C ((mf C (vals xs)) i)) < C → 0 ≤ (mf C (vals xs)) j (fc C ((mf C (vals xs)) i)) ∧ (mf C (vals xs)) j (fc C ((mf C (vals xs)) i)) < (mf C (vals xs)) i (fc C ((mf C (vals xs)) i)) }) => match z with | ⟨r, hI2⟩ => M) (fun (z : { r : Nat // r ≤ i ∧ ∀ j, j < r → (fc C ((mf C (vals xs)) i)) < C → 0 ≤ (mf C (vals xs)) j (fc C ((mf C (vals xs)) i)) ∧ (mf C (vals xs)) j (fc C ((mf C (vals xs)) i)) < (mf C (vals xs)) i (fc C ((mf C (vals xs)) i)) }) => match z with | ⟨r, hI2⟩ => i - r) (⟨0, Nat.zero_le _, fun j hj => absurd hj (Nat.not_lt_zero _)⟩) (Cv.mem (.c 5 rfl ?_ (.l [1, 3, 7, 8, 9, 10, 13, 14, 15, 4, 16, 17, 18, 19, 20, 21, 22, 23, 24, 25, 26, 27, 28, 29, 30, 31, 32, 33, 34, 35, 36, 37, 38, 39, 40, 41, 42, 43, 44, 45] rfl)) ?_) ?_)))))))))
   ·rfl
   ·rfl
   rintro ⟨r, hr, hI2⟩ K13 hK13
   refine .cv (Cv.wk (.l [5, 1, 3, 7, 8, 9, 10, 13, 14, 15, 4, 16, 17, 18, 19, 20, 21, 22, 23, 24, 25, 26, 27, 28, 29, 30, 31, 32, 33, 34, 35, 36, 37, 38, 39, 40, 41, 42, 43, 44, 45] rfl)) (.seq fun _ k14 => .seq fun _ k15 => .region (st (.mv (.t rfl)) rfl (st (.mv (.t rfl)) rfl (st (.ltI (.t rfl) (.t rfl)) rfl (st (.mv (.t rfl)) rfl ?_)))))
   refine stT rfl rfl (fun hg => have hg' := BP.t hg; OK1.mv (.t rfl)) rfl ?_
   refine stT rfl rfl (fun hg => have hg' := BP.t hg; OK1.fieldAddr (.t rfl) fld24_1 ty3) rfl ?_
   refine stT rfl rfl (fun hg => have hg' := BP.t hg; OK1.load1 (Has.g rfl hg) (i := 0) rfl ty3 rfl) rfl ?_
   refine stT rfl rfl (fun hg => have hg' := BP.t hg; OK1.ltI (Has.g rfl hg) (Has.g rfl hg)) rfl ?_
   refine st (.pickAnd (.t rfl) (fun h => Has.g rfl h)) rfl (nl (.thn (k15 _ _ (.cond (.t rfl) (fun hc3 => ?_) (fun hc3 => ?_)))))
   ·have hc3 := BP.t hc3
    have hpr := place_lt (show r < R by omega) (show (fc C ((mf C (vals xs)) i)) < C by omega)
    have hpi := place_lt hiR (show (fc C ((mf C (vals xs)) i)) < C by omega)
    have hxr := hx.raw (r * C + (fc C ((mf C (vals xs)) i)))
    have hxi := hx.raw (i * C + (fc C ((mf C (vals xs)) i)))
    refine .skip (.thn (k14 _ _ (.seq fun _ k16 => .block (.seq fun _ k17 => .region (st (.load (.t rfl) (i := 0) rfl ty24 rfl (Ss' := [_, _, _]) rfl) rfl (st (.mv (.t rfl)) rfl (st (.mv (.t rfl)) rfl (st (.call (ref11_At (i := r) (k := (fc C ((mf C (vals xs)) i))) (by omega) (by omega)) (.cons (.t rfl) (.cons (.t rfl) (.cons (.t rfl) .nil)))) rfl (.alloc [isB false, SlM isU []] zero31 (fun _ _ => ⟨rfl, nilM _ _, trivial⟩) rfl fun b2 => .store (.t rfl) (.t rfl) (i := 0) rfl ty31 rfl rfl (Ss' := [_, _]) rfl (M' := [(some _, cellM [_, _]), _]) rfl (nl (.thn (k17 _ _ (.seq fun _ k18 => .dr (.s [] rfl rfl rfl (.o rfl (.load (.t rfl) (i := 0) rfl ty31 rfl (Ss' := [_, _]) rfl)) (.s [61] rfl rfl rfl (.o rfl (.eq (.call (zint_Sign (by omega)) (.cons (.t rfl) .nil)) ((show _ = isI (sgn ((mf C (vals xs)) r (fc C ((mf C (vals xs)) i)))) from isI_eq (by rw [← cf_vals]; rfl))))) ?_)))))))))))))))
    refine .s [62] rfl rfl rfl (.o rfl (.ltI (.t rfl) (.cI 0 rfl))) (.s [63] rfl rfl rfl (.o rfl (.mv (.t rfl))) ?_)
    refine .s [64] rfl rfl rfl (.F rfl rfl rfl (fun hg => have hg' := BP.t hg; OK1.load (.t rfl) (i := 0) rfl ty31 rfl (Ss' := [_, _]) rfl)) ?_
    refine .s [64] rfl rfl rfl (.F rfl rfl rfl (fun hg => have hg' := BP.t hg; OK1.load (.t rfl) (i := 1) rfl ty24 rfl (Ss' := [_, _, _]) rfl)) ?_
    refine .s [64] rfl rfl rfl (.F rfl rfl rfl (fun hg => have hg' := BP.t hg; OK1.mv (.t rfl))) ?_
    refine .s [64] rfl rfl rfl (.F rfl rfl rfl (fun hg => have hg' := BP.t hg; OK1.mv (.t rfl))) ?_
    refine .s [64, 66, 67, 68] rfl rfl rfl (.F rfl rfl rfl (fun hg => have hg' := BP.t hg; OK1.call (ref11_At (i := i) (k := (fc C ((mf C (vals xs)) i))) (by omega) (by omega)) (.cons (Has.g rfl hg) (.cons (Has.g rfl hg) (.cons (Has.g rfl hg) .nil))))) ?_
    refine .fin (n := 9) mixed (by kernel_rfl) (by kernel_rfl) (by kernel_rfl) (.cv (Cv.wk (.l [1, 3, 7, 8, 9, 10, 13, 14, 15, 4, 16, 17, 18, 19, 20, 21, 22, 23, 24, 25, 26, 27, 28, 29, 30, 31, 32, 33, 34, 35, 36, 37, 38, 39, 40, 41, 42, 43, 44, 45, 5, 46, 47, 48, 49, 50, 51, 52, 53, 54, 57, 58, 59, 60, 6, 61, 62, 63, 64, 65, 66, 67, 68, 69] rfl)) ?_)
    refine stF rfl rfl (fun hg => have hg' := BP.t hg; OK1.eq (.call (zint_Cmp (by omega) (by omega)) (.cons (Has.g rfl hg) (.cons (Has.g rfl hg) .nil))) ((show _ = isI (cmpZ ((mf C (vals xs)) r (fc C ((mf C (vals xs)) i))) ((mf C (vals xs)) i (fc C ((mf C (vals xs)) i)))) from isI_eq (by rw [← cf_vals, ← cf_vals]; rfl)))) rfl ?_
    refine stF rfl rfl (fun hg => have hg' := BP.t hg; OK1.geI (Has.g rfl hg) (.cI 0 rfl)) rfl ?_
    refine st (.pickOr (.t rfl) (fun h => Has.g rfl (ng h))) rfl (nl (.thn (k18 _ _ (.cond (.t rfl) (fun hc4 => ?_) (fun hc4 => ?_)))))
    ·have hc4 := BP.t hc4
     skip
     refine .seq fun _ k19 => .region (st (.as (.cB false)) rfl (nl (.thn (k19 _ _ (.ret (.blr (.thr (.thr (.blr (.blr (.thr (.thr (.blr (.thr (rt1 (.inl rfl) Tryz.results17 rfl (.tmp (Has.t' rfl ?_) .nil))))))))))))))))
     all_goals (exact isB_eq (hermB_no fun hh => by have hsl := sgn_lt ((mf C (vals xs)) r (fc C ((mf C (vals xs)) i))); have hcz := cmpZ_cases ((mf C (vals xs)) r (fc C ((mf C (vals xs)) i))) ((mf C (vals xs)) i (fc C ((mf C (vals xs)) i))); have hx1 := (hh i hiR (by omega)).2.2 r (by omega); omega))
    ·have hc4 := BP.f hc4
     have hrow : 0 ≤ (mf C (vals xs)) r (fc C ((mf C (vals xs)) i)) ∧ (mf C (vals xs)) r (fc C ((mf C (vals xs)) i)) < (mf C (vals xs)) i (fc C ((mf C (vals xs)) i)) := by
      have h1 := mt (sgn_lt ((mf C (vals xs)) r (fc C ((mf C (vals xs)) i)))).2
      have h2 := cmpZ_cases ((mf C (vals xs)) r (fc C ((mf C (vals xs)) i))) ((mf C (vals xs)) i (fc C ((mf C (vals xs)) i)))
      omega
     refine .skip (.bln (.thn (k16 _ _ (.region (st (.mv (.t rfl)) rfl (st (.addI (.t rfl) (.cI 1 rfl) (by first | omega | assumption) (by first | omega | assumption)) rfl (st (.as (.t rfl)) rfl (nl (.thn ?_)))))))))
     refine hK13 (⟨r + 1, by omega, fun j hj hc => by rcases Nat.lt_or_ge j r with h | h; exact hI2 j h hc; obtain rfl : j = r := (by omega); exact hrow⟩) _ _ ?_ (Cv.trans (Cv.drop ((.cons _ (.cons_cons _ .slnil)))) (Cv.mem (.c 5 rfl ?_ (.l [1, 3, 7, 8, 9, 10, 13, 14, 15, 4, 16, 17, 18, 19, 20, 21, 22, 23, 24, 25, 26, 27, 28, 29, 30, 31, 32, 33, 34, 35, 36, 37, 38, 39, 40, 41, 42, 43, 44, 45] rfl)) ?_))
     ·show i - (r + 1) < i - r; omega
     ·exact isI_eq (by omega)
     ·rfl
   ·have hc3 := BP.f hc3
    skip
    refine .exit (.the (.the (.blh (.bln (.thn (k7 _ _ (.region (st (.mv (.t rfl)) rfl (st (.addI (.t rfl) (.cI 1 rfl) (by first | omega | assumption) (by first | omega | assumption)) rfl (st (.as (.t rfl)) rfl (nl (.thn ?_))))))))))))
    refine hK4 (⟨i + 1, by omega, hF.snoc fun hc => ⟨fun h0 => by omega, by have := hs0 hc; omega, fun r' hr' => hI2 r' (by omega) hc⟩⟩) _ _ ?_ (Cv.mem (.c 3 rfl ?_ (.l [1] rfl)) ?_)
    ·show R - (i + 1) < R - i; omega
    ·exact isI_eq (by omega)
    ·rfl
 ·have hc1 := BP.f hc1
  skip
  refine .exit (.the (.the (.blh (.thn (k2 _ _ (.cv (Cv.wk .nil) (.seq fun _ k20 => .region (st (.as (.cB true)) rfl (nl (.thn (k20 _ _ (.ret (rt1 (.inl rfl) Tryz.results17 rfl (.tmp (Has.t' rfl ?_) .nil))))))))))))))
  all_goals (exact isB_eq (hermB_yes (by rw [show R = i by omega]; exact hF)))
end Go.Proofs.YthkdmhaafanjlaaGreat
namespace Go.Proofs.YthkdmhaafanjlaaGreat
open Go.En Go.RowKit
set_option maxRecDepth 10000
set_option maxHeartbeats 4000000
open Go.Nt
open Go.Pz
open Go.Mz
open Go.Hn
open Go.Hp
open Go.Tr
open Go.Dt
theorem law15_awakeX  : CtrX Tryz.prog 12 [] ([]) (fun S M => S = isB true) := by
 refine CtrX.intro Tryz.func12 rfl (by kernel_rfl) Tryz.ntmps12 rfl fun w0 F0 => .cv (Cv.wk .nil) ?_
 have h1 : (List.length (words (1 : Int).natAbs)) ≤ 1 := nw_small' (by decide)
 refine .seq fun _ k1 => .region (st (.as (.cB false)) rfl (nl (.thn (k1 _ _ (.seq fun _ k2 => .region (st (.buildS [isI 0, isI 0, isI 0, isI 0, isI 0, isI 0] sl174 ty2 zero2 (fun _ _ => ⟨⟨rfl, by decide, by decide⟩, ⟨rfl, by decide, by decide⟩, ⟨rfl, by decide, by decide⟩, ⟨rfl, by decide, by decide⟩, ⟨rfl, by decide, by decide⟩, ⟨rfl, by decide, by decide⟩, trivial⟩) rfl rfl (.cons (.cI 2 rfl) rfl rfl rfl (.cons (.cI 0 rfl) rfl rfl rfl (.cons (.cI 0 rfl) rfl rfl rfl (.cons (.cI 3 rfl) rfl rfl rfl (.cons (.cI 1 rfl) rfl rfl rfl (.cons (.cI 1 rfl) rfl rfl rfl .nil)))))) rfl (S := SlM isI [_, _, _, _, _, _]) rfl) rfl (st (.eq (.call (zmat_Of (R := 3) (C := 2) (l := [2, 0, 0, 3, 1, 1]) (by decide) (by decide) rfl (by decide)) (.cons (.cI 3 rfl) (.cons (.cI 2 rfl) (.cons (.t rfl) .nil)))) ((show isTup [isMz 3 2 _, isI 0] = isTup [isMz 3 2 [2, 0, 0, 3, 1, 1], isI 0] from by rw [aw15_tab]))) rfl (st (.mv (.t rfl)) rfl (st (.ext (.t rfl) rfl) rfl (st (.ext (.t rfl) rfl) rfl (.alloc [isI 0, isI 0, nilS] zero24 (fun _ _ => ⟨⟨rfl, by decide, by decide⟩, ⟨rfl, by decide, by decide⟩, rfl, trivial⟩) rfl fun b1 => .store (.t rfl) (.t rfl) (i := 0) rfl ty24 rfl rfl (Ss' := [_, _, _]) rfl (M' := [(some _, cellM [_, _, _])]) rfl (st (.as (.t rfl)) rfl (nl (.thn (k2 _ _ (.cv (Cv.wk (.l [0, 1] rfl)) (.seq fun _ k3 => .region (st (.load (.t rfl) (i := 0) rfl ty24 rfl (Ss' := [_, _, _]) rfl) rfl (.callX (modhnf_Index (R := 3) (C := 2) (K := 1) (xs := [2, 0, 0, 3, 1, 1].map nz) (by rw [vals_nz]; exact aw15_b) (by decide) (by decide) (by decide) rfl (by decide) (by decide) (by rw [vals_nz]; exact aw15_p)) (List.Perm.refl _) (.cons (.t rfl) .nil) rfl ?_)))))))))))))))))))
 rintro _ _ ⟨b, rfl, rfl, hMB⟩
 rw [vals_nz] at hMB
 have hix := aw15 hMB
 refine st (.mv (.t rfl)) rfl (st (.eq (.ext (.t rfl) rfl) ((show _ = isZ 1 from isZ_eq (by rw [vals_nz, hix])))) rfl (st (.ext (.t rfl) rfl) rfl (.alloc [isB false, SlM isU []] zero31 (fun _ _ => ⟨rfl, nilM _ _, trivial⟩) rfl fun b2 => .store (.t rfl) (.t rfl) (i := 0) rfl ty31 rfl rfl (Ss' := [_, _]) rfl (M' := [(some _, cellM [_, _]), _]) rfl (st (.as (.t rfl)) rfl (nl (.thn (k3 _ _ (.cv (Cv.wk (.l [0, 1, 3, 4] rfl)) (.seq fun _ k4 => .region (st (.load (.t rfl) (i := 1) rfl ty24 rfl (Ss' := [_, _, _]) rfl) rfl (.callX (modhnf_Hermite (R := 3) (C := 2) (K := 1) (xs := [2, 0, 0, 3, 1, 1].map nz) (by rw [vals_nz]; exact aw15_b) (by decide) (by decide) (by decide) rfl (by decide) (by decide) (by rw [vals_nz]; exact aw15_p)) (List.Perm.refl _) (.cons (.t rfl) .nil) rfl ?_)))))))))))
 rintro _ _ ⟨b', rfl, rfl, hMB2⟩
 have hll : ((hmL b' 3 2 (vals ([2, 0, 0, 3, 1, 1].map nz))).map nz).length = 6 := by rw [List.length_map, hmL_len]
 refine st (.mv (.t rfl)) rfl (st (.ext (.t rfl) rfl) rfl (st (.ext (.t rfl) rfl) rfl (.alloc [isI 0, isI 0, nilS] zero24 (fun _ _ => ⟨⟨rfl, by decide, by decide⟩, ⟨rfl, by decide, by decide⟩, rfl, trivial⟩) rfl fun b3 => .store (.t rfl) (.t rfl) (i := 0) rfl ty24 rfl rfl (Ss' := [_, _, _]) rfl (M' := [(some _, cellM [_, _, _]), _, _]) rfl (st (.as (.t rfl)) rfl (nl (.thn (k4 _ _ (.cv (Cv.wk (.l [0, 3, 4, 5, 6] rfl)) (.seq fun _ k5 => .dr (.s [] rfl rfl rfl (.o rfl (.mv (.t rfl))) (.s [22] rfl rfl rfl (.o rfl (.eqI (.t rfl) (.cI 0 rfl))) (.s [23] rfl rfl rfl (.o rfl (.mv (.t rfl))) ?_))))))))))))
 refine .s [24] rfl rfl rfl (.T rfl rfl rfl (fun hg => have hg' := BP.t hg; OK1.mv (.t rfl))) ?_
 refine .s [24, 25] rfl rfl rfl (.T rfl rfl rfl (fun hg => have hg' := BP.t hg; OK1.eqI (Has.g rfl hg) (.cI 0 rfl))) ?_
 refine .s [24, 26] rfl rfl rfl (.o rfl (.pickAnd (.t rfl) (fun h => Has.g rfl h))) (.s [27] rfl rfl rfl (.o rfl (.mv (.t rfl))) ?_)
 refine .s [28] rfl rfl rfl (.T rfl rfl rfl (fun hg => have hg' := BP.t hg; OK1.load (.t rfl) (i := 1) rfl ty31 rfl (Ss' := [_, _]) rfl)) ?_
 refine .s [28] rfl rfl rfl (.T rfl rfl rfl (fun hg => have hg' := BP.t hg; OK1.call (zint_Of) (.cons (.cI 1 rfl) .nil))) ?_
 refine .fin (n := 9) mixed (by kernel_rfl) (by kernel_rfl) (by kernel_rfl) (.cv (Cv.wk (.l [0, 5, 28, 29, 30] rfl)) ?_)
 refine stT rfl rfl (fun hg => have hg' := BP.t hg; OK1.eq (.call (zint_Same (by rw [val_words]; omega) (by rw [val_words]; omega)) (.cons (Has.g rfl hg) (.cons (Has.g rfl hg) .nil))) ((show isB _ = isB true from isB_eq (decide_eq_true (by simp only [zv_nf]))))) rfl ?_
 refine st (.pickAnd (.t rfl) (fun h => Has.g rfl h)) rfl (st (.mv (.t rfl)) rfl ?_)
 refine stT rfl rfl (fun hg => have hg' := BP.t hg; OK1.fieldAddr (.t rfl) fld24_0 ty3) rfl ?_
 refine stT rfl rfl (fun hg => have hg' := BP.t hg; OK1.load1 (Has.g rfl hg) (i := 0) rfl ty3 rfl) rfl ?_
 refine stT rfl rfl (fun hg => have hg' := BP.t hg; OK1.eqI (Has.g rfl hg) (.cI 3 rfl)) rfl ?_
 refine st (.pickAnd (.t rfl) (fun h => Has.g rfl h)) rfl (st (.mv (.t rfl)) rfl ?_)
 refine stT rfl rfl (fun hg => have hg' := BP.t hg; OK1.fieldAddr (.t rfl) fld24_2 ty22) rfl ?_
 refine stT rfl rfl (fun hg => have hg' := BP.t hg; OK1.load1 (Has.g rfl hg) (i := 0) rfl ty22 rfl) rfl ?_
 refine stT rfl rfl (fun hg => have hg' := BP.t hg; OK1.len sl22 (Has.g rfl hg)) rfl ?_
 refine stT rfl rfl (fun hg => have hg' := BP.t hg; OK1.eqI (Has.g rfl hg) (.cI 6 rfl)) rfl ?_
 refine st (.pickAnd (.t rfl) (fun h => Has.g rfl h)) rfl (st (.as (.t rfl)) rfl (nl (.thn (k5 _ _ (.cv (Cv.wk (.l [0] rfl)) (.ret (rtX1 (.inl rfl) Tryz.results12 rfl (.tmp (.t rfl) .nil) (isB_eq (by rw [hll]; rfl)))))))))
theorem law15_awake : Ctr Tryz.prog 12 [] (isB true) := law15_awakeX.toCtr fun S' M' hh => hh
end Go.Proofs.YthkdmhaafanjlaaGreat
namespace Go.Proofs.YthkdmhaafanjlaaGreat
open Go.En Go.RowKit
set_option maxRecDepth 10000
set_option maxHeartbeats 4000000
open Go.Nt
open Go.Pz
open Go.Mz
open Go.Hn
theorem hnf_begun {R C K : Nat} {xs : List (Bool × List Nat)} (hx : Bd (vals xs) K) (hK : K ≤ 4000000000) (hR : R ≤ 64) (hC : C ≤ 64) (hl : xs.length = R * C) : CtrX Tryz.prog 151 [isM (R : Int) (C : Int) xs] ([]) (fun S M => ∃ bw gt, S = isPtr bw 0 ∧ M = hwM bw gt (rows0 C R (vals xs) R) C 0) := by
 refine CtrX.intro Tryz.func151 rfl (by kernel_rfl) Tryz.ntmps151 rfl fun w0 F0 => .cv (Cv.wk (.l [0] rfl)) (.seq fun _ k1 => .region (.box (.t rfl) rfl fun b1 => st (.as Has.cP) rfl (nl (.thn (k1 _ _ (.seq fun _ k2 => .region (st (.fieldAddr (.t rfl) fld24_1 ty3) rfl (st (.load1 (.t rfl) (i := 0) rfl ty3 rfl) rfl (st (.build [nilS, isI 0, isI 0] pl185 zero185 (fun _ _ => ⟨rfl, ⟨rfl, by decide, by decide⟩, ⟨rfl, by decide, by decide⟩, trivial⟩) (.cons (.t rfl) rfl rfl rfl .nil) (Z'' := [_, _, _]) rfl) rfl (.box (.t rfl) rfl fun b2 => st (.as (.t rfl)) rfl (nl (.thn (k2 _ _ (.cv (Cv.wk (.l [1, 2, 3] rfl)) (.seq fun _ k3 => .seq fun _ k4 => .cv (Cv.growF (List Int) (i := 0) (o := 0) rfl rfl rfl) (.memEq (M' := [grM isP Gr.nil [], _, _]) rfl (.region (st (.fieldAddr (.t rfl) fld24_0 ty3) rfl (st (.load1 (.t rfl) (i := 2) rfl ty3 rfl) rfl (st (.mv (.cI 0 rfl)) rfl (nl (.thn (k4 _ _ (.block (.loopF [1, 2, 3, 12] (fun (z : { z : Nat × Gr (List Int) // z.1 ≤ R }) => match z with | ⟨(i, gt), hI⟩ => [(13, isI (i : Int))]) (fun M => fun (z : { z : Nat × Gr (List Int) // z.1 ≤ R }) => match z with | ⟨(i, gt), hI⟩ => (grM isP gt (rows0 C R (vals xs) i) :: (some b2, cellM [isGr gt (rows0 C R (vals xs) i).length, isI (C : Int), isI 0]) :: (some b1, cellM [isI (R : Int), isI (C : Int), SlK 2 zc xs]) :: [])) (fun (z : { z : Nat × Gr (List Int) // z.1 ≤ R }) => match z with | ⟨(i, gt), hI⟩ => R - i) (⟨(0, Gr.nil), Nat.zero_le _⟩) (Cv.mem (.c 13 rfl ?_ (.l [1, 2, 3, 12] rfl)) ?_) ?_)))))))))))))))))))))))))
 ·rfl
 ·rfl
 rintro ⟨⟨i, gt⟩, hI⟩ K5 hK5
 refine .cv (Cv.wk (.l [13, 1, 2, 3, 12] rfl)) (.memEq (M' := (grM isP gt (rows0 C R (vals xs) i) :: (some b2, cellM [isGr gt (rows0 C R (vals xs) i).length, isI (C : Int), isI 0]) :: (some b1, cellM [isI (R : Int), isI (C : Int), SlK 2 zc xs]) :: [])) rfl ?_)
 simp only [] at hI
 have hrl := rows0_len C R (vals xs) i
 refine .seq fun _ k6 => .region (st (.ltI (.t rfl) (.t rfl)) rfl (nl (.thn (k6 _ _ (.seq fun _ k7 => .cond (.t rfl) (fun hc1 => ?_) (fun hc1 => ?_))))))
 ·have hc1 := BP.t hc1
  refine .skip (.thn (k7 _ _ (.seq fun _ k8 => .block (.seq fun _ k9 => .region (st (.mv (.t rfl)) rfl (st (.as (.t rfl)) rfl (nl (.thn (k9 _ _ (.seq fun _ k10 => .region (st (.fieldAddr (.t rfl) fld24_1 ty3) rfl (st (.load1 (.t rfl) (i := 2) rfl ty3 rfl) rfl (st (.fieldAddr (.t rfl) fld24_0 ty3) rfl (st (.load1 (.t rfl) (i := 2) rfl ty3 rfl) rfl (st (.eq (.addI (.t rfl) (.t rfl) (by first | omega | assumption) (by first | omega | assumption)) ((show isI _ = isI ((C + R : Nat) : Int) from isI_eq (by omega)))) rfl (.makeK (fk := zc) (u := (false, [])) (n := (C + R)) (c := (C + R)) sl22 ty31 zero31 (fun _ _ => ⟨rfl, nilM _ _, trivial⟩) zc_len by31 (Has.t' rfl rfl) (Has.t' rfl rfl) ⟨by omega, by omega⟩ rfl fun b3 => st (.as (.t rfl)) rfl (nl (.thn (k10 _ _ (.seq fun _ k11 => .seq fun _ k12 => .region (st (.fieldAddr (.t rfl) fld24_1 ty3) rfl (st (.load1 (.t rfl) (i := 3) rfl ty3 rfl) rfl (st (.mv (.cI 0 rfl)) rfl (nl (.thn (k12 _ _ (.block (.loopF [1, 2, 3, 12, 13, 14, 15, 4, 16, 17, 18, 19, 20, 21, 5, 22, 23] (fun (z : { k : Nat // k ≤ C }) => match z with | ⟨k, hk⟩ => [(24, isI (k : Int))]) (fun M => fun (z : { k : Nat // k ≤ C }) => match z with | ⟨k, hk⟩ => ((some b3, cellM ((fill ((row0 C R (vals xs) i).map nz) k (false, [])).flatMap zc)) :: grM isP gt (rows0 C R (vals xs) i) :: (some b2, cellM [isGr gt (rows0 C R (vals xs) i).length, isI (C : Int), isI 0]) :: (some b1, cellM [isI (R : Int), isI (C : Int), SlK 2 zc xs]) :: [])) (fun (z : { k : Nat // k ≤ C }) => match z with | ⟨k, hk⟩ => C - k) (⟨0, Nat.zero_le _⟩) (Cv.mem (.c 24 rfl ?_ (.l [1, 2, 3, 12, 13, 14, 15, 4, 16, 17, 18, 19, 20, 21, 5, 22, 23] rfl)) ?_) ?_))))))))))))))))))))))))))))
  ·rfl
  ·exact memZ_eq (by rw [fill_zero, List.length_map, row0_len])
  rintro ⟨k, hk⟩ K13 hK13
  refine .cv (Cv.wk (.l [24, 1, 2, 3, 12, 13, 14, 15, 4, 16, 17, 18, 19, 20, 21, 5, 22, 23] rfl)) (.memEq (M' := ((some b3, cellM ((fill ((row0 C R (vals xs) i).map nz) k (false, [])).flatMap zc)) :: grM isP gt (rows0 C R (vals xs) i) :: (some b2, cellM [isGr gt (rows0 C R (vals xs) i).length, isI (C : Int), isI 0]) :: (some b1, cellM [isI (R : Int), isI (C : Int), SlK 2 zc xs]) :: [])) rfl ?_)
  have hf := fill_len ((row0 C R (vals xs) i).map nz) k (false, []) (by rw [List.length_map, row0_len]; omega)
  rw [List.length_map, row0_len] at hf
  refine .seq fun _ k14 => .region (st (.ltI (.t rfl) (.t rfl)) rfl (nl (.thn (k14 _ _ (.seq fun _ k15 => .cond (.t rfl) (fun hc2 => ?_) (fun hc2 => ?_))))))
  ·have hc2 := BP.t hc2
   refine .skip (.thn (k15 _ _ (.seq fun _ k16 => .block (.seq fun _ k17 => .region (st (.mv (.t rfl)) rfl (st (.as (.t rfl)) rfl (nl (.thn (k17 _ _ (.region (st (.mv (.t rfl)) rfl (st (.mv (.t rfl)) rfl (st (.load (.t rfl) (i := 3) rfl ty24 rfl (Ss' := [_, _, _]) rfl) rfl (st (.mv (.t rfl)) rfl (st (.mv (.t rfl)) rfl (st (.call (zmat_At hx hK hR hC hl (i := i) (k := k) (by omega) (by omega)) (.cons (.t rfl) (.cons (.t rfl) (.cons (.t rfl) .nil)))) rfl (st (.eq (.ixWin sl22 ty31 (.t rfl) (.t rfl) ⟨by omega, by omega⟩) (isPtr_eq (by first | exact ixo0 | exact ixo2 | exact ixo1))) rfl (.storeK (z := nz (cf (vals xs) (i * C + k))) zc_len (.t rfl) (.t rfl) (i := 0) rfl ty31 (by simp only [Int.toNat_natCast]; omega) (M' := [(_, _), _, _, _]) rfl ?_))))))))))))))))))
   refine nl (.bln (.thn (k16 _ _ (.region (st (.addI (.t rfl) (.cI 1 rfl) (by first | omega | assumption) (by first | omega | assumption)) rfl (st (.mv (.t rfl)) rfl (nl (.thn (hK13 (⟨k + 1, by omega⟩) _ _ ?_ (Cv.mem (.c 24 rfl ?_ (.l [1, 2, 3, 12, 13, 14, 15, 4, 16, 17, 18, 19, 20, 21, 5, 22, 23] rfl)) ?_))))))))))
   ·show C - (k + 1) < C - k; omega
   ·exact isI_eq (by omega)
   ·exact memF_eq (row0_at (by omega))
  ·have hc2 := BP.f hc2
   refine .exit (.the (.the (.blh (.thn (k11 _ _ (.seq fun _ k18 => .dr (.s [] rfl rfl rfl (.o rfl (.mv (.t rfl))) (.s [] rfl rfl rfl (.o rfl (.fieldAddr (.t rfl) fld24_1 ty3)) (.s [36] rfl rfl rfl (.o rfl (.load1 (.t rfl) (i := 3) rfl ty3 rfl)) (.s [] rfl rfl rfl (.o rfl (.mv (.t rfl))) (.s [37, 38] rfl rfl rfl (.o rfl (.eq (.addI (.t rfl) (.t rfl) (by first | omega | assumption) (by first | omega | assumption)) ((show isI _ = isI ((C + i : Nat) : Int) from isI_eq (by omega))))) (.s [] rfl rfl rfl (.o rfl (.eq (.call (zint_Of) (.cons (.cI 1 rfl) .nil)) ((show isZ 1 = Flat (zc (nz 1)) from rfl)))) (.fin (n := 6) mixed (by kernel_rfl) (by kernel_rfl) (by kernel_rfl) (.cv (Cv.wk (.l [1, 2, 3, 12, 13, 14, 15, 4, 16, 17, 18, 19, 20, 21, 5, 22, 23, 24, 25, 35, 36, 37, 38, 39, 40] rfl)) (st (.eq (.ixWin sl22 ty31 (.t rfl) (.t rfl) ⟨by omega, by omega⟩) (isPtr_eq (by first | exact ixo0 | exact ixo2 | exact ixo1))) rfl (.storeK (z := nz 1) zc_len (.t rfl) (.t rfl) (i := 0) rfl ty31 (by simp only [Int.toNat_natCast]; omega) (M' := [(_, _), _, _, _]) rfl ?_))))))))))))))))
   refine nl (.thn (k18 _ _ (.cv (Cv.freezeK (t := 5) (i := 0) (ys := (row0 C R (vals xs) i).map nz) zc_len rfl rfl rfl (by rw [List.length_set]; omega) (row0_fill (by omega) (by omega) rfl)) ?_)))
   refine .memEq (M' := [_, _, _]) rfl (.cv (Cv.wk (.l [1, 2, 3, 12, 13, 14, 15, 4, 16, 17, 18, 19, 20, 5, 22, 23, 24, 25, 36, 37, 38, 39, 40] rfl)) (.region (st (.mv (.t rfl)) rfl (st (.mv (.t rfl)) rfl (st (.nilc (.t rfl)) rfl (st (.fieldAddr (.t rfl) fld185_0 ty151) rfl (st (.load1 (.t rfl) (i := 1) rfl ty151 rfl) rfl (st (.mv (.t rfl)) rfl (st (.buildS [nilS] sl151 ty22 zero22 (fun _ _ => ⟨rfl, trivial⟩) rfl rfl (.cons (.t rfl) rfl rfl rfl .nil) rfl (S := SlM isP [row0 C R (vals xs) i]) rfl) rfl (.appendG (f := isP) (u := ([] : List Int)) sl151 ty22 zero22 (fun _ _ => ⟨nilK, trivial⟩) (fun _ => inferInstance) by22 (.t rfl) (i := 0) rfl (.t rfl) (by rw [hrl]; show i + 1 ≤ _; omega) (by simp) rfl fun gr1 => ?_))))))))))
   refine .memEq (M' := [grM _ _ _, _, _]) rfl (st (.nilc (.t rfl)) rfl (st (.fieldAddr (.t rfl) fld185_0 ty151) rfl (.store (.t rfl) (.t rfl) (i := 1) rfl ty151 rfl rfl (Ss' := [_, _, _]) rfl (M' := [_, (some _, cellM [_, _, _]), _]) rfl (nl (.bln (.thn (k8 _ _ (.region (st (.addI (.t rfl) (.cI 1 rfl) (by first | omega | assumption) (by first | omega | assumption)) rfl (st (.mv (.t rfl)) rfl (nl (.thn ?_))))))))))))
   refine hK5 (⟨(i + 1, gr1), by show i + 1 ≤ R; omega⟩) _ _ ?_ (Cv.mem (.c 13 rfl ?_ (.l [1, 2, 3, 12] rfl)) ?_)
   ·show R - (i + 1) < R - i; omega
   ·exact isI_eq (by omega)
   ·show _ = ([grM isP gr1 (rows0 C R (vals xs) (i + 1)), (some b2, cellM [isGr gr1 (rows0 C R (vals xs) (i + 1)).length, isI (C : Int), isI 0]), _] : Mem); rw [← rows0_succ, List.length_append]
 ·have hc1 := BP.f hc1
  refine .exit (.the (.the (.blh (.thn (k3 _ _ (.seq fun _ k19 => .cv (Cv.drop ((.cons_cons _ (.cons_cons _ (.cons _ .slnil))))) (.cv (Cv.wk (.l [2, 3, 12, 13, 14] rfl)) (.cv (Cv.perm (List.Perm.swap _ _ _)) (.region (st (.mv (.t rfl)) rfl (st (.as (.t rfl)) rfl (nl (.thn (k19 _ _ (.cv (Cv.wk (.l [2] rfl)) (.ret (rtX1 (.inl rfl) Tryz.results151 rfl (.tmp (.t rfl) .nil) ?_)))))))))))))))))
  exact ⟨b2, gt, rfl, by obtain rfl : i = R := (by omega); rfl⟩
theorem hnf_join {bw C : Nat} {gt : Gr (List Int)} {rs : List (List Int)} {t i col W P K : Nat} (hrow : ∀ r ∈ rs, r.length = W) (hti : t < i) (hi : i < rs.length) (hc : col < W) (hW : W ≤ 128) (hR : rs.length ≤ 64) (hpB : ∀ r ∈ rs, Bd r P) (hqB : Bd (rs.getD i []) K) (hPK : P + K ≤ 90000000) : CtrX Tryz.prog 219 [isPtr bw 0, isI (i : Int), isI (col : Int)] (hwM bw gt rs C t) (fun S M => S = isTup [] ∧ M = hwM bw gt (jn rs t i col) C t) := by
 refine CtrX.intro Tryz.func219 rfl (by kernel_rfl) Tryz.ntmps219 rfl fun w0 F0 => .cv (Cv.wk (.l [0, 1, 2] rfl)) (.fact (Has.rngI (Has.t (t := 1) rfl)) fun lt1 => .fact (Has.rngI (Has.t (t := 2) rfl)) fun lt2 => ?_)
 obtain ⟨p, hp⟩ : ∃ p, rs[t]? = some p := ⟨_, List.getElem?_eq_getElem (by omega)⟩
 obtain ⟨q, hq⟩ : ∃ q, rs[i]? = some q := ⟨_, List.getElem?_eq_getElem hi⟩
 have hpl := hrow p (List.mem_of_getElem? hp)
 have hql := hrow q (List.mem_of_getElem? hq)
 rw [getD_of hq] at hqB
 have hpP := hpB p (List.mem_of_getElem? hp)
 have hpc := hpP col
 have hqc := hqB col
 have hxn := xgx_nw (cf p col) (cf q col) hqc
 have hyn := xgy_nw (cf p col) (cf q col) hpc
 have hgn : (List.length (words (xgg (cf p col) (cf q col)).natAbs)) ≤ P + K := by
  unfold xgg
  rw [Int.natAbs_natCast]
  refine Nat.le_trans (nw_mono (gcd_le_max _ _)) ?_
  have := nw_max (cf p col).natAbs (cf q col).natAbs
  omega
 have hun := nz_tdiv (cf p col) (xgg (cf p col) (cf q col))
 have hvn := nz_tdiv (cf q col) (xgg (cf p col) (cf q col))
 refine .seq fun _ k1 => .dr (.s [] rfl rfl rfl (.o rfl (.mv (.t rfl))) (.s [15] rfl rfl rfl (.o rfl (.nilc (.t rfl))) (.s [16] rfl rfl rfl (.o rfl (.fieldAddr (.t rfl) fld185_0 ty151)) (.s [17] rfl rfl rfl (.o rfl (.load1 (.t rfl) (i := 0) rfl ty151 rfl)) (.s [] rfl rfl rfl (.o rfl (.mv (.t rfl))) (.s [19] rfl rfl rfl (.o rfl (.nilc (.t rfl))) (.s [20] rfl rfl rfl (.o rfl (.fieldAddr (.t rfl) fld185_2 ty3)) (.s [21] rfl rfl rfl (.o rfl (.load1 (.t rfl) (i := 0) rfl ty3 rfl)) (.s [18, 22] rfl rfl rfl (.o rfl (.ixGr sl151 ty22 (.t rfl) (.t rfl) ⟨by omega, by omega⟩)) ?_)))))))))
 refine .s [23] rfl rfl rfl (.o rfl (.loadGM (.t rfl) (i := 1) rfl ty22 hp)) (.s [] rfl rfl rfl (.o rfl (.mv (.t rfl))) (.s [25] rfl rfl rfl (.o rfl (.nilc (.t rfl))) (.s [26] rfl rfl rfl (.o rfl (.fieldAddr (.t rfl) fld185_0 ty151)) (.s [27] rfl rfl rfl (.o rfl (.load1 (.t rfl) (i := 0) rfl ty151 rfl)) (.s [] rfl rfl rfl (.o rfl (.mv (.t rfl))) (.s [28, 29] rfl rfl rfl (.o rfl (.ixGr sl151 ty22 (.t rfl) (.t rfl) ⟨by omega, by omega⟩)) ?_))))))
 refine .s [30] rfl rfl rfl (.o rfl (.loadGM (.t rfl) (i := 1) rfl ty22 hq)) (.s [24] rfl rfl rfl (.o rfl (.as (.t rfl))) (.fin (n := 18) mixed (by kernel_rfl) (by kernel_rfl) (by kernel_rfl) (.cv (Cv.wk (.l [0, 1, 2, 31, 6] rfl)) (st (.as (.t rfl)) rfl (nl (.thn (k1 _ _ (.seq fun _ k2 => .drh [true, true] (Ms := [_, _]) rfl (.s [] rfl rfl rfl (.o rfl (.mv (.t rfl))) (.s [] rfl rfl rfl (.o rfl (.mv (.t rfl))) ?_))))))))))
 refine .s [33, 34] rfl rfl rfl (.o rfl (.ixK sl22 ty31 (.t rfl) (.t rfl) zc_len ⟨by omega, by rw [List.length_map]; omega⟩ (getZ (i := col) (by omega)))) ?_
 refine .s [35] rfl rfl rfl (.o rfl (.loadP (.t rfl) ty31 rfl (Ss' := [_, _]) rfl)) (.s [] rfl rfl rfl (.o rfl (.mv (.t rfl))) (.s [] rfl rfl rfl (.o rfl (.mv (.t rfl))) ?_))
 refine .s [37, 38] rfl rfl rfl (.o rfl (.ixK sl22 ty31 (.t rfl) (.t rfl) zc_len ⟨by omega, by rw [List.length_map]; omega⟩ (getZ (i := col) (by omega)))) ?_
 refine .s [39] rfl rfl rfl (.o rfl (.loadP (.t rfl) ty31 rfl (Ss' := [_, _]) rfl)) (.s [36, 40] rfl rfl rfl (.o rfl (.eq (.call (zint_XgcdA (by rw [val_words]; omega) (by rw [val_words]; omega)) (.cons (.t rfl) (.cons (.t rfl) .nil))) ((show _ = isTup [isZ (xgg (cf p col) (cf q col)), isZ (xgx (cf p col) (cf q col)), isZ (xgy (cf p col) (cf q col))] from by simp only [zv_nz, zv_nf])))) ?_)
 refine .s [41] rfl rfl rfl (.o rfl (.mv (.t rfl))) (.s [32] rfl rfl rfl (.o rfl (.ext (.t rfl) rfl)) (.s [32] rfl rfl rfl (.o rfl (.ext (.t rfl) rfl)) (.s [32] rfl rfl rfl (.o rfl (.ext (.t rfl) rfl)) (.als (n1 := 16) (ds := [8, 9, 10]) (zs := [[isB false, SlM isU []], [isB false, SlM isU []], [isB false, SlM isU []]]) rfl (.cons rfl rfl zero31 (fun _ _ => ⟨rfl, nilM _ _, trivial⟩) (.cons rfl rfl zero31 (fun _ _ => ⟨rfl, nilM _ _, trivial⟩) (.cons rfl rfl zero31 (fun _ _ => ⟨rfl, nilM _ _, trivial⟩) .nil))) (.cons_cons _ (.cons_cons _ .slnil)) (Cs := [_, _, _]) rfl (.new [42] 0 (Ss' := [_, _]) (Cs' := [cellM [_, _], _, _]) rfl (by kernel_rfl) (by kernel_rfl) rfl rfl rfl (by kernel_rfl) rfl (.t rfl) ty31 rfl rfl rfl rfl (.new [43] 1 (Ss' := [_, _]) (Cs' := [_, cellM [_, _], _]) rfl (by kernel_rfl) (by kernel_rfl) rfl rfl rfl (by kernel_rfl) rfl (.t rfl) ty31 rfl rfl rfl rfl (.fin (n := 18) mixed rfl (by kernel_rfl) (by kernel_rfl) (by kernel_rfl) (fun bs hbs => ?_))))))))
 obtain ⟨b1, b2, b3, rfl⟩ := len3 hbs
 refine .memEq (M' := [_, _, _, _, _]) rfl (.cv (Cv.wk (.k 0 rfl (.k 1 rfl (.k 2 rfl (.k 6 rfl (.k 7 rfl (.k 44 rfl (.cons (t := 8) (Has.op rfl) (.cons (t := 9) (Has.op rfl) (.cons (t := 10) (Has.op rfl) .nil)))))))))) (.store (.t rfl) (.t rfl) (i := 2) rfl ty31 rfl rfl (Ss' := [_, _]) rfl (M' := [_, _, (some _, cellM [_, _]), _, _]) rfl (nl (.thn (k2 _ _ (.seq fun _ k3 => .seq fun _ k4 => .region (st (.load (.t rfl) (i := 0) rfl ty31 rfl (Ss' := [_, _]) rfl) rfl (st (.eq (.call (zint_Sign (by rw [val_words]; omega)) (.cons (.t rfl) .nil)) ((show _ = isI (sgn (xgg (cf p col) (cf q col))) from by rw [zv_nf]))) rfl ?_))))))))
 refine st (.eqI (.t rfl) (.cI 0 rfl)) rfl (nl (.thn (k4 _ _ (.cond (.t rfl) (fun hc1 => ?_) (fun hc1 => ?_)))))
 ·have hc1 := BP.t hc1
  have hg0 := (sgn_eq0 _).1 hc1
  refine .ret (.thr (rtX0D (.cons _ (.cons _ (.cons _ (.cons_cons _ (.cons_cons _ .slnil))))) (.inl rfl) Tryz.results219 rfl (⟨rfl, hwM_eq (jn_no hp hq hg0).symm (by rw [jn_len])⟩)))
 ·have hc1 := BP.f hc1
  have hg0 : ¬ (xgg (cf p col) (cf q col)) = 0 := fun e => hc1 ((sgn_eq0 _).2 e)
  refine .skip (.thn (k3 _ _ (.seq fun _ k5 => .drh [true, true, true, true, true] (Ms := [_, _, _, _, _]) rfl (.s [] rfl rfl rfl (.o rfl (.mv (.t rfl))) (.s [] rfl rfl rfl (.o rfl (.mv (.t rfl))) ?_)))))
  refine .s [49, 50] rfl rfl rfl (.o rfl (.ixK sl22 ty31 (.t rfl) (.t rfl) zc_len ⟨by omega, by rw [List.length_map]; omega⟩ (getZ (i := col) (by omega)))) ?_
  refine .s [51] rfl rfl rfl (.o rfl (.loadP (.t rfl) ty31 rfl (Ss' := [_, _]) rfl)) (.s [] rfl rfl rfl (.o rfl (.load (.t rfl) (i := 0) rfl ty31 rfl (Ss' := [_, _]) rfl)) (.s [52, 53] rfl rfl rfl (.o rfl (.call (zint_Exact (by rw [val_words]; omega) (by rw [val_words]; omega)) (.cons (.t rfl) (.cons (.t rfl) .nil)))) ?_))
  refine .s [54] rfl rfl rfl (.o rfl (.mv (.t rfl))) (.s [48] rfl rfl rfl (.o rfl (.eq (.ext (.t rfl) rfl) ((show _ = isZ ((cf p col).tdiv (xgg (cf p col) (cf q col))) from isZ_eq (by simp only [zv_nz, zv_nf]; exact if_pos ⟨hg0, Int.tmod_eq_zero_of_dvd (xgg_left _ _)⟩))))) ?_)
  refine .s [48] rfl rfl rfl (.o rfl (.ext (.t rfl) rfl)) (.als (n1 := 10) (ds := [11]) (zs := [[isB false, SlM isU []]]) rfl (.cons rfl rfl zero31 (fun _ _ => ⟨rfl, nilM _ _, trivial⟩) .nil) (.cons_cons _ (.cons_cons _ (.cons_cons _ (.cons_cons _ (.cons_cons _ .slnil))))) (Cs := [_]) rfl (.new [55] 0 (Ss' := [_, _]) (Cs' := [cellM [_, _]]) rfl (by kernel_rfl) (by kernel_rfl) rfl rfl rfl (by kernel_rfl) rfl (.t rfl) ty31 rfl rfl rfl rfl (.fin (n := 11) mixed rfl (by kernel_rfl) (by kernel_rfl) (by kernel_rfl) (fun bs hbs => ?_))))
  obtain ⟨b4, rfl⟩ := len1 hbs
  refine .memEq (M' := [_, _, _, _, _, _]) rfl (.cv (Cv.wk (.k 0 rfl (.k 1 rfl (.k 2 rfl (.k 6 rfl (.k 7 rfl (.k 8 rfl (.k 9 rfl (.k 10 rfl (.k 56 rfl (.cons (t := 11) (Has.op rfl) .nil))))))))))) (st (.as (.t rfl)) rfl (nl (.thn (k5 _ _ (.seq fun _ k6 => .drh [true, true, true, true, true, true] (Ms := [_, _, _, _, _, _]) rfl (.s [] rfl rfl rfl (.o rfl (.mv (.t rfl))) (.s [] rfl rfl rfl (.o rfl (.mv (.t rfl))) ?_))))))))
  refine .s [58, 59] rfl rfl rfl (.o rfl (.ixK sl22 ty31 (.t rfl) (.t rfl) zc_len ⟨by omega, by rw [List.length_map]; omega⟩ (getZ (i := col) (by omega)))) ?_
  refine .s [60] rfl rfl rfl (.o rfl (.loadP (.t rfl) ty31 rfl (Ss' := [_, _]) rfl)) (.s [] rfl rfl rfl (.o rfl (.load (.t rfl) (i := 1) rfl ty31 rfl (Ss' := [_, _]) rfl)) (.s [61, 62] rfl rfl rfl (.o rfl (.call (zint_Exact (by rw [val_words]; omega) (by rw [val_words]; omega)) (.cons (.t rfl) (.cons (.t rfl) .nil)))) ?_))
  refine .s [63] rfl rfl rfl (.o rfl (.mv (.t rfl))) (.s [57] rfl rfl rfl (.o rfl (.eq (.ext (.t rfl) rfl) ((show _ = isZ ((cf q col).tdiv (xgg (cf p col) (cf q col))) from isZ_eq (by simp only [zv_nz, zv_nf]; exact if_pos ⟨hg0, Int.tmod_eq_zero_of_dvd (xgg_right _ _)⟩))))) ?_)
  refine .s [57] rfl rfl rfl (.o rfl (.ext (.t rfl) rfl)) (.als (n1 := 10) (ds := [13]) (zs := [[isB false, SlM isU []]]) rfl (.cons rfl rfl zero31 (fun _ _ => ⟨rfl, nilM _ _, trivial⟩) .nil) (.cons_cons _ (.cons_cons _ (.cons_cons _ (.cons_cons _ (.cons_cons _ (.cons_cons _ .slnil)))))) (Cs := [_]) rfl (.new [64] 0 (Ss' := [_, _]) (Cs' := [cellM [_, _]]) rfl (by kernel_rfl) (by kernel_rfl) rfl rfl rfl (by kernel_rfl) rfl (.t rfl) ty31 rfl rfl rfl rfl (.fin (n := 11) mixed rfl (by kernel_rfl) (by kernel_rfl) (by kernel_rfl) (fun bs hbs => ?_))))
  obtain ⟨b5, rfl⟩ := len1 hbs
  refine .memEq (M' := [_, _, _, _, _, _, _]) rfl (.cv (Cv.wk (.k 0 rfl (.k 1 rfl (.k 6 rfl (.k 7 rfl (.k 9 rfl (.k 10 rfl (.k 11 rfl (.k 65 rfl (.cons (t := 13) (Has.op rfl) .nil)))))))))) (st (.as (.t rfl)) rfl (nl (.thn (k6 _ _ (.dry mixed (.tk 0 rfl rfl rfl rfl (OKY.mv (.t rfl)) (.tk 1 rfl rfl rfl rfl (OKY.nilc (.t rfl)) (.tk 2 rfl rfl rfl rfl (OKY.fieldAddr (.t rfl) fld185_0 ty151) (.tk 4 rfl rfl rfl rfl (OKY.mv (.t rfl)) (.tk 5 rfl rfl rfl rfl (OKY.nilc (.t rfl)) (.tk 6 rfl rfl rfl rfl (OKY.fieldAddr (.t rfl) fld185_2 ty3) (.tk 8 rfl rfl rfl rfl (OKY.mv (.t rfl)) (.tk 9 rfl rfl rfl rfl (OKY.nilc (.t rfl)) (.tk 10 rfl rfl rfl rfl (OKY.fieldAddr (.t rfl) fld185_0 ty151) (.tk 12 rfl rfl rfl rfl (OKY.mv (.t rfl)) (.tk 14 rfl rfl rfl rfl (OKY.mv (.t rfl)) (.tk 16 rfl rfl rfl rfl (OKY.mv (.t rfl)) (.tk 20 rfl rfl rfl rfl (OKY.mv (.t rfl)) (.tk 22 rfl rfl rfl rfl (OKY.mv (.t rfl)) (.go [] (.s 3 [] rfl rfl rfl (.o rfl (.load1 (.t rfl) (i := 5) rfl ty151 rfl)) (.s 7 [] rfl rfl rfl (.o rfl (.load1 (.t rfl) (i := 5) rfl ty3 rfl)) (.s 11 [] rfl rfl rfl (.o rfl (.load1 (.t rfl) (i := 5) rfl ty151 rfl)) (.s 13 [] rfl rfl rfl (.o rfl (.load (.t rfl) (i := 3) rfl ty31 rfl (Ss' := [_, _]) rfl)) (.s 15 [] rfl rfl rfl (.o rfl (.load (.t rfl) (i := 4) rfl ty31 rfl (Ss' := [_, _]) rfl)) ?_))))))))))))))))))))))))))
  refine .s 17 [79, 81] rfl rfl rfl (.o rfl (.eq (.call (hnf_mixed (A := K + 1) (B := P + 2) (K := P) (L := K) (by rw [val_words]; omega) (by rw [vals_nz]; exact hpP) (by rw [val_words]; omega) (by rw [vals_nz]; exact hqB) (by omega) (by omega) (by rw [List.length_map, List.length_map]; omega) (by rw [List.length_map]; omega)) (.cons (.t rfl) (.cons (.t rfl) (.cons (.t rfl) (.cons (.t rfl) .nil))))) ((show _ = isP (mx2 (xgx (cf p col) (cf q col)) p (xgy (cf p col) (cf q col)) q) from isPl_eq (by simp only [zv_nf, vals_nz]))))) ?_
  refine .s 18 [] rfl rfl rfl (.o rfl (.load (.t rfl) (i := 0) rfl ty31 rfl (Ss' := [_, _]) rfl)) (.s 19 [84] rfl rfl rfl (.o rfl (.call (zint_Neg (by rw [val_words]; omega)) (.cons (.t rfl) .nil))) ?_)
  refine .s 21 [] rfl rfl rfl (.o rfl (.load (.t rfl) (i := 1) rfl ty31 rfl (Ss' := [_, _]) rfl)) (.s 23 [85, 87] rfl rfl rfl (.o rfl (.eq (.call (hnf_mixed (A := K) (B := P) (K := P) (L := K) (by rw [val_words, zv_nf, Int.natAbs_neg]; omega) (by rw [vals_nz]; exact hpP) (by rw [val_words]; omega) (by rw [vals_nz]; exact hqB) (by omega) (by omega) (by rw [List.length_map, List.length_map]; omega) (by rw [List.length_map]; omega)) (.cons (.t rfl) (.cons (.t rfl) (.cons (.t rfl) (.cons (.t rfl) .nil))))) ((show _ = isP (mx2 (-((cf q col).tdiv (xgg (cf p col) (cf q col)))) p ((cf p col).tdiv (xgg (cf p col) (cf q col))) q) from isPl_eq (by simp only [zv_nf, vals_nz]))))) ?_)
  refine .fin [24, 25, 26, 27] (by kernel_rfl) (by kernel_rfl) (fun _ _ _ _ _ h => h) (by kernel_rfl) (by kernel_rfl) (by kernel_rfl) (by kernel_rfl) (by kernel_rfl) (by kernel_rfl) (by kernel_rfl) (by kernel_rfl) (by kernel_rfl) (.cv (Cv.wk (.l [78, 69, 73, 77, 83, 89] rfl)) (st (.ixGr sl151 ty22 (.t rfl) (.t rfl) ⟨by omega, by omega⟩) rfl (.storeGM (z := mx2 (xgx (cf p col) (cf q col)) p (xgy (cf p col) (cf q col)) q) (.t rfl) (.t rfl) (i := 6) rfl ty22 (by omega) (M' := [_, _, _, _, _, _, grM _ _ _]) rfl (st (.ixGr sl151 ty22 (.t rfl) (.t rfl) ⟨by omega, by omega⟩) rfl (.storeGM (z := mx2 (-((cf q col).tdiv (xgg (cf p col) (cf q col)))) p ((cf p col).tdiv (xgg (cf p col) (cf q col))) q) (.t rfl) (.t rfl) (i := 6) rfl ty22 (by rw [List.length_set]; omega) (M' := [_, _, _, _, _, _, grM _ _ _]) rfl ?_)))))
  refine nl (rtX0D (.cons _ (.cons _ (.cons _ (.cons _ (.cons _ (.cons_cons _ (.cons_cons _ .slnil))))))) (.inr rfl) Tryz.results219 rfl (⟨rfl, hwM_eq (jn_go hp hq hg0).symm (by rw [jn_len])⟩))
theorem hnf_reduce {bw C : Nat} {gt : Gr (List Int)} {rs : List (List Int)} {t col W P : Nat} (hrow : ∀ r ∈ rs, r.length = W) (ht : t < rs.length) (hc : col < W) (hW : W ≤ 128) (hR : rs.length ≤ 64) (hpB : ∀ r ∈ rs, Bd r P) (hP : P ≤ 90000000) (h0 : 0 < cf (rs.getD t []) col) : CtrX Tryz.prog 220 [isPtr bw 0, isI (col : Int)] (hwM bw gt rs C t) (fun S M => S = isTup [] ∧ M = hwM bw gt (rds rs t col t) C t) := by
 refine CtrX.intro Tryz.func220 rfl (by kernel_rfl) Tryz.ntmps220 rfl fun w0 F0 => .cv (Cv.wk (.l [0, 1] rfl)) (.fact (Has.rngI (Has.t (t := 1) rfl)) fun lt1 => ?_)
 obtain ⟨b, hb⟩ : ∃ b, rs[t]? = some b := ⟨_, List.getElem?_eq_getElem ht⟩
 have hbl := hrow b (List.mem_of_getElem? hb)
 rw [getD_of hb] at h0
 have hbP := hpB b (List.mem_of_getElem? hb)
 have hbc := hbP col
 refine .seq fun _ k1 => .dr (.s [] rfl rfl rfl (.o rfl (.mv (.t rfl))) (.s [9] rfl rfl rfl (.o rfl (.nilc (.t rfl))) (.s [10] rfl rfl rfl (.o rfl (.fieldAddr (.t rfl) fld185_0 ty151)) (.s [11] rfl rfl rfl (.o rfl (.load1 (.t rfl) (i := 0) rfl ty151 rfl)) (.s [] rfl rfl rfl (.o rfl (.mv (.t rfl))) (.s [13] rfl rfl rfl (.o rfl (.nilc (.t rfl))) (.s [14] rfl rfl rfl (.o rfl (.fieldAddr (.t rfl) fld185_2 ty3)) (.s [15] rfl rfl rfl (.o rfl (.load1 (.t rfl) (i := 0) rfl ty3 rfl)) (.fin (n := 8) mixed (by kernel_rfl) (by kernel_rfl) (by kernel_rfl) (.cv (Cv.wk (.l [0, 1, 12, 16] rfl)) (st (.ixGr sl151 ty22 (.t rfl) (.t rfl) ⟨by omega, by omega⟩) rfl (st (.loadGM (.t rfl) (i := 1) rfl ty22 hb) rfl (st (.as (.t rfl)) rfl (nl (.thn (k1 _ _ (.seq fun _ k2 => .region (st (.mv (.t rfl)) rfl (st (.nilc (.t rfl)) rfl (st (.fieldAddr (.t rfl) fld185_2 ty3) rfl (st (.load1 (.t rfl) (i := 0) rfl ty3 rfl) rfl (st (.mv (.cI 0 rfl)) rfl (nl (.thn (k2 _ _ (.cv (Cv.wk (.l [0, 1, 4, 22, 23] rfl)) (.block (.loopF [0, 1, 4, 22] (fun (z : { i : Nat // i ≤ t }) => match z with | ⟨i, hi⟩ => [(23, isI (i : Int))]) (fun M => fun (z : { i : Nat // i ≤ t }) => match z with | ⟨i, hi⟩ => hwM bw gt (rds rs t col i) C t) (fun (z : { i : Nat // i ≤ t }) => match z with | ⟨i, hi⟩ => t - i) (⟨0, Nat.zero_le _⟩) (Cv.mem (.c 23 rfl ?_ (.l [0, 1, 4, 22] rfl)) ?_) ?_))))))))))))))))))))))))))))
 ·rfl
 ·rfl
 rintro ⟨i, hi⟩ K3 hK3
 refine .cv (Cv.wk (.l [23, 0, 1, 4, 22] rfl)) (.memEq (M' := hwM bw gt (rds rs t col i) C t) rfl ?_)
 have hlen := rds_len rs t col i
 have hb2 : (rds rs t col i)[t]? = some b := (rds_off hi).trans hb
 refine .seq fun _ k4 => .region (st (.ltI (.t rfl) (.t rfl)) rfl (nl (.thn (k4 _ _ (.seq fun _ k5 => .cond (.t rfl) (fun hc1 => ?_) (fun hc1 => ?_))))))
 ·have hc1 := BP.t hc1
  obtain ⟨r, hr⟩ : ∃ r, rs[i]? = some r := ⟨_, List.getElem?_eq_getElem (by omega)⟩
  have hr2 : (rds rs t col i)[i]? = some r := (rds_off (Nat.le_refl _)).trans hr
  have hrl := hrow r (List.mem_of_getElem? hr)
  have hrP := hpB r (List.mem_of_getElem? hr)
  have hrc := hrP col
  have hdn := div_nw h0 hrc
  have h1 := nz_one
  refine .skip (.thn (k5 _ _ (.seq fun _ k6 => .block (.seq fun _ k7 => .region (st (.mv (.t rfl)) rfl (st (.as (.t rfl)) rfl (nl (.thn (k7 _ _ (.seq fun _ k8 => .drh [true, true] (Ms := [_, _]) rfl (.s [] rfl rfl rfl (.o rfl (.mv (.t rfl))) (.s [27] rfl rfl rfl (.o rfl (.nilc (.t rfl))) (.s [28] rfl rfl rfl (.o rfl (.fieldAddr (.t rfl) fld185_0 ty151)) (.s [29] rfl rfl rfl (.o rfl (.load1 (.t rfl) (i := 0) rfl ty151 rfl)) (.s [] rfl rfl rfl (.o rfl (.mv (.t rfl))) (.s [30, 31] rfl rfl rfl (.o rfl (.ixGr sl151 ty22 (.t rfl) (.t rfl) ⟨by omega, by omega⟩)) ?_))))))))))))))))
  refine .s [32] rfl rfl rfl (.o rfl (.loadGM (.t rfl) (i := 1) rfl ty22 hr2)) (.s [] rfl rfl rfl (.o rfl (.mv (.t rfl))) ?_)
  refine .s [33, 34] rfl rfl rfl (.o rfl (.ixK sl22 ty31 (.t rfl) (.t rfl) zc_len ⟨by omega, by rw [List.length_map]; omega⟩ (getZ (i := col) (by omega)))) ?_
  refine .s [35] rfl rfl rfl (.o rfl (.loadP (.t rfl) ty31 rfl (Ss' := [_, _]) rfl)) (.s [] rfl rfl rfl (.o rfl (.mv (.t rfl))) (.s [] rfl rfl rfl (.o rfl (.mv (.t rfl))) ?_))
  refine .s [37, 38] rfl rfl rfl (.o rfl (.ixK sl22 ty31 (.t rfl) (.t rfl) zc_len ⟨by omega, by rw [List.length_map]; omega⟩ (getZ (i := col) (by omega)))) ?_
  refine .s [39] rfl rfl rfl (.o rfl (.loadP (.t rfl) ty31 rfl (Ss' := [_, _]) rfl)) (.s [36, 40] rfl rfl rfl (.o rfl (.eq (.call (zint_Floor (by rw [val_words]; omega) (by rw [val_words]; omega) (by simp only [zv_nf, zv_nz]; exact h0)) (.cons (.t rfl) (.cons (.t rfl) .nil))) ((show _ = isTup [isZ (cf r col / cf b col), isZ (cf r col % cf b col), isB true] from by simp only [zv_nz, zv_nf])))) ?_)
  refine .s [41] rfl rfl rfl (.o rfl (.mv (.t rfl))) (.s [26] rfl rfl rfl (.o rfl (.ext (.t rfl) rfl)) (.s [26] rfl rfl rfl (.o rfl (.ext (.t rfl) rfl)) (.s [26] rfl rfl rfl (.o rfl (.ext (.t rfl) rfl)) (.als (n1 := 21) (ds := [6, 7]) (zs := [[isB false, SlM isU []], [isB false, SlM isU []]]) rfl (.cons rfl rfl zero31 (fun _ _ => ⟨rfl, nilM _ _, trivial⟩) (.cons rfl rfl zero31 (fun _ _ => ⟨rfl, nilM _ _, trivial⟩) .nil)) (.cons_cons _ (.cons_cons _ .slnil)) (Cs := [_, _]) rfl (.new [42] 0 (Ss' := [_, _]) (Cs' := [cellM [_, _], _]) rfl (by kernel_rfl) (by kernel_rfl) rfl rfl rfl (by kernel_rfl) rfl (.t rfl) ty31 rfl rfl rfl rfl (.new [43] 1 (Ss' := [_, _]) (Cs' := [_, cellM [_, _]]) rfl (by kernel_rfl) (by kernel_rfl) rfl rfl rfl (by kernel_rfl) rfl (.t rfl) ty31 rfl rfl rfl rfl (.fin (n := 23) mixed rfl (by kernel_rfl) (by kernel_rfl) (by kernel_rfl) (fun bs hbs => ?_))))))))
  obtain ⟨b1, b2, rfl⟩ := len2 hbs
  refine .memEq (M' := [_, _, _, _]) rfl (.cv (Cv.wk (.k 0 rfl (.k 1 rfl (.k 4 rfl (.k 22 rfl (.k 23 rfl (.k 24 rfl (.k 25 rfl (.k 5 rfl (.k 27 rfl (.k 28 rfl (.k 29 rfl (.k 30 rfl (.k 31 rfl (.k 32 rfl (.k 33 rfl (.k 34 rfl (.k 35 rfl (.k 36 rfl (.k 37 rfl (.k 38 rfl (.k 39 rfl (.k 40 rfl (.k 41 rfl (.k 26 rfl (.k 42 rfl (.k 43 rfl (.k 44 rfl (.cons (t := 6) (Has.op rfl) (.cons (t := 7) (Has.op rfl) .nil)))))))))))))))))))))))))))))) (st (.as (.t rfl)) rfl (nl (.thn (k8 _ _ (.dry mixed (.tk 0 rfl rfl rfl rfl (OKY.mv (.t rfl)) (.tk 1 rfl rfl rfl rfl (OKY.nilc (.t rfl)) (.tk 2 rfl rfl rfl rfl (OKY.fieldAddr (.t rfl) fld185_0 ty151) (.tk 4 rfl rfl rfl rfl (OKY.mv (.t rfl)) (.tk 6 rfl rfl rfl rfl (OKY.mv (.t rfl)) (.tk 7 rfl rfl rfl rfl (OKY.nilc (.t rfl)) (.tk 8 rfl rfl rfl rfl (OKY.fieldAddr (.t rfl) fld185_0 ty151) (.tk 10 rfl rfl rfl rfl (OKY.mv (.t rfl)) (.tk 15 rfl rfl rfl rfl (OKY.mv (.t rfl)) (.go [] (.s 3 [] rfl rfl rfl (.o rfl (.load1 (.t rfl) (i := 2) rfl ty151 rfl)) (.s 5 [] rfl rfl rfl (.o rfl (.call (zint_Of) (.cons (.cI 1 rfl) .nil))) (.s 9 [] rfl rfl rfl (.o rfl (.load1 (.t rfl) (i := 2) rfl ty151 rfl)) (.s 11 [54] rfl rfl rfl (.o rfl (.ixGr sl151 ty22 (.t rfl) (.t rfl) ⟨by omega, by omega⟩)) ?_))))))))))))))))))))
  refine .s 12 [56] rfl rfl rfl (.o rfl (.loadGM (.t rfl) (i := 3) rfl ty22 hr2)) (.s 13 [] rfl rfl rfl (.o rfl (.load (.t rfl) (i := 0) rfl ty31 rfl (Ss' := [_, _]) rfl)) (.s 14 [58] rfl rfl rfl (.o rfl (.call (zint_Neg (by rw [val_words]; omega)) (.cons (.t rfl) .nil))) ?_))
  refine .s 16 [50, 57, 59] rfl rfl rfl (.o rfl (.eq (.call (hnf_mixed (A := 1) (B := P) (K := P) (L := P) (by rw [val_words]; omega) (by rw [vals_nz]; exact hrP) (by rw [val_words, zv_nf, Int.natAbs_neg]; omega) (by rw [vals_nz]; exact hbP) (by omega) (by omega) (by rw [List.length_map, List.length_map]; omega) (by rw [List.length_map]; omega)) (.cons (.t rfl) (.cons (.t rfl) (.cons (.t rfl) (.cons (.t rfl) .nil))))) ((show _ = isP (mx2 1 r (-(cf r col / cf b col)) b) from isPl_eq (by simp only [zv_nf, vals_nz]))))) ?_
  refine .fin [17, 18] (by kernel_rfl) (by kernel_rfl) (fun _ _ _ _ _ h => h) (by kernel_rfl) (by kernel_rfl) (by kernel_rfl) (by kernel_rfl) (by kernel_rfl) (by kernel_rfl) (by kernel_rfl) (by kernel_rfl) (by kernel_rfl) (.cv (Cv.wk (.l [0, 1, 4, 22, 23, 24, 25, 5, 27, 28, 29, 30, 31, 32, 33, 34, 35, 36, 37, 38, 39, 40, 41, 26, 42, 43, 44, 6, 7, 45, 46, 47, 49, 51, 52, 53, 55, 60, 48, 50, 54, 56, 57, 58, 59, 61] rfl)) (st (.ixGr sl151 ty22 (.t rfl) (.t rfl) ⟨by omega, by omega⟩) rfl (.storeGM (z := mx2 1 r (-(cf r col / cf b col)) b) (.t rfl) (.t rfl) (i := 3) rfl ty22 (by omega) (M' := [_, _, _, grM _ _ _]) rfl (nl (.bln (.thn (k6 _ _ (.region (st (.addI (.t rfl) (.cI 1 rfl) (by first | omega | assumption) (by first | omega | assumption)) rfl (st (.mv (.t rfl)) rfl (nl (.thn (hK3 (⟨i + 1, by omega⟩) _ _ ?_ (Cv.trans (Cv.drop ((.cons _ (.cons _ (.cons_cons _ (.cons_cons _ .slnil)))))) (Cv.mem (.c 23 rfl ?_ (.l [0, 1, 4, 22] rfl)) ?_)))))))))))))))
  ·show t - (i + 1) < t - i; omega
  ·exact isI_eq (by omega)
  ·exact hwM_eq (rd_go hr2 hb2).symm (by show _ = (rds rs t col (i + 1)).length; rw [hlen, rds_len])
 ·have hc1 := BP.f hc1
  refine .exit (.the (.the (.blh (rtX0D (.cons_cons _ (.cons_cons _ .slnil)) (.inr rfl) Tryz.results220 rfl (⟨rfl, by rw [show t = i by omega]⟩)))))
theorem hnf_column {bw C : Nat} {gt : Gr (List Int)} {rs : List (List Int)} {t col W K : Nat} (hrow : ∀ r ∈ rs, r.length = W) (ht : t < rs.length) (hc : col < W) (hW : W ≤ 128) (hR : rs.length ≤ 64) (hb : ∀ r ∈ rs, Bd r K) (hK : (K + 3) * (rs.length + 2) ≤ 80000000) : CtrX Tryz.prog 152 [isPtr bw 0, isI (col : Int)] (hwM bw gt rs C t) (fun S M => S = isTup [] ∧ M = hwM bw gt (hcol ⟨rs, t⟩ col).rows C (hcol ⟨rs, t⟩ col).top) := by
 refine CtrX.intro Tryz.func152 rfl (by kernel_rfl) Tryz.ntmps152 rfl fun w0 F0 => .cv (Cv.wk (.l [0, 1] rfl)) (.fact (Has.rngI (Has.t (t := 1) rfl)) fun lt1 => ?_)
 obtain ⟨N, hN⟩ : ∃ N, N = rs.length - (t + 1) := ⟨_, rfl⟩
 obtain ⟨P, hP⟩ : ∃ P, P = K + N * (K + 3) := ⟨_, rfl⟩
 have hK1 : (K + 3) * (rs.length + 2) = rs.length * (K + 3) + 2 * (K + 3) := by rw [Nat.mul_add, Nat.mul_comm (K + 3) rs.length, Nat.mul_comm (K + 3) 2]
 have hK2 : N * (K + 3) ≤ rs.length * (K + 3) := Nat.mul_le_mul_right _ (by omega)
 have hcl : hcol ⟨rs, t⟩ col = if cf ((jns rs t col N).getD t []) col = 0 then ⟨jns rs t col N, t⟩ else ⟨rds (hsg (jns rs t col N) t col) t col t, t + 1⟩ := by rw [hN]; rfl
 have hlenA := jns_len rs t col N
 obtain ⟨p, hp⟩ : ∃ p, (jns rs t col N)[t]? = some p := ⟨_, List.getElem?_eq_getElem (by omega)⟩
 have hrowA := jns_row hrow ht (col := col) N
 have hbA : ∀ r ∈ jns rs t col N, Bd r P := by rw [hP]; exact jns_bd hb N
 have hpl := hrowA p (List.mem_of_getElem? hp)
 have hpP := hbA p (List.mem_of_getElem? hp)
 have hpc := hpP col
 rw [getD_of hp] at hcl
 refine .seq fun _ k1 => .seq fun _ k2 => .region (st (.mv (.t rfl)) rfl (st (.nilc (.t rfl)) rfl (st (.fieldAddr (.t rfl) fld185_2 ty3) rfl (st (.load1 (.t rfl) (i := 0) rfl ty3 rfl) rfl (st (.addI (.t rfl) (.cI 1 rfl) (by first | omega | assumption) (by first | omega | assumption)) rfl (st (.as (.t rfl)) rfl (nl (.thn (k2 _ _ (.cv (Cv.wk (.l [0, 1, 4] rfl)) (.block (.loopF [0, 1] (fun (z : { n : Nat // n ≤ N }) => match z with | ⟨n, hn⟩ => [(4, isI ((t + 1 + n : Nat) : Int))]) (fun M => fun (z : { n : Nat // n ≤ N }) => match z with | ⟨n, hn⟩ => hwM bw gt (jns rs t col n) C t) (fun (z : { n : Nat // n ≤ N }) => match z with | ⟨n, hn⟩ => N - n) (⟨0, Nat.zero_le _⟩) (Cv.mem (.c 4 rfl ?_ (.l [0, 1] rfl)) ?_) ?_))))))))))))
 ·exact isI_eq (by omega)
 ·rfl
 rintro ⟨n, hn⟩ K3 hK3
 refine .cv (Cv.wk (.l [4, 0, 1] rfl)) (.memEq (M' := hwM bw gt (jns rs t col n) C t) rfl ?_)
 have hlen := jns_len rs t col n
 have hnK : n * (K + 3) ≤ N * (K + 3) := Nat.mul_le_mul_right _ hn
 refine .seq fun _ k4 => .seq fun _ k5 => .region (st (.mv (.t rfl)) rfl (st (.mv (.t rfl)) rfl (st (.nilc (.t rfl)) rfl (st (.fieldAddr (.t rfl) fld185_0 ty151) rfl (st (.load1 (.t rfl) (i := 0) rfl ty151 rfl) rfl (st (.len sl151 (.t rfl)) rfl (st (.ltI (.t rfl) (.t rfl)) rfl (nl (.thn (k5 _ _ (.cond (.t rfl) (fun hc1 => ?_) (fun hc1 => ?_))))))))))))
 ·have hc1 := BP.t hc1
  skip
  refine .skip (.thn (k4 _ _ (.seq fun _ k6 => .block (.region (st (.mv (.t rfl)) rfl (st (.mv (.t rfl)) rfl (st (.mv (.t rfl)) rfl (.callX (hnf_join (rs := jns rs t col n) (i := t + 1 + n) (col := col) (P := K + n * (K + 3)) (K := K) (jns_row hrow ht n) (by omega) (by omega) hc hW (by omega) (jns_bd hb n) (by rw [show (jns rs t col n).getD (t + 1 + n) [] = rs.getD (t + 1 + n) [] from by rw [List.getD, jns_far (Nat.le_refl _)]; rfl]; exact getD_bd hb _) (by omega)) (List.Perm.refl _) (.cons (.t rfl) (.cons (.t rfl) (.cons (.t rfl) .nil))) rfl ?_))))))))
  rintro _ _ ⟨rfl, rfl⟩
  refine .memEq (M' := hwM bw gt (jns rs t col (n + 1)) C t) rfl (nl (.bln (.thn (k6 _ _ (.region (st (.mv (.t rfl)) rfl (st (.addI (.t rfl) (.cI 1 rfl) (by first | omega | assumption) (by first | omega | assumption)) rfl (st (.as (.t rfl)) rfl (nl (.thn (hK3 (⟨n + 1, by omega⟩) _ _ ?_ (Cv.mem (.c 4 rfl ?_ (.l [0, 1] rfl)) ?_))))))))))))
  ·show N - (n + 1) < N - n; omega
  ·exact isI_eq (by omega)
  ·rfl
 ·have hc1 := BP.f hc1
  have hnN : N = n := (by omega)
  subst hnN
  refine .exit (.the (.the (.blh (.thn (k1 _ _ (.cv (Cv.wk (.l [0, 1] rfl)) (.cutF [0, 1] (fun (z : { c : List (List Int) // c = hsg (jns rs t col N) t col ∧ ¬ cf p col = 0 }) => match z with | ⟨c, hcs⟩ => []) (fun M => fun (z : { c : List (List Int) // c = hsg (jns rs t col N) t col ∧ ¬ cf p col = 0 }) => match z with | ⟨c, hcs⟩ => hwM bw gt c C t) (fun K7 hK7 => ?_) ?_)))))))
  ·skip
   refine .seq fun _ k8 => .dr (.s [] rfl rfl rfl (.o rfl (.mv (.t rfl))) (.s [23] rfl rfl rfl (.o rfl (.nilc (.t rfl))) (.s [24] rfl rfl rfl (.o rfl (.fieldAddr (.t rfl) fld185_0 ty151)) (.s [25] rfl rfl rfl (.o rfl (.load1 (.t rfl) (i := 0) rfl ty151 rfl)) (.s [] rfl rfl rfl (.o rfl (.mv (.t rfl))) (.s [27] rfl rfl rfl (.o rfl (.nilc (.t rfl))) (.s [28] rfl rfl rfl (.o rfl (.fieldAddr (.t rfl) fld185_2 ty3)) (.s [29] rfl rfl rfl (.o rfl (.load1 (.t rfl) (i := 0) rfl ty3 rfl)) (.s [26, 30] rfl rfl rfl (.o rfl (.ixGr sl151 ty22 (.t rfl) (.t rfl) ⟨by omega, by omega⟩)) ?_)))))))))
   refine .s [31] rfl rfl rfl (.o rfl (.loadGM (.t rfl) (i := 1) rfl ty22 hp)) (.s [] rfl rfl rfl (.o rfl (.mv (.t rfl))) (.fin (n := 11) mixed (by kernel_rfl) (by kernel_rfl) (by kernel_rfl) (.cv (Cv.wk (.l [0, 1, 32, 33] rfl)) ?_)))
   refine st (.ixK sl22 ty31 (.t rfl) (.t rfl) zc_len ⟨by omega, by rw [List.length_map]; omega⟩ (getZ (i := col) (by omega))) rfl ?_
   refine st (.loadP (.t rfl) ty31 rfl (Ss' := [_, _]) rfl) rfl ?_
   refine st (.eq (.call (zint_Sign (by rw [val_words]; omega)) (.cons (.t rfl) .nil)) ((show _ = isI (sgn (cf p col)) from by first | (rw [zv_nf]; done) | (rw [zv_nz]; done) | rfl))) rfl ?_
   refine nl (.thn (k8 _ _ (.block (.seq fun _ k9 => .region (st (.eqI (.t rfl) (.cI 0 rfl)) rfl (st (.as (.t rfl)) rfl (nl (.thn (k9 _ _ (.cv (Cv.wk (.l [0, 1, 36, 37] rfl)) (.cond (.t rfl) (fun hc2 => ?_) (fun hc2 => ?_))))))))))))
   ·have hc2 := BP.t hc2
    have h0 : cf p col = 0 := (sgn_eq0 _).1 hc2
    refine .ret (.blr (.thr (rtX0 (.inl rfl) Tryz.results152 rfl (⟨rfl, by rw [hcl, if_pos h0]⟩))))
   ·have hc2 := BP.f hc2
    have h0 : ¬ cf p col = 0 := fun e => hc2 ((sgn_eq0 _).2 e)
    refine .seq fun _ k10 => .region (st (.eqI (.t rfl) (.cI (-1) rfl)) rfl (st (.as (.t rfl)) rfl (nl (.thn (k10 _ _ (.cond (.t rfl) (fun hc3 => ?_) (fun hc3 => ?_)))))))
    ·have hc3 := BP.t hc3
     have hl0 : cf p col < 0 := (sgn_lt _).1 (by omega)
     refine .dry mixed (.tk 0 rfl rfl rfl rfl (OKY.mv (.t rfl)) (.tk 1 rfl rfl rfl rfl (OKY.nilc (.t rfl)) (.tk 2 rfl rfl rfl rfl (OKY.fieldAddr (.t rfl) fld185_0 ty151) (.tk 4 rfl rfl rfl rfl (OKY.mv (.t rfl)) (.tk 5 rfl rfl rfl rfl (OKY.nilc (.t rfl)) (.tk 6 rfl rfl rfl rfl (OKY.fieldAddr (.t rfl) fld185_2 ty3) (.tk 9 rfl rfl rfl rfl (OKY.mv (.t rfl)) (.tk 10 rfl rfl rfl rfl (OKY.nilc (.t rfl)) (.tk 11 rfl rfl rfl rfl (OKY.fieldAddr (.t rfl) fld185_0 ty151) (.tk 13 rfl rfl rfl rfl (OKY.mv (.t rfl)) (.tk 14 rfl rfl rfl rfl (OKY.nilc (.t rfl)) (.tk 15 rfl rfl rfl rfl (OKY.fieldAddr (.t rfl) fld185_2 ty3) (.tk 20 rfl rfl rfl rfl (OKY.mv (.t rfl)) (.tk 21 rfl rfl rfl rfl (OKY.nilc (.t rfl)) (.tk 22 rfl rfl rfl rfl (OKY.fieldAddr (.t rfl) fld185_0 ty151) (.tk 24 rfl rfl rfl rfl (OKY.mv (.t rfl)) (.tk 25 rfl rfl rfl rfl (OKY.nilc (.t rfl)) (.tk 26 rfl rfl rfl rfl (OKY.fieldAddr (.t rfl) fld185_2 ty3) (.go [] (.s 3 [] rfl rfl rfl (.o rfl (.load1 (.t rfl) (i := 0) rfl ty151 rfl)) (.s 7 [] rfl rfl rfl (.o rfl (.load1 (.t rfl) (i := 0) rfl ty3 rfl)) (.s 8 [] rfl rfl rfl (.o rfl (.call (zint_Of) (.cons (.cI (-1) rfl) .nil))) (.s 12 [] rfl rfl rfl (.o rfl (.load1 (.t rfl) (i := 0) rfl ty151 rfl)) (.s 16 [] rfl rfl rfl (.o rfl (.load1 (.t rfl) (i := 0) rfl ty3 rfl)) ?_))))))))))))))))))))))))
     refine .s 17 [53, 57] rfl rfl rfl (.o rfl (.ixGr sl151 ty22 (.t rfl) (.t rfl) ⟨by omega, by omega⟩)) ?_
     refine .s 18 [58] rfl rfl rfl (.o rfl (.loadGM (.t rfl) (i := 1) rfl ty22 hp)) (.s 19 [] rfl rfl rfl (.o rfl (.build [isB false, SlM isU []] pl31 zero31 (fun _ _ => ⟨rfl, nilM _ _, trivial⟩) .nil (Z'' := [_, _]) rfl)) (.s 23 [] rfl rfl rfl (.o rfl (.load1 (.t rfl) (i := 0) rfl ty151 rfl)) (.s 27 [] rfl rfl rfl (.o rfl (.load1 (.t rfl) (i := 0) rfl ty3 rfl)) (.s 28 [64, 68] rfl rfl rfl (.o rfl (.ixGr sl151 ty22 (.t rfl) (.t rfl) ⟨by omega, by omega⟩)) ?_))))
     refine .s 29 [69] rfl rfl rfl (.o rfl (.loadGM (.t rfl) (i := 1) rfl ty22 hp)) (.s 30 [49, 59, 60, 70] rfl rfl rfl (.o rfl (.eq (.call (hnf_mixed (A := 1) (B := 1) (K := P) (L := P) (by rw [val_words]; exact nw_small' (by decide)) (by rw [vals_nz]; exact hpP) (by exact nw_small' (by decide)) (by rw [vals_nz]; exact hpP) (by omega) (by omega) rfl (by rw [List.length_map]; omega)) (.cons (.t rfl) (.cons (.t rfl) (.cons (.t rfl) (.cons (.t rfl) .nil))))) ((show _ = isP (mx2 (-1) p 0 p) from isPl_eq (by simp only [zv_nf, vals_nz]; rfl))))) ?_)
     refine .fin [31, 32] (by kernel_rfl) (by kernel_rfl) (fun _ _ _ _ _ h => h) (by kernel_rfl) (by kernel_rfl) (by kernel_rfl) (by kernel_rfl) (by kernel_rfl) (by kernel_rfl) (by kernel_rfl) (by kernel_rfl) (by kernel_rfl) (.cv (Cv.wk (.l [0, 1, 44, 48, 71] rfl)) (st (.ixGr sl151 ty22 (.t rfl) (.t rfl) ⟨by omega, by omega⟩) rfl (.storeGM (z := mx2 (-1) p 0 p) (.t rfl) (.t rfl) (i := 1) rfl ty22 (by omega) (M' := [_, grM _ _ _]) rfl (nl (.bln (.thn (hK7 (⟨_, rfl, h0⟩) _ _ (Cv.mem (.l [0, 1] rfl) ?_))))))))
     ·exact hwM_eq (by unfold hsg; rw [getD_of hp, if_pos hl0]; rfl) (by rw [hsg_len])
    ·have hc3 := BP.f hc3
     have hl0 : ¬ cf p col < 0 := fun e => by rcases sgn_cases (cf p col) with h | h | h <;> omega
     refine .skip (.bln (.thn (hK7 (⟨_, rfl, h0⟩) _ _ (Cv.mem (.l [0, 1] rfl) ?_))))
     ·exact hwM_eq (by unfold hsg; rw [getD_of hp, if_neg hl0]) (by rw [hsg_len])
  rintro ⟨c, hcs, h0⟩
  refine .cv (Cv.wk (.l [0, 1] rfl)) (.memEq (M' := hwM bw gt c C t) rfl ?_)
  subst hcs
  have hpos := hsg_pos hp h0
  refine .seq fun _ k11 => .region (st (.mv (.t rfl)) rfl (st (.mv (.t rfl)) rfl (.callX (hnf_reduce (rs := hsg (jns rs t col N) t col) (col := col) (P := P) (hsg_row hrowA (by omega)) (by rw [hsg_len]; omega) hc hW (by rw [hsg_len]; omega) (hsg_bd hbA) (by omega) hpos) (List.Perm.refl _) (.cons (.t rfl) (.cons (.t rfl) .nil)) rfl ?_)))
  rintro _ _ ⟨rfl, rfl⟩
  refine .memEq (M' := hwM bw gt (rds (hsg (jns rs t col N) t col) t col t) C t) rfl (nl (.thn (k11 _ _ (.region (st (.mv (.t rfl)) rfl (st (.nilc (.t rfl)) rfl (st (.fieldAddr (.t rfl) fld185_2 ty3) rfl (st (.load1 (.t rfl) (i := 0) rfl ty3 rfl) rfl (st (.addI (.t rfl) (.cI 1 rfl) (by first | omega | assumption) (by first | omega | assumption)) rfl (st (.nilc (.t rfl)) rfl (st (.fieldAddr (.t rfl) fld185_2 ty3) rfl (.store (.t rfl) (.t rfl) (i := 0) rfl ty3 rfl rfl (Ss' := [_, _, _]) rfl (M' := [(some _, cellM [_, _, _]), _]) rfl (nl (rtX0 (.inr rfl) Tryz.results152 rfl (⟨rfl, (hwM_top (top' := t + 1) (by omega)).trans (by rw [hcl, if_neg h0])⟩)))))))))))))))
theorem hnf_part {rs : List (List Int)} {W lo hi : Nat} {c tp : Int} (hrow : ∀ r ∈ rs, r.length = W) (h1 : lo ≤ hi) (h2 : hi ≤ W) (hW : W ≤ 128) (hR : rs.length ≤ 64) : Ctr Tryz.prog 153 [PtrL [SlM isP rs, isI c, isI tp], isI (lo : Int), isI (hi : Int)] (isMz rs.length (hi - lo) (flatP lo hi rs)) := by
 refine Ctr.intro Tryz.func153 rfl (by kernel_rfl) Tryz.ntmps153 rfl fun w0 F0 => .cv (Cv.wk (.l [0, 1, 2] rfl)) (.fact (Has.rngI (Has.t (t := 1) rfl)) fun lt1 => .fact (Has.rngI (Has.t (t := 2) rfl)) fun lt2 => ?_)
 have hmx : ∀ i, i ≤ rs.length → (flatP lo hi (rs.take i)).length ≤ 8192 := fun i hi' => by
  rw [flatP_len (rs := rs.take i) h1 h2 (fun r hr => hrow r (List.mem_of_mem_take hr)), List.length_take]
  exact Nat.le_trans (Nat.mul_le_mul (show _ ≤ 64 by omega) (show hi - lo ≤ 128 by omega)) (by decide)
 refine .seq fun _ k1 => .region (.alloc [isI 0, isI 0, nilS] zero24 (fun _ _ => ⟨⟨rfl, by decide, by decide⟩, ⟨rfl, by decide, by decide⟩, rfl, trivial⟩) rfl fun b1 => nl (.thn (k1 _ _ (.seq fun _ k2 => .region (st (.mv (.t rfl)) rfl (st (.nilcP (.t rfl)) rfl (st (.fieldAddrP (.t rfl) fld185_0 ty151 (Ss' := [_, _, _]) rfl) rfl (st (.loadP1 (.t rfl) ty151) rfl (st (.len sl151 (.t rfl)) rfl (st (.mv (.t rfl)) rfl (st (.mv (.t rfl)) rfl (st (.eq (.subI (.t rfl) (.t rfl) (by first | omega | assumption) (by first | omega | assumption)) ((show isI _ = isI ((hi - lo : Nat) : Int) from isI_eq (by omega)))) rfl (st (.build [isI 0, isI 0, nilS] pl24 zero24 (fun _ _ => ⟨⟨rfl, by decide, by decide⟩, ⟨rfl, by decide, by decide⟩, rfl, trivial⟩) (.cons (.t rfl) rfl rfl rfl (.cons (.t rfl) rfl rfl rfl .nil)) (Z'' := [_, _, _]) rfl) rfl (.alloc [isI 0, isI 0, nilS] zero24 (fun _ _ => ⟨⟨rfl, by decide, by decide⟩, ⟨rfl, by decide, by decide⟩, rfl, trivial⟩) rfl fun b2 => .store (.t rfl) (.t rfl) (i := 0) rfl ty24 rfl rfl (Ss' := [_, _, _]) rfl (M' := [(some _, cellM [_, _, _]), _]) rfl (nl (.thn (k2 _ _ (.cv (Cv.wk (.l [0, 1, 2, 6, 7] rfl)) (.seq fun _ k3 => .seq fun _ k4 => .cv (Cv.growF (Bool × List Nat) (i := 0) (o := 2) rfl rfl rfl) (.memEq (M' := [grMK zc Gr.nil [], _, _]) rfl (.region (st (.mv (.t rfl)) rfl (st (.nilcP (.t rfl)) rfl (st (.fieldAddrP (.t rfl) fld185_0 ty151 (Ss' := [_, _, _]) rfl) rfl (st (.loadP1 (.t rfl) ty151) rfl (st (.len sl151 (.t rfl)) rfl (st (.mv (.cI 0 rfl)) rfl (nl (.thn (k4 _ _ (.block ?_)))))))))))))))))))))))))))))))
 refine .loopF [1, 2, 6, 7, 22, 23] (fun (z : { z : Nat × Gr (Bool × List Nat) // z.1 ≤ rs.length }) => match z with | ⟨(i, g), hI⟩ => [(24, isI (i : Int))]) (fun M => fun (z : { z : Nat × Gr (Bool × List Nat) // z.1 ≤ rs.length }) => match z with | ⟨(i, g), hI⟩ => [grMK zc g ((flatP lo hi (rs.take i)).map nz), (some b2, cellM [isI (rs.length : Int), isI ((hi - lo : Nat) : Int), isGr g ((flatP lo hi (rs.take i)).map nz).length]), (some b1, cellM [isI 0, isI 0, nilS])]) (fun (z : { z : Nat × Gr (Bool × List Nat) // z.1 ≤ rs.length }) => match z with | ⟨(i, g), hI⟩ => rs.length - i) (⟨(0, Gr.nil), Nat.zero_le _⟩) (Cv.mem (.c 24 rfl ?_ (.l [1, 2, 6, 7, 22, 23] rfl)) ?_) ?_
 ·rfl
 ·rfl
 rintro ⟨⟨i, g⟩, hI⟩ K5 hK5
 refine .cv (Cv.wk (.l [24, 1, 2, 6, 7, 22, 23] rfl)) (.memEq (M' := [grMK zc g ((flatP lo hi (rs.take i)).map nz), (some b2, cellM [isI (rs.length : Int), isI ((hi - lo : Nat) : Int), isGr g ((flatP lo hi (rs.take i)).map nz).length]), (some b1, cellM [isI 0, isI 0, nilS])]) rfl ?_)
 simp only [] at hI
 have hfl := hmx i hI
 refine .seq fun _ k6 => .region (st (.ltI (.t rfl) (.t rfl)) rfl (nl (.thn (k6 _ _ (.seq fun _ k7 => .cond (.t rfl) (fun hc1 => ?_) (fun hc1 => ?_))))))
 ·have hc1 := BP.t hc1
  obtain ⟨r, hr⟩ : ∃ r, rs[i]? = some r := ⟨_, List.getElem?_eq_getElem (by omega)⟩
  have hrW := hrow r (List.mem_of_getElem? hr)
  have hrm : (((r.take hi).drop lo).map nz).length = hi - lo := by rw [List.length_map, List.length_drop, List.length_take]; omega
  refine .skip (.thn (k7 _ _ (.seq fun _ k8 => .block (.seq fun _ k9 => .region (st (.ixP sl151 ty22 (.t rfl) (.t rfl) ⟨by omega, by omega⟩ hr) rfl (st (.loadP1 (.t rfl) ty22) rfl (st (.as (.t rfl)) rfl (nl (.thn (k9 _ _ (.dry mixed (.tk 0 rfl rfl rfl rfl (OKY.fieldAddr (.t rfl) fld24_2 ty22) (.tk 2 rfl rfl rfl rfl (OKY.mv (.t rfl)) (.tk 3 rfl rfl rfl rfl (OKY.mv (.t rfl)) (.tk 4 rfl rfl rfl rfl (OKY.mv (.t rfl)) (.go [] (.s 1 [] rfl rfl rfl (.o rfl (.load1 (.t rfl) (i := 1) rfl ty22 rfl)) ?_)))))))))))))))))
  refine .s 5 [] rfl rfl rfl (.o rfl (.eq (.slLHK sl22 ty31 zc_len (.t rfl) (.t rfl) (.t rfl) ⟨by omega, by omega, by rw [List.length_map]; omega⟩) ((show _ = SlK 2 zc (((r.take hi).drop lo).map nz) from SlK_eq (by rw [List.map_drop, List.map_take]; rfl))))) ?_
  refine .fin [6, 7, 8] (by kernel_rfl) (by kernel_rfl) (fun _ _ _ _ _ h => h) (by kernel_rfl) (by kernel_rfl) (by kernel_rfl) (by kernel_rfl) (by kernel_rfl) (by kernel_rfl) (by kernel_rfl) (by kernel_rfl) (by kernel_rfl) (.cv (Cv.wk (.l [1, 2, 6, 7, 22, 23, 24, 25, 26, 27, 9, 28, 30, 31, 32, 29, 33] rfl)) (.appendGK0 (fk := zc) (u := (false, [])) zc_len (by decide) (fun _ => inferInstance) sl22 ty31 zero31 (fun _ _ => ⟨rfl, nilM _ _, trivial⟩) by31 (.t rfl) (i := 0) rfl (.t rfl) (by rw [List.length_map, hrm]; omega) rfl fun gr1 => ?_))
  refine .memEq (M' := [grMK _ _ _, _, _]) rfl (st (.fieldAddr (.t rfl) fld24_2 ty22) rfl (.store (.t rfl) (.t rfl) (i := 1) rfl ty22 rfl rfl (Ss' := [_, _, _]) rfl (M' := [_, (some _, cellM [_, _, _]), _]) rfl (nl (.bln (.thn (k8 _ _ (.region (st (.addI (.t rfl) (.cI 1 rfl) (by first | omega | assumption) (by first | omega | assumption)) rfl (st (.mv (.t rfl)) rfl (nl (.thn ?_)))))))))))
  refine hK5 (⟨(i + 1, gr1), by show i + 1 ≤ rs.length; omega⟩) _ _ ?_ (Cv.mem (.c 24 rfl ?_ (.l [1, 2, 6, 7, 22, 23] rfl)) ?_)
  ·show rs.length - (i + 1) < rs.length - i; omega
  ·exact isI_eq (by omega)
  ·exact grF_eq (by rw [flatP_succ hr, List.map_append, List.length_append]) (by rw [flatP_succ hr, List.map_append])
 ·have hc1 := BP.f hc1
  refine .exit (.the (.the (.blh (.thn (k3 _ _ (.cv (Cv.wk (.l [6, 7] rfl)) (.seq fun _ k10 => .cv (Cv.freezeF (k := 2) (i := 0) (j := 0) (o := 2) rfl rfl rfl rfl (gr_lenK zc_len) (gr_takeK zc_len) (Ss' := [_, _, SlK 2 zc ((flatP lo hi (rs.take i)).map nz)]) rfl) (.memEq (M' := [(some _, cellM [_, _, SlK 2 zc ((flatP lo hi (rs.take i)).map nz)]), _]) rfl (.cv (Cv.wk (.l [6, 7] rfl)) (.region (st (.load (.t rfl) (i := 0) rfl ty24 rfl (Ss' := [_, _, _]) rfl) rfl (.store (.t rfl) (.t rfl) (i := 1) rfl ty24 rfl rfl (Ss' := [_, _, _]) rfl (M' := [_, (some _, cellM [_, _, _])]) rfl (nl (.thn (k10 _ _ (.ret (rt1 (.inl rfl) Tryz.results153 rfl (.cell rfl (i := 1) rfl ty24 rfl ?_ .nil))))))))))))))))))
  all_goals (exact isMz_eq (by rw [List.take_of_length_le (by omega)]))
end Go.Proofs.YthkdmhaafanjlaaGreat
namespace Go.Hp
open Go.Dt Go.Hn Go.Pz Go.Nt Go.Mz Go.En
theorem jns_keep0 {rs : List (List Int)} {t col W : Nat} (hrow : ∀ r ∈ rs, r.length = W) (ht : t < rs.length) : ∀ n, t + 1 + n ≤ rs.length → E (jns rs t col n) t col = 0 → jns rs t col n = rs
  | 0, _, _ => rfl
  | n + 1, hn, h0 => by
    have hl := jns_len rs t col n
    have hr := jns_row hrow ht (col := col) n
    have e1 : ((jns rs t col n).getD (t + 1 + n) []).length = ((jns rs t col n).getD t []).length := (all_getD hr (by omega)).trans (all_getD hr (by omega)).symm
    have ih := jns_keep0 hrow ht (col := col) n (by omega)
    revert h0
    show E (jn _ _ _ _) t col = 0 → jn _ _ _ _ = rs
    unfold jn
    split
    · exact ih
    · rename_i hg
      intro h0
      rw [E_set (by rw [List.length_set]; omega), E_set (by omega), if_neg (by omega), if_pos rfl, cf_mx2 e1, xg_bezout] at h0
      exact absurd h0 hg
def hq (R K : Nat) : Nat → Nat
 | 0 => K
 | t + 1 => hq R K t * (R + 1 - t)
theorem hq_mono {R K t u : Nat} (h : t ≤ u) (hu : u ≤ R) : hq R K t ≤ hq R K u := by
  induction u with
  | zero => rw [show t = 0 by omega]; exact Nat.le_refl _
  | succ u ih =>
    rcases Nat.lt_or_ge u t with g | g
    · rw [show t = u + 1 by omega]; exact Nat.le_refl _
    · exact Nat.le_trans (ih g (by omega)) (Nat.le_mul_of_pos_right _ (by omega))
theorem hq_pow {R K : Nat} : ∀ t, hq R K t ≤ K * (R + 2) ^ t
  | 0 => by rw [Nat.pow_zero, Nat.mul_one]; exact Nat.le_refl _
  | t + 1 => by
    rw [Nat.pow_succ, ← Nat.mul_assoc]
    exact Nat.mul_le_mul (hq_pow t) (by omega)
theorem hcol_bd2 {s : HS} {K W : Nat} (col : Nat) (hr : ∀ r ∈ s.rows, r.length = W) (ht : s.top < s.rows.length) (h : ∀ r ∈ s.rows, Bd r K) :
  ((hcol s col).top = s.top ∧ ∀ r ∈ (hcol s col).rows, Bd r K) ∨ ((hcol s col).top = s.top + 1 ∧ ∀ r ∈ (hcol s col).rows, Bd r ((K + 3) * (s.rows.length + 1 - s.top) - 3)) := by
 have hj := jns_bd (t := s.top) (col := col) h (s.rows.length - (s.top + 1))
 unfold hcol hjs
 split
 ·rename_i h0
  refine .inl ⟨rfl, ?_⟩
  have e := jns_keep0 hr ht (col := col) (s.rows.length - (s.top + 1)) (by omega) h0
  show ∀ r ∈ jns s.rows s.top col (s.rows.length - (s.top + 1)), Bd r K
  rw [e]; exact h
 ·rename_i h0
  refine .inr ⟨rfl, ?_⟩
  have hg := hsg_bd (t := s.top) (col := col) hj
  have htj : s.top < (jns s.rows s.top col (s.rows.length - (s.top + 1))).length := by rw [jns_len]; exact ht
  have hpos := hsg_pos (rs := jns s.rows s.top col (s.rows.length - (s.top + 1))) (t := s.top) (col := col) (List.getElem?_eq_getElem htj) (by rwa [List.getD, List.getElem?_eq_getElem htj] at h0)
  have hlow : ∀ i, i < s.top → Bd ((hsg (jns s.rows s.top col (s.rows.length - (s.top + 1))) s.top col).getD i []) K := fun i hi => by
   have e : (hsg (jns s.rows s.top col (s.rows.length - (s.top + 1))) s.top col).getD i [] = s.rows.getD i [] := by
    unfold hsg
    split
    ·rw [List.getD, List.getElem?_set_ne (by omega), jns_off hi]; rfl
    ·rw [List.getD, jns_off hi]; rfl
   rw [e]; exact getD_bd h i
  have em : (K + 3) * (s.rows.length + 1 - s.top) = (s.rows.length - (s.top + 1)) * (K + 3) + 2 * (K + 3) := by
   rw [show s.rows.length + 1 - s.top = (s.rows.length - (s.top + 1)) + 2 by omega, Nat.mul_add, Nat.mul_comm (K + 3), Nat.mul_comm (K + 3)]
  exact fun r hr => (rds_bd hpos (getD_bd hg _) hlow hg (by omega) s.top (Nat.le_refl _) r hr).mono (by omega)
theorem hq_ge {R K t : Nat} (h : t ≤ R) : K ≤ hq R K t := hq_mono (R := R) (K := K) (Nat.zero_le t) h
theorem hred_hq {R W K : Nat} {s : HS} (h : HOk R W K s) (h0 : s.top = 0) : ∀ c, ∀ r ∈ (hred s c).rows, Bd r (hq R (K + 3) (hred s c).top - 3)
  | 0 => fun r hr => (h.bd r hr).mono (by show K ≤ hq R (K + 3) s.top - 3; rw [h0]; show K ≤ K + 3 - 3; omega)
  | c + 1 => by
    have ih := hred_hq h h0 c
    have ho := hred_ok h c
    have hg := hq_ge (K := K + 3) ho.top
    show ∀ r ∈ (if (hred s c).top < (hred s c).rows.length then hcol (hred s c) c else hred s c).rows, Bd r (hq R (K + 3) (if (hred s c).top < (hred s c).rows.length then hcol (hred s c) c else hred s c).top - 3)
    split
    · rename_i ht
      rcases hcol_bd2 c ho.row ht ih with ⟨e, hb⟩ | ⟨e, hb⟩
      · rw [e]; exact hb
      · rw [e]
        show ∀ r ∈ _, Bd r (hq R (K + 3) (hred s c).top * (R + 1 - (hred s c).top) - 3)
        rw [ho.len, show hq R (K + 3) (hred s c).top - 3 + 3 = hq R (K + 3) (hred s c).top by omega] at hb
        exact hb
    · exact ih
theorem hred_top {R W K : Nat} {s : HS} (h : HOk R W K s) : ∀ c, (hred s c).top ≤ (hred s (c + 1)).top ∧ (hred s (c + 1)).top ≤ (hred s c).top + 1 := fun c => by
 have ho := hred_ok h c
 show _ ≤ (if (hred s c).top < (hred s c).rows.length then hcol (hred s c) c else hred s c).top ∧ (if (hred s c).top < (hred s c).rows.length then hcol (hred s c) c else hred s c).top ≤ _
 split
 ·rename_i ht
  rcases hcol_bd2 c ho.row ht ho.bd with ⟨e, _⟩ | ⟨e, _⟩ <;> rw [e] <;> omega
 ·omega
theorem hred_mono {R W K : Nat} {s : HS} (h : HOk R W K s) {c C : Nat} (hc : c ≤ C) : (hred s c).top ≤ (hred s C).top := by
  induction C with
  | zero => rw [show c = 0 by omega]; exact Nat.le_refl _
  | succ C ih =>
    rcases Nat.lt_or_ge C c with g | g
    · rw [show c = C + 1 by omega]; exact Nat.le_refl _
    · exact Nat.le_trans (ih g) (hred_top h C).1
theorem hred_le {R W K : Nat} {s : HS} (h : HOk R W K s) : ∀ c, (hred s c).top ≤ s.top + c
 | 0 => Nat.le_refl _
 | c + 1 => by have := hred_le h c; have := (hred_top h c).2; omega
def hrk (R C : Nat) (L : List Int) : Nat := (hrm R C L).top
theorem hrk_leR {R C K : Nat} {L : List Int} (h : Bd L K) : hrk R C L ≤ R := (hrm_ok h).top
theorem hrk_leC {R C K : Nat} {L : List Int} (h : Bd L K) : hrk R C L ≤ C := by
 have := hred_le (rows0_ok (R := R) (C := C) h) C
 show (hred _ C).top ≤ C
 exact Nat.le_trans this (by show 0 + C ≤ C; omega)
theorem hrm_bd2 {R C K : Nat} {L : List Int} (h : Bd L K) : ∀ r ∈ (hrm R C L).rows, Bd r (hq R (K + 4) (hrk R C L) - 3) := hred_hq (rows0_ok h) rfl C
theorem hL_bq {R C K : Nat} {L : List Int} (h : Bd L K) : Bd (hL R C L) (hq R (K + 4) (hrk R C L)) := by
 rw [hL_tab h]
 exact (Bd_tab fun i k => E_bd (hrm_bd2 (R := R) (C := C) h) i k).mono (Nat.sub_le _ _)
theorem latL_bq {R C K : Nat} {L : List Int} (h : Bd L K) : Bd (latL R C L) (hq R (K + 4) (hrk R C L)) := Bd_tab fun i k => hL_bq h _
theorem hq_ask {R C K : Nat} {L : List Int} (h : Bd L K) (hR : R ≤ 64) (hK : (K + 4) * (R + 2) ^ C ≤ 1000000) : hq R (K + 4) (hrk R C L) * (R + 2) ≤ 80000000 := by
 have h1 := hq_pow (R := R) (K := K + 4) (hrk R C L)
 have h2 := Nat.mul_le_mul_left (K + 4) (Nat.pow_le_pow_right (show 0 < R + 2 by omega) (hrk_leC (R := R) (C := C) h))
 have h3 : hq R (K + 4) (hrk R C L) * (R + 2) ≤ 1000000 * 66 := Nat.mul_le_mul (Nat.le_trans h1 (Nat.le_trans h2 hK)) (by omega)
 omega
theorem pivL_count {C P : Nat} {A : MatF} : ∀ {n : Nat}, P ≤ n → (∀ i, i < P → fc C (A i) < C) → (∀ i, P ≤ i → i < n → ¬ fc C (A i) < C) → (pivL C A n).length = P
  | 0, h, _, _ => by rw [show P = 0 by omega]; rfl
  | n + 1, h, h1, h2 => by
    rcases Nat.lt_or_ge n P with g | g
    · have hP : P = n + 1 := by omega
      subst hP
      rw [pivL_yes (h1 n (by omega)), List.length_append, pivL_count (P := n) (n := n) (Nat.le_refl _) (fun i hi => h1 i (by omega)) (fun i g1 g2 => by omega)]; rfl
    · rw [pivL_no (h2 n g (by omega))]
      exact pivL_count g h1 fun i g1 g2 => h2 i g1 (by omega)
theorem hF_piv {R C K : Nat} {L : List Int} (h : Bd L K) : (∀ i, i < hrk R C L → fc C (hF R C L i) < C) ∧ ∀ i, hrk R C L ≤ i → i < R → ¬ fc C (hF R C L i) < C := by
 obtain ⟨P, hP⟩ := hred_HI (rows0_ok (R := R) (C := C) h) C
 have ht := hrk_leR (R := R) (C := C) h
 refine ⟨fun i hi => ?_, fun i hi hR => ?_⟩
 ·have e : fc C (hF R C L i) = P i := fc_at (hP.plt i hi) (fun k hk => hP.lead i k hi hk) (by have := hP.pos i hi; exact fun e => by rw [show E (hred ⟨rows0 C R L R, 0⟩ C).rows i (P i) = 0 from e] at this; omega)
  rw [e]; exact hP.plt i hi
 ·have e : fc C (hF R C L i) = C := fc_all fun k hk => hP.zero i k hi hR hk
  omega
theorem hL_piv {R C K : Nat} {L : List Int} (h : Bd L K) : (∀ i, i < hrk R C L → fc C (mf C (hL R C L) i) < C) ∧ ∀ i, hrk R C L ≤ i → i < R → ¬ fc C (mf C (hL R C L) i) < C := by
 have ht := hrk_leR (R := R) (C := C) h
 have e : ∀ i, i < R → fc C (mf C (hL R C L) i) = fc C (hF R C L i) := fun i hi => fc_congr fun k hk => hL_at h hi hk
 exact ⟨fun i hi => by rw [e i (by omega)]; exact (hF_piv h).1 i hi, fun i hi hR => by rw [e i hR]; exact (hF_piv h).2 i hi hR⟩
theorem top_piv {R C K : Nat} {L : List Int} (h : Bd L K) : (pivL C (mf C (hL R C L)) R).length = hrk R C L :=
 pivL_count (hrk_leR h) (hL_piv h).1 (hL_piv h).2
end Go.Hp
namespace Go.Proofs.YthkdmhaafanjlaaGreat
open Go.En Go.RowKit
set_option maxRecDepth 10000
set_option maxHeartbeats 4000000
open Go.Nt
open Go.Pz
open Go.Mz
open Go.Hn
open Go.Hp
open Go.Dt
theorem hm_step {bw C c : Nat} {gt : Gr (List Int)} {s : HS} {m : Mem} (h : (hred s c).top < (hred s c).rows.length) : (hw0 bw gt (hcol (hred s c) c).rows.length C (hcol (hred s c) c).top :: grM isP gt (hcol (hred s c) c).rows :: m : Mem) = hw0 bw gt (hred s (c + 1)).rows.length C (hred s (c + 1)).top :: grM isP gt (hred s (c + 1)).rows :: m := by
 have e : hred s (c + 1) = hcol (hred s c) c := if_pos h
 rw [e]
theorem col_bq {K R a : Nat} (h : K + 4 ≤ a) (h2 : a * (R + 2) ≤ 80000000) : (a - 3 + 3) * (R + 2) ≤ 80000000 := by rw [Nat.sub_add_cancel (by omega)]; exact h2
theorem isMzp_eq {R C : Nat} {L : List Int} {s : HS} (hlen : s.rows.length = R) (h : s = hrm R C L) : isMz s.rows.length (C - 0) (flatP 0 C s.rows) = isMz R C (flatP 0 C (hrm R C L).rows) := by rw [hlen, h]; rfl
theorem isMzq_eq {R C : Nat} {L : List Int} {s : HS} (hlen : s.rows.length = R) (h : s = hrm R C L) : isMz s.rows.length (C + R - C) (flatP C (C + R) s.rows) = isMz R R (flatP C (C + R) (hrm R C L).rows) := by rw [hlen, h, Nat.add_sub_cancel_left]
theorem hnf_HermiteQ {R C K : Nat} {xs : List (Bool × List Nat)} (hx : Bd (vals xs) K) (hK : hq R (K + 4) (hrk R C (vals xs)) * (R + 2) ≤ 80000000) (hR : R ≤ 64) (hC : C ≤ 64) (hl : xs.length = R * C) : Ctr Tryz.prog 80 [isM (R : Int) (C : Int) xs] (isTup [isMz R C (flatP 0 C (hrm R C (vals xs)).rows), isMz R R (flatP C (C + R) (hrm R C (vals xs)).rows), isI 0]) := by
 refine Ctr.intro Tryz.func80 rfl (by kernel_rfl) Tryz.ntmps80 rfl fun w0 F0 => .cv (Cv.wk (.l [0] rfl)) ?_
 have hfo := formB_true hR hC hl
 have hok := hred_ok (rows0_ok (R := R) (C := C) hx)
 have hbq := hred_hq (rows0_ok (R := R) (C := C) hx) rfl
 have hqs : ∀ c, c ≤ C → hq R (K + 4) (hred ⟨rows0 C R (vals xs) R, 0⟩ c).top * (R + 2) ≤ 80000000 := fun c hc => Nat.le_trans (Nat.mul_le_mul_right _ (hq_mono (hred_mono (rows0_ok (R := R) (C := C) hx) hc) (hok C).top)) hK
 have hp0 : K + 4 ≤ 80000000 := Nat.le_trans (Nat.le_mul_of_pos_right _ (Nat.succ_pos (R + 1))) (hqs 0 (Nat.zero_le _))
 obtain ⟨n0, hn0⟩ : ∃ n0 : Nat, n0 = R := ⟨_, rfl⟩
 refine .seq fun _ k1 => .region (.box (.t rfl) rfl fun b1 => .alloc [isI 0, isI 0, nilS] zero24 (fun _ _ => ⟨⟨rfl, by decide, by decide⟩, ⟨rfl, by decide, by decide⟩, rfl, trivial⟩) rfl fun b2 => .alloc [isI 0, isI 0, nilS] zero24 (fun _ _ => ⟨⟨rfl, by decide, by decide⟩, ⟨rfl, by decide, by decide⟩, rfl, trivial⟩) rfl fun b3 => st (.as (.cI 0 rfl)) rfl (nl (.thn (k1 _ _ (.seq fun _ k2 => .seq fun _ k3 => .region (st (.load (.t rfl) (i := 2) rfl ty24 rfl (Ss' := [_, _, _]) rfl) rfl (st (.eq (.call (zmat_Formed) (.cons (.t rfl) .nil)) ((show isB _ = isB true from isB_eq hfo))) rfl (st (.not (.t rfl)) rfl (nl (.thn (k3 _ _ (.cond (.t rfl) (fun hc1 => ?_) (fun hc1 => ?_)))))))))))))
 ·have hc1 := BP.t hc1
  simp at hc1
 ·have hc1 := BP.f hc1
  refine .skip (.thn (k2 _ _ (.seq fun _ k4 => .region (st (.load (.t rfl) (i := 2) rfl ty24 rfl (Ss' := [_, _, _]) rfl) rfl (.callX (hnf_begun hx (by omega) hR hC hl) (List.Perm.refl _) (.cons (.t rfl) .nil) rfl ?_)))))
  rintro _ _ ⟨bw, gt, rfl, rfl⟩
  refine .memEq (M' := [hw0 bw gt (rows0 C R (vals xs) R).length C 0, grM isP gt (rows0 C R (vals xs) R), _, _, _]) rfl (st (.as (.t rfl)) rfl (nl (.thn (k4 _ _ (.cv (Cv.wk (.l [1, 2, 3, 4, 5] rfl)) (.seq fun _ k5 => .seq fun _ k6 => .region (st (.as (.cI 0 rfl)) rfl (nl (.thn (k6 _ _ (.block (.loopF [1, 2, 3, 4, 5] (fun (z : { c : Nat // c ≤ C }) => match z with | ⟨c, hc⟩ => [(6, isI (c : Int))]) (fun M => fun (z : { c : Nat // c ≤ C }) => match z with | ⟨c, hc⟩ => [hw0 bw gt (hred ⟨rows0 C R (vals xs) R, 0⟩ c).rows.length C (hred ⟨rows0 C R (vals xs) R, 0⟩ c).top, grM isP gt (hred ⟨rows0 C R (vals xs) R, 0⟩ c).rows, (some b3, cellM [isI 0, isI 0, nilS]), (some b2, cellM [isI 0, isI 0, nilS]), (some b1, cellM [isI (R : Int), isI (C : Int), SlK 2 zc xs])]) (fun (z : { c : Nat // c ≤ C }) => match z with | ⟨c, hc⟩ => C - c) (⟨0, Nat.zero_le _⟩) (Cv.mem (.c 6 rfl ?_ (.l [1, 2, 3, 4, 5] rfl)) ?_) ?_))))))))))))
  ·rfl
  ·rfl
  rintro ⟨c, hc⟩ K7 hK7
  refine .cv (Cv.wk (.l [6, 1, 2, 3, 4, 5] rfl)) (.memEq (M' := [hw0 bw gt (hred ⟨rows0 C R (vals xs) R, 0⟩ c).rows.length C (hred ⟨rows0 C R (vals xs) R, 0⟩ c).top, grM isP gt (hred ⟨rows0 C R (vals xs) R, 0⟩ c).rows, (some b3, cellM [isI 0, isI 0, nilS]), (some b2, cellM [isI 0, isI 0, nilS]), (some b1, cellM [isI (R : Int), isI (C : Int), SlK 2 zc xs])]) rfl ?_)
  have hoc := hok c
  have hlen := hoc.len
  have htop := hoc.top
  have hpc := hqs c hc
  refine .seq fun _ k8 => .seq fun _ k9 => .dr (.s [] rfl rfl rfl (.o rfl (.mv (.t rfl))) (.s [] rfl rfl rfl (.o rfl (.fieldAddr (.t rfl) fld24_1 ty3)) (.s [15] rfl rfl rfl (.o rfl (.load1 (.t rfl) (i := 4) rfl ty3 rfl)) (.s [14, 16] rfl rfl rfl (.o rfl (.ltI (.t rfl) (.t rfl))) (.s [17] rfl rfl rfl (.o rfl (.mv (.t rfl))) ?_)))))
  refine .s [18] rfl rfl rfl (.T rfl rfl rfl (fun hg => have hg' := BP.t hg; OK1.mv (.t rfl))) ?_
  refine .s [18, 19] rfl rfl rfl (.T rfl rfl rfl (fun hg => have hg' := BP.t hg; OK1.nilc (Has.g rfl hg))) ?_
  refine .s [18, 20] rfl rfl rfl (.T rfl rfl rfl (fun hg => have hg' := BP.t hg; OK1.fieldAddr (Has.g rfl hg) fld185_2 ty3)) ?_
  refine .s [18, 21] rfl rfl rfl (.T rfl rfl rfl (fun hg => have hg' := BP.t hg; OK1.load1 (Has.g rfl hg) (i := 0) rfl ty3 rfl)) ?_
  refine .s [18] rfl rfl rfl (.T rfl rfl rfl (fun hg => have hg' := BP.t hg; OK1.fieldAddr (.t rfl) fld24_0 ty3)) ?_
  refine .s [18, 23] rfl rfl rfl (.T rfl rfl rfl (fun hg => have hg' := BP.t hg; OK1.load1 (Has.g rfl hg) (i := 4) rfl ty3 rfl)) ?_
  refine .fin (n := 11) mixed (by kernel_rfl) (by kernel_rfl) (by kernel_rfl) (.cv (Cv.wk (.l [1, 2, 3, 4, 5, 6, 14, 15, 16, 17, 18, 19, 20, 21, 22, 23, 24] rfl)) ?_)
  refine stT rfl rfl (fun hg => have hg' := BP.t hg; OK1.ltI (Has.g rfl hg) (Has.g rfl hg)) rfl ?_
  refine st (.pickAnd (.t rfl) (fun h => Has.g rfl h)) rfl (nl (.thn (k9 _ _ (.cond (.t rfl) (fun hc2 => ?_) (fun hc2 => ?_)))))
  ·have hc2 := BP.t hc2
   obtain ⟨hc1', hc2'⟩ := hc2
   refine .skip (.thn (k8 _ _ (.seq fun _ k10 => .block (.region (st (.mv (.t rfl)) rfl (st (.mv (.t rfl)) rfl (.callX (hnf_column (rs := (hred ⟨rows0 C R (vals xs) R, 0⟩ c).rows) (t := (hred ⟨rows0 C R (vals xs) R, 0⟩ c).top) (col := c) (W := C + R) (K := hq R (K + 4) (hred ⟨rows0 C R (vals xs) R, 0⟩ c).top - 3) hoc.row (by omega) (by omega) (by omega) (by omega) (hbq c) (by rw [hlen]; exact col_bq (hq_ge htop) hpc)) (List.Perm.refl _) (.cons (.t rfl) (.cons (.t rfl) .nil)) rfl ?_)))))))
   rintro _ _ ⟨rfl, rfl⟩
   refine .memEq (M' := [hw0 bw gt (hcol (hred ⟨rows0 C R (vals xs) R, 0⟩ c) c).rows.length C (hcol (hred ⟨rows0 C R (vals xs) R, 0⟩ c) c).top, grM isP gt (hcol (hred ⟨rows0 C R (vals xs) R, 0⟩ c) c).rows, _, _, _]) rfl (nl (.bln (.thn (k10 _ _ (.region (st (.mv (.t rfl)) rfl (st (.addI (.t rfl) (.cI 1 rfl) (by first | omega | assumption) (by first | omega | assumption)) rfl (st (.as (.t rfl)) rfl (nl (.thn (hK7 (⟨c + 1, by omega⟩) _ _ ?_ (Cv.mem (.c 6 rfl ?_ (.l [1, 2, 3, 4, 5] rfl)) ?_))))))))))))
   ·show C - (c + 1) < C - c; omega
   ·exact isI_eq (by omega)
   ·exact hm_step (show (hred ⟨rows0 C R (vals xs) R, 0⟩ c).top < _ by omega)
  ·have hc2 := BP.f hc2
   have hst := hred_stop (rows0_ok (R := R) (C := C) hx) hc (show ¬ (c < C ∧ _) from fun h => by omega)
   refine .exit (.the (.the (.blh (.thn (k5 _ _ (.cv (Cv.wk (.l [1, 2, 3, 4, 5] rfl)) (.seq fun _ k11 => .cv (Cv.freezeF (k := 1) (i := 1) (j := 0) (o := 0) rfl rfl rfl rfl gr_lenM gr_takeM (Ss' := [SlM isP ((hred ⟨rows0 C R (vals xs) R, 0⟩ c).rows), _, _]) rfl) (.memEq (M' := [(some _, cellM [SlM isP ((hred ⟨rows0 C R (vals xs) R, 0⟩ c).rows), _, _]), _, _, _]) rfl (.cv (Cv.wk (.l [1, 2, 3, 4, 5] rfl)) (.cv (Cv.freezeBox (t := 5) (i := 0) rfl rfl rfl) (.memEq (M' := [_, _, _]) rfl (.cv (Cv.wk (.l [1, 2, 3, 4, 5] rfl)) (.dr (.s [] rfl rfl rfl (.o rfl (.mv (.t rfl))) (.s [] rfl rfl rfl (.o rfl (.fieldAddr (.t rfl) fld24_1 ty3)) (.s [33] rfl rfl rfl (.o rfl (.load1 (.t rfl) (i := 2) rfl ty3 rfl)) (.s [32, 34] rfl rfl rfl (.o rfl (.call (hnf_part (lo := 0) (hi := C) hoc.row (by omega) (by omega) (by omega) (by omega)) (.cons (.t rfl) (.cons (.cI 0 rfl) (.cons (.t rfl) .nil))))) (.s [] rfl rfl rfl (.o rfl (.mv (.t rfl))) (.s [] rfl rfl rfl (.o rfl (.fieldAddr (.t rfl) fld24_1 ty3)) (.s [37] rfl rfl rfl (.o rfl (.load1 (.t rfl) (i := 2) rfl ty3 rfl)) (.s [] rfl rfl rfl (.o rfl (.fieldAddr (.t rfl) fld24_1 ty3)) (.s [39] rfl rfl rfl (.o rfl (.load1 (.t rfl) (i := 2) rfl ty3 rfl)) (.s [] rfl rfl rfl (.o rfl (.fieldAddr (.t rfl) fld24_0 ty3)) (.s [41] rfl rfl rfl (.o rfl (.load1 (.t rfl) (i := 2) rfl ty3 rfl)) ?_))))))))))))))))))))))))
   refine .s [40, 42] rfl rfl rfl (.o rfl (.eq (.addI (.t rfl) (.t rfl) (by first | omega | assumption) (by first | omega | assumption)) ((show isI _ = isI ((C + R : Nat) : Int) from isI_eq (by omega))))) (.fin (n := 12) mixed (by kernel_rfl) (by kernel_rfl) (by kernel_rfl) (.cv (Cv.wk (.l [2, 3, 4, 35, 36, 38, 43] rfl)) (st (.call (hnf_part (lo := C) (hi := C + R) hoc.row (by omega) (by omega) (by omega) (by omega)) (.cons (.t rfl) (.cons (.t rfl) (.cons (.t rfl) .nil)))) rfl (.store (.t rfl) (.t rfl) (i := 1) rfl ty24 rfl rfl (Ss' := [_, _, _]) rfl (M' := [_, (some _, cellM [_, _, _]), _]) rfl (.store (.t rfl) (.t rfl) (i := 0) rfl ty24 rfl rfl (Ss' := [_, _, _]) rfl (M' := [(some _, cellM [_, _, _]), _, _]) rfl (st (.as (.cI 0 rfl)) rfl (nl (.thn (k11 _ _ (.cv (Cv.wk (.l [2, 3, 4] rfl)) (.ret (rtN (.inl rfl) Tryz.results80 rfl rfl (.cell rfl (i := 1) rfl ty24 rfl ?_ (.cell rfl (i := 0) rfl ty24 rfl ?_ (.tmp (Has.t' rfl ?_) .nil)))))))))))))))
   ·exact isMzp_eq hlen hst.symm
   ·exact isMzq_eq hlen hst.symm
   ·rfl
theorem sl_IndexFuncZ {xs : List (Bool × List Nat)} {K : Nat} (hx : Bd (vals xs) K) : Ctr Tryz.prog 215 [SlK 2 zc xs, isFun (ι := { p : Bool × List Nat // (List.length (words (val p.2))) ≤ K }) Tryz.prog (fun p => [Flat (zc p.1)]) (fun p => isB (decide (zv p.1.1 p.1.2 ≠ 0)))] (isI (fir xs.length (cf (vals xs)))) := by
 refine Ctr.intro Tryz.func215 rfl (by kernel_rfl) Tryz.ntmps215 rfl fun w0 F0 => .cv (Cv.wk (.l [0, 1] rfl)) (.fact (Has.lenLt (Has.t (t := 0) rfl)) fun lt0 => .seq fun _ k1 => .region (st (.as (.cI 0 rfl)) rfl (nl (.thn (k1 _ _ (.seq fun _ k2 => .seq fun _ k3 => .region (st (.mv (.t rfl)) rfl (st (.len sl22 (.t rfl)) rfl (st (.mv (.cI 0 rfl)) rfl (nl (.thn (k3 _ _ (.block (.loopF [0, 1, 7] (fun (z : { i : Nat // i ≤ xs.length ∧ ∀ j, j < i → cf (vals xs) j = 0 }) => match z with | ⟨i, hI⟩ => [(8, isI (i : Int))]) (fun M => fun (z : { i : Nat // i ≤ xs.length ∧ ∀ j, j < i → cf (vals xs) j = 0 }) => match z with | ⟨i, hI⟩ => M) (fun (z : { i : Nat // i ≤ xs.length ∧ ∀ j, j < i → cf (vals xs) j = 0 }) => match z with | ⟨i, hI⟩ => xs.length - i) (⟨0, Nat.zero_le _, fun j hj => absurd hj (Nat.not_lt_zero _)⟩) (Cv.mem (.c 8 rfl ?_ (.l [0, 1, 7] rfl)) ?_) ?_))))))))))))))
 ·rfl
 ·rfl
 rintro ⟨i, hi, hq⟩ K4 hK4
 refine .cv (Cv.wk (.l [8, 0, 1, 7] rfl)) (.seq fun _ k5 => .region (st (.ltI (.t rfl) (.t rfl)) rfl (nl (.thn (k5 _ _ (.seq fun _ k6 => .cond (.t rfl) (fun hc1 => ?_) (fun hc1 => ?_)))))))
 ·have hc1 := BP.t hc1
  refine .skip (.thn (k6 _ _ (.seq fun _ k7 => .block (.seq fun _ k8 => .region (st (.mv (.t rfl)) rfl (st (.as (.t rfl)) rfl (nl (.thn (k8 _ _ (.seq fun _ k9 => .region (st (.mv (.t rfl)) rfl (st (.mv (.t rfl)) rfl (st (.mv (.t rfl)) rfl (st (.ixK sl22 ty31 (.t rfl) (.t rfl) zc_len ⟨by omega, by omega⟩ (getD_some (d := (false, [])) (by first | omega | (simp only [Int.toNat_natCast, List.length_set]; omega)))) rfl ?_))))))))))))))
  refine st (.loadP (.t rfl) ty31 rfl (Ss' := [_, _]) rfl) rfl (st (.eq (.callV ⟨xs.getD i (false, []), hx.raw i⟩ (.t rfl) (.cons (.t rfl) .nil)) ((show _ = isB (decide (cf (vals xs) i ≠ 0)) from isB_eq (by rw [cf_vals])))) rfl (nl (.thn (k9 _ _ (.cond (.t rfl) (fun hc2 => ?_) (fun hc2 => ?_))))))
  ·have hc2 := BP.t hc2
   have HQ : cf (vals xs) i ≠ 0 := hc2
   refine .seq fun _ k10 => .region (st (.mv (.t rfl)) rfl (st (.as (.t rfl)) rfl (nl (.thn (k10 _ _ (.ret (.blr (.thr (.thr (.blr (.thr (rt1 (.inl rfl) Tryz.results215 rfl (.tmp (Has.t' rfl ?_) .nil)))))))))))))
   all_goals (exact isI_eq (fir_at (by omega) hq HQ).symm)
  ·have hc2 := BP.f hc2
   have HQ : ¬ cf (vals xs) i ≠ 0 := hc2
   refine .skip (.bln (.thn (k7 _ _ (.region (st (.addI (.t rfl) (.cI 1 rfl) (by first | omega | assumption) (by first | omega | assumption)) rfl (st (.mv (.t rfl)) rfl (nl (.thn ?_))))))))
   refine hK4 (⟨i + 1, by omega, fun j hj => by rcases Nat.lt_or_ge j i with h | h; exact hq j h; obtain rfl : j = i := (by omega); exact Classical.not_not.1 HQ⟩) _ _ ?_ (Cv.mem (.c 8 rfl ?_ (.l [0, 1, 7] rfl)) ?_)
   ·show xs.length - (i + 1) < xs.length - i; omega
   ·exact isI_eq (by omega)
   ·rfl
 ·have hc1 := BP.f hc1
  refine .exit (.the (.the (.blh (.thn (k2 _ _ (.cv (Cv.wk .nil) (.seq fun _ k11 => .region (st (.as (.cI (-1) rfl)) rfl (nl (.thn (k11 _ _ (.ret (rt1 (.inl rfl) Tryz.results215 rfl (.tmp (Has.t' rfl ?_) .nil))))))))))))))
  all_goals (exact isI_eq (fir_all fun j hj => hq j (by omega)).symm)
theorem hnf_first_1 {m : Bool} {xs : List Nat} (hx : (List.length (words (val xs))) < 4294700000) : Ctr Tryz.prog 216 [Flat [isB m, isWords xs]] (isB (decide (zv m xs ≠ 0))) := by
 refine Ctr.intro Tryz.func216 rfl (by kernel_rfl) Tryz.ntmps216 rfl fun w0 F0 => .cv (Cv.wk (.l [0] rfl)) (.fact (Has.okZ (Has.t (t := 0) rfl)) fun okz0 => .seq fun _ k1 => .region (.box (.t rfl) rfl fun b1 => st (.as (.cB false)) rfl (nl (.thn (k1 _ _ (.seq fun _ k2 => .region (st (.load (.t rfl) (i := 0) rfl ty31 rfl (Ss' := [_, _]) rfl) rfl (st (.call (zint_Sign (by omega)) (.cons (.t rfl) .nil)) rfl (st (.neI (.t rfl) (.cI 0 rfl)) rfl (st (.as (.t rfl)) rfl (nl (.thn (k2 _ _ (.cv (Cv.wk (.l [2] rfl)) (.ret (rt1 (.inl rfl) Tryz.results216 rfl (.tmp (Has.t' rfl ?_) .nil)))))))))))))))))
 all_goals (exact isB_eq (by simp [sgn_eq0]))
theorem hnf_first {R C i K : Nat} {xs : List (Bool × List Nat)} (hx : Bd (vals xs) K) (hK : K ≤ 400000000) (hR : R ≤ 64) (hC : C ≤ 64) (hl : xs.length = R * C) (hi : i < R) : Ctr Tryz.prog 148 [isM (R : Int) (C : Int) xs, isI (i : Int)] (isI (fir C ((mf C (vals xs)) i))) := by
 refine Ctr.intro Tryz.func148 rfl (by kernel_rfl) Tryz.ntmps148 rfl fun w0 F0 => .cv (Cv.wk (.l [0, 1] rfl)) (.fact (Has.rngI (Has.t (t := 1) rfl)) fun lt1 => ?_)
 have hRC := side_le hR hC
 have hpl1 : (i + 1) * C ≤ R * C := Nat.mul_le_mul_right _ hi
 have hpl2 : (i + 1) * C = i * C + C := Nat.succ_mul _ _
 have hc1 : ((i : Int) * (C : Int)) = ((i * C : Nat) : Int) := (Int.natCast_mul i C).symm
 have hc2 : (((i : Int) + 1) * (C : Int)) = (((i + 1) * C : Nat) : Int) := by rw [Int.natCast_mul]; rfl
 obtain ⟨ys, hys⟩ : ∃ ys, ys = (xs.take ((i + 1) * C)).drop (i * C) := ⟨_, rfl⟩
 have hyl : ys.length = C := by rw [hys, List.length_drop, List.length_take]; omega
 have hyv : ∀ k, k < C → cf (vals ys) k = (mf C (vals xs)) i k := fun k hk => by rw [hys]; exact cf_part_row (by omega)
 have hyb : Bd (vals ys) K := fun k => by
  rcases Nat.lt_or_ge k C with h | h
  ·rw [hyv k h]; exact hx _
  ·rw [cf_high (by rw [vals_len]; omega), Int.natAbs_zero, words_zero]; exact Nat.zero_le _
 refine .seq fun _ k1 => .region (.box (.t rfl) rfl fun b1 => st (.as (.cI 0 rfl)) rfl (nl (.thn (k1 _ _ (.seq fun _ k2 => .region (st (.fieldAddr (.t rfl) fld24_2 ty22) rfl (st (.load1 (.t rfl) (i := 0) rfl ty22 rfl) rfl (st (.mv (.t rfl)) rfl (st (.fieldAddr (.t rfl) fld24_1 ty3) rfl (st (.load1 (.t rfl) (i := 0) rfl ty3 rfl) rfl (st (.eq (.mulI (.t rfl) (.t rfl) (by first | omega | (rw [hc1]; omega) | (rw [hc2]; omega)) (by first | omega | (rw [hc1]; omega) | (rw [hc2]; omega))) ((show isI _ = isI ((i * C : Nat) : Int) from isI_eq hc1))) rfl ?_)))))))))))
 refine st (.mv (.t rfl)) rfl (st (.addI (.t rfl) (.cI 1 rfl) (by first | omega | (rw [hc1]; omega) | (rw [hc2]; omega)) (by first | omega | (rw [hc1]; omega) | (rw [hc2]; omega))) rfl ?_)
 refine st (.fieldAddr (.t rfl) fld24_1 ty3) rfl (st (.load1 (.t rfl) (i := 0) rfl ty3 rfl) rfl (st (.eq (.mulI (.t rfl) (.t rfl) (by first | omega | (rw [hc1]; omega) | (rw [hc2]; omega)) (by first | omega | (rw [hc1]; omega) | (rw [hc2]; omega))) ((show isI _ = isI (((i + 1) * C : Nat) : Int) from isI_eq hc2))) rfl ?_))
 refine st (.eq (.slLHK sl22 ty31 zc_len (.t rfl) (.t rfl) (.t rfl) ⟨by omega, by omega, by omega⟩) ((show _ = SlK 2 zc ys from SlK_eq (by rw [hys]; rfl)))) rfl ?_
 refine st (.eq (.call (sl_IndexFuncZ (K := K) hyb) (.cons (.t rfl) (.cons (Has.fn (fun p => hnf_first_1 (Nat.lt_of_le_of_lt p.2 (by omega)))) .nil))) ((show _ = isI (fir C ((mf C (vals xs)) i)) from isI_eq (by rw [hyl]; exact fir_congr hyv)))) rfl ?_
 refine st (.as (.t rfl)) rfl (nl (.thn (k2 _ _ (.cv (Cv.wk (.l [4] rfl)) (.ret (rt1 (.inl rfl) Tryz.results148 rfl (.tmp (Has.t' rfl ?_) .nil)))))))
 all_goals (rfl)
theorem hnf_Pivots {R C K : Nat} {xs : List (Bool × List Nat)} (hx : Bd (vals xs) K) (hK : K ≤ 400000000) (hR : R ≤ 64) (hC : C ≤ 64) (hl : xs.length = R * C) : Ctr Tryz.prog 82 [isM (R : Int) (C : Int) xs] (SlM isI (pv (pivL C (mf C (vals xs)) R))) := by
 refine Ctr.intro Tryz.func82 rfl (by kernel_rfl) Tryz.ntmps82 rfl fun w0 F0 => .cv (Cv.wk (.l [0] rfl)) ?_
 have hRC := side_le hR hC
 have hfo := formB_true hR hC hl
 refine .seq fun _ k1 => .region (.box (.t rfl) rfl fun b1 => st (.as (.cW (f := isI))) rfl (nl (.thn (k1 _ _ (.seq fun _ k2 => .seq fun _ k3 => .region (st (.load (.t rfl) (i := 0) rfl ty24 rfl (Ss' := [_, _, _]) rfl) rfl (st (.eq (.call (zmat_Formed) (.cons (.t rfl) .nil)) ((show isB _ = isB true from isB_eq (hfo)))) rfl (st (.not (.t rfl)) rfl (nl (.thn (k3 _ _ (.cond (.t rfl) (fun hc1 => ?_) (fun hc1 => ?_)))))))))))))
 ·have hc1 := BP.t hc1
  exfalso; simp at hc1
 ·have hc1 := BP.f hc1
  refine .skip (.thn (k2 _ _ (.seq fun _ k4 => .region (.cv (Cv.grow0 (α := Int) isI) (st (.as (Has.cGr (α := Int))) rfl (nl (.thn (k4 _ _ (.seq fun _ k5 => .seq fun _ k6 => .region (st (.fieldAddr (.t rfl) fld24_0 ty3) rfl (st (.load1 (.t rfl) (i := 1) rfl ty3 rfl) rfl (st (.mv (.cI 0 rfl)) rfl (nl (.thn (k6 _ _ (.cv (Cv.wk (.l [1, 2, 3, 10, 11] rfl)) (.block (.loopF [1, 2, 10] (fun (z : { z : Nat × Gr Int // z.1 ≤ R }) => match z with | ⟨(i, g), hI⟩ => [(11, isI (i : Int)), (3, isGr g (pv (pivL C (mf C (vals xs)) i)).length)]) (fun M => fun (z : { z : Nat × Gr Int // z.1 ≤ R }) => match z with | ⟨(i, g), hI⟩ => [grM isI g (pv (pivL C (mf C (vals xs)) i)), (some b1, cellM [isI (R : Int), isI (C : Int), SlK 2 zc xs])]) (fun (z : { z : Nat × Gr Int // z.1 ≤ R }) => match z with | ⟨(i, g), hI⟩ => R - i) (⟨(0, Gr.nil), Nat.zero_le _⟩) (Cv.mem (.c 11 rfl ?_ (.c 3 rfl ?_ (.l [1, 2, 10] rfl))) ?_) ?_))))))))))))))))))
  ·rfl
  ·rfl
  ·rfl
  rintro ⟨⟨i, g⟩, hI⟩ K7 hK7
  refine .cv (Cv.wk (.l [11, 3, 1, 2, 10] rfl)) (.memEq (M' := [grM isI g (pv (pivL C (mf C (vals xs)) i)), (some b1, cellM [isI (R : Int), isI (C : Int), SlK 2 zc xs])]) rfl ?_)
  simp only [] at hI
  have hpl := pivL_len C (mf C (vals xs)) i
  refine .seq fun _ k8 => .region (st (.ltI (.t rfl) (.t rfl)) rfl (nl (.thn (k8 _ _ (.seq fun _ k9 => .cond (.t rfl) (fun hc2 => ?_) (fun hc2 => ?_))))))
  ·have hc2 := BP.t hc2
   refine .skip (.thn (k9 _ _ (.seq fun _ k10 => .block (.seq fun _ k11 => .region (st (.mv (.t rfl)) rfl (st (.as (.t rfl)) rfl (nl (.thn (k11 _ _ (.seq fun _ k12 => .region (st (.load (.t rfl) (i := 1) rfl ty24 rfl (Ss' := [_, _, _]) rfl) rfl (st (.mv (.t rfl)) rfl (st (.call (hnf_first (i := i) hx hK hR hC hl (by omega)) (.cons (.t rfl) (.cons (.t rfl) .nil))) rfl (st (.as (.t rfl)) rfl (nl (.thn (k12 _ _ (.seq fun _ k13 => .region (st (.mv (.t rfl)) rfl (st (.geI (.t rfl) (.cI 0 rfl)) rfl (nl (.thn (k13 _ _ (.cond (.t rfl) (fun hc3 => ?_) (fun hc3 => ?_)))))))))))))))))))))))))
   ·have hc3 := BP.t hc3
    have hfk := fir_lt hc3
    refine .region (st (.mv (.t rfl)) rfl (st (.eq (.mv (.t rfl)) ((show _ = isI ((fc C ((mf C (vals xs)) i) : Nat) : Int) from isI_eq (if_pos hfk)))) rfl (st (.buildS [isI 0] sl108 ty3 zero3 (fun _ _ => ⟨⟨rfl, by decide, by decide⟩, trivial⟩) rfl rfl (.cons (.t rfl) rfl rfl rfl .nil) rfl (S := SlM isI [((fc C ((mf C (vals xs)) i) : Nat) : Int)]) rfl) rfl (.appendG (f := isI) (u := 0) sl108 ty3 zero3 (fun _ _ => ⟨⟨rfl, by decide, by decide⟩, trivial⟩) (fun _ => inferInstance) by3 (.t rfl) (i := 0) rfl (.t rfl) (by rw [pv_len]; show _ + 1 ≤ _; omega) (by simp) rfl fun gr1 => ?_))))
    refine .memEq (M' := [grM _ _ _, _]) rfl (st (.as (.t rfl)) rfl (nl (.bln (.thn (k10 _ _ (.region (st (.addI (.t rfl) (.cI 1 rfl) (by first | omega | assumption) (by first | omega | assumption)) rfl (st (.mv (.t rfl)) rfl (nl (.thn ?_))))))))))
    refine hK7 (⟨(i + 1, gr1), by show i + 1 ≤ R; omega⟩) _ _ ?_ (Cv.mem (.c 11 rfl ?_ (.c 3 rfl ?_ (.l [1, 2, 10] rfl))) ?_)
    ·show R - (i + 1) < R - i; omega
    ·exact isI_eq (by omega)
    ·exact isGr_eq (by rw [pivL_yes hfk, pv_app, List.length_append])
    ·exact grM_eq (by rw [pivL_yes hfk, pv_app])
   ·have hc3 := BP.f hc3
    have hfk := fir_no hc3
    refine .skip (.bln (.thn (k10 _ _ (.region (st (.addI (.t rfl) (.cI 1 rfl) (by first | omega | assumption) (by first | omega | assumption)) rfl (st (.mv (.t rfl)) rfl (nl (.thn ?_))))))))
    refine hK7 (⟨(i + 1, g), by show i + 1 ≤ R; omega⟩) _ _ ?_ (Cv.mem (.c 11 rfl ?_ (.c 3 rfl ?_ (.l [1, 2, 10] rfl))) ?_)
    ·show R - (i + 1) < R - i; omega
    ·exact isI_eq (by omega)
    ·exact isGr_eq (by rw [pivL_no hfk])
    ·exact grM_eq (by rw [pivL_no hfk])
  ·have hc2 := BP.f hc2
   refine .exit (.the (.the (.blh (.thn (k5 _ _ (.seq fun _ k14 => .cv (Cv.freezeG (t := 3) (i := 0) (ys := pv (pivL C (mf C (vals xs)) i)) rfl rfl rfl) (.memEq (M' := [_]) rfl (.cv (Cv.wk (.l [1, 2, 10, 11, 3, 12] rfl)) (.region (st (.mv (.t rfl)) rfl (st (.as (.t rfl)) rfl (nl (.thn (k14 _ _ (.cv (Cv.wk (.l [2] rfl)) (.ret (rt1 (.inl rfl) Tryz.results82 rfl (.tmp (Has.t' rfl ?_) .nil))))))))))))))))))
   all_goals (exact SlM_eq (by rw [show i = R by omega]))
theorem zmat_alike {r c r2 c2 : Int} {xs ys : List (Bool × List Nat)} : Ctr Tryz.prog 83 [isM r c xs, isM r2 c2 ys] (isB (formB r c xs.length && formB r2 c2 ys.length && decide (r = r2) && decide (c = c2))) := by
 refine Ctr.intro Tryz.func83 rfl (by kernel_rfl) Tryz.ntmps83 rfl fun w0 F0 => .cv (Cv.wk (.l [0, 1] rfl)) (.seq fun _ k1 => .region (.box (.t rfl) rfl fun b1 => .box (.t rfl) rfl fun b2 => st (.as (.cB false)) rfl (nl (.thn (k1 _ _ (.seq fun _ k2 => .region (st (.load (.t rfl) (i := 1) rfl ty24 rfl (Ss' := [_, _, _]) rfl) rfl (st (.call (zmat_Formed) (.cons (.t rfl) .nil)) rfl (st (.mv (.t rfl)) rfl ?_)))))))))
 refine stT rfl rfl (fun hg => have hg' := BP.t hg; OK1.load (.t rfl) (i := 0) rfl ty24 rfl (Ss' := [_, _, _]) rfl) rfl ?_
 refine stT rfl rfl (fun hg => have hg' := BP.t hg; OK1.call (zmat_Formed) (.cons (Has.g rfl hg) .nil)) rfl ?_
 refine st (.pickAnd (.t rfl) (fun h => Has.g rfl h)) rfl (st (.mv (.t rfl)) rfl ?_)
 refine stT rfl rfl (fun hg => have hg' := BP.t hg; OK1.fieldAddr (.t rfl) fld24_0 ty3) rfl ?_
 refine stT rfl rfl (fun hg => have hg' := BP.t hg; OK1.load1 (Has.g rfl hg) (i := 1) rfl ty3 rfl) rfl ?_
 refine stT rfl rfl (fun hg => have hg' := BP.t hg; OK1.fieldAddr (.t rfl) fld24_0 ty3) rfl ?_
 refine stT rfl rfl (fun hg => have hg' := BP.t hg; OK1.load1 (Has.g rfl hg) (i := 0) rfl ty3 rfl) rfl ?_
 refine stT rfl rfl (fun hg => have hg' := BP.t hg; OK1.eqI (Has.g rfl hg) (Has.g rfl hg)) rfl ?_
 refine st (.pickAnd (.t rfl) (fun h => Has.g rfl h)) rfl (st (.mv (.t rfl)) rfl ?_)
 refine stT rfl rfl (fun hg => have hg' := BP.t hg; OK1.fieldAddr (.t rfl) fld24_1 ty3) rfl ?_
 refine stT rfl rfl (fun hg => have hg' := BP.t hg; OK1.load1 (Has.g rfl hg) (i := 1) rfl ty3 rfl) rfl ?_
 refine stT rfl rfl (fun hg => have hg' := BP.t hg; OK1.fieldAddr (.t rfl) fld24_1 ty3) rfl ?_
 refine stT rfl rfl (fun hg => have hg' := BP.t hg; OK1.load1 (Has.g rfl hg) (i := 0) rfl ty3 rfl) rfl ?_
 refine stT rfl rfl (fun hg => have hg' := BP.t hg; OK1.eqI (Has.g rfl hg) (Has.g rfl hg)) rfl ?_
 refine st (.pickAnd (.t rfl) (fun h => Has.g rfl h)) rfl (st (.as (.t rfl)) rfl (nl (.thn (k2 _ _ (.cv (Cv.wk (.l [4] rfl)) (.ret (rt1 (.inl rfl) Tryz.results83 rfl (.tmp (Has.t' rfl ?_) .nil))))))))
 all_goals (rfl)
theorem sl_EqualFuncZ {xs ys : List (Bool × List Nat)} {K : Nat} (hx : Bd (vals xs) K) (hy : Bd (vals ys) K) : Ctr Tryz.prog 84 [SlK 2 zc xs, SlK 2 zc ys, isFun (ι := PR K) Tryz.prog (fun p => [Flat (zc p.1.1), Flat (zc p.1.2)]) (fun p => isB (decide (zv p.1.1.1 p.1.1.2 = zv p.1.2.1 p.1.2.2)))] (isB (decide (vals xs = vals ys))) := by
 refine Ctr.intro Tryz.func84 rfl (by kernel_rfl) Tryz.ntmps84 rfl fun w0 F0 => .cv (Cv.wk (.l [0, 1, 2] rfl)) (.fact (Has.lenLt (Has.t (t := 0) rfl)) fun lt0 => .fact (Has.lenLt (Has.t (t := 1) rfl)) fun lt1 => .seq fun _ k1 => .region (st (.as (.cB false)) rfl (nl (.thn (k1 _ _ (.seq fun _ k2 => .seq fun _ k3 => .region (st (.mv (.t rfl)) rfl (st (.len sl22 (.t rfl)) rfl (st (.mv (.t rfl)) rfl (st (.len sl22 (.t rfl)) rfl (st (.neI (.t rfl) (.t rfl)) rfl (nl (.thn (k3 _ _ (.cond (.t rfl) (fun hc1 => ?_) (fun hc1 => ?_))))))))))))))))
 ·have hc1 := BP.t hc1
  skip
  refine .seq fun _ k4 => .region (st (.as (.cB false)) rfl (nl (.thn (k4 _ _ (.cv (Cv.wk (.l [0, 1, 2, 6] rfl)) (.ret (.thr (rt1 (.inl rfl) Tryz.results84 rfl (.tmp (Has.t' rfl ?_) .nil)))))))))
  all_goals (exact isB_eq (decide_eq_false fun h => by have := congrArg List.length h; rw [vals_len, vals_len] at this; omega).symm)
 ·have hc1 := BP.f hc1
  have hll : xs.length = ys.length := (by omega)
  refine .skip (.thn (k2 _ _ (.cv (Cv.wk (.l [0, 1, 2, 6] rfl)) (.seq fun _ k5 => .seq fun _ k6 => .region (st (.mv (.t rfl)) rfl (st (.len sl22 (.t rfl)) rfl (st (.mv (.cI 0 rfl)) rfl (nl (.thn (k6 _ _ (.block (.loopF [1, 2, 15, 16] (fun (z : { i : Nat // i ≤ xs.length ∧ ∀ j, j < i → cf (vals xs) j = cf (vals ys) j }) => match z with | ⟨i, hI⟩ => [(17, isI (i : Int))]) (fun M => fun (z : { i : Nat // i ≤ xs.length ∧ ∀ j, j < i → cf (vals xs) j = cf (vals ys) j }) => match z with | ⟨i, hI⟩ => M) (fun (z : { i : Nat // i ≤ xs.length ∧ ∀ j, j < i → cf (vals xs) j = cf (vals ys) j }) => match z with | ⟨i, hI⟩ => xs.length - i) (⟨0, Nat.zero_le _, fun j hj => absurd hj (Nat.not_lt_zero _)⟩) (Cv.mem (.c 17 rfl ?_ (.l [1, 2, 15, 16] rfl)) ?_) ?_))))))))))))
  ·rfl
  ·rfl
  rintro ⟨i, hi, hq⟩ K7 hK7
  refine .cv (Cv.wk (.l [17, 1, 2, 15, 16] rfl)) (.seq fun _ k8 => .region (st (.ltI (.t rfl) (.t rfl)) rfl (nl (.thn (k8 _ _ (.seq fun _ k9 => .cond (.t rfl) (fun hc2 => ?_) (fun hc2 => ?_)))))))
  ·have hc2 := BP.t hc2
   refine .skip (.thn (k9 _ _ (.seq fun _ k10 => .block (.seq fun _ k11 => .region (st (.mv (.t rfl)) rfl (st (.ixK sl22 ty31 (.t rfl) (.t rfl) zc_len ⟨by omega, by omega⟩ (getD_some (d := (false, [])) (by first | omega | (simp only [Int.toNat_natCast, List.length_set]; omega)))) rfl ?_))))))
   refine st (.loadP (.t rfl) ty31 rfl (Ss' := [_, _]) rfl) rfl (.alloc [isB false, SlM isU []] zero31 (fun _ _ => ⟨rfl, nilM _ _, trivial⟩) rfl fun b1 => st (.as (.t rfl)) rfl (.store (.t rfl) (.t rfl) (i := 0) rfl ty31 rfl rfl (Ss' := [_, _]) rfl (M' := [(some _, cellM [_, _])]) rfl (nl (.thn (k11 _ _ (.seq fun _ k12 => .region (st (.mv (.t rfl)) rfl (st (.mv (.t rfl)) rfl (st (.ixK sl22 ty31 (.t rfl) (.t rfl) zc_len ⟨by omega, by omega⟩ (getD_some (d := (false, [])) (by first | omega | (simp only [Int.toNat_natCast, List.length_set]; omega)))) rfl ?_)))))))))
   refine st (.loadP (.t rfl) ty31 rfl (Ss' := [_, _]) rfl) rfl (.alloc [isB false, SlM isU []] zero31 (fun _ _ => ⟨rfl, nilM _ _, trivial⟩) rfl fun b2 => .store (.t rfl) (.t rfl) (i := 0) rfl ty31 rfl rfl (Ss' := [_, _]) rfl (M' := [(some _, cellM [_, _]), _]) rfl (nl (.thn (k12 _ _ (.seq fun _ k13 => .region (st (.mv (.t rfl)) rfl (st (.load (.t rfl) (i := 1) rfl ty31 rfl (Ss' := [_, _]) rfl) rfl (st (.load (.t rfl) (i := 0) rfl ty31 rfl (Ss' := [_, _]) rfl) rfl (st (.callV ⟨(xs.getD i (false, []), ys.getD i (false, [])), hx.raw i, hy.raw i⟩ (.t rfl) (.cons (.t rfl) (.cons (.t rfl) .nil))) rfl (st (.not (.t rfl)) rfl (nl (.thn (k13 _ _ (.cond (.t rfl) (fun hc3 => ?_) (fun hc3 => ?_)))))))))))))))
   ·have hc3 := BP.t hc3
    have HQ : ¬ cf (vals xs) i = cf (vals ys) i := (by rw [cf_vals, cf_vals]; simpa using hc3)
    refine .seq fun _ k14 => .region (st (.as (.cB false)) rfl (nl (.thn (k14 _ _ (.ret (.blr (.thr (.thr (.blr (.thr (rt1 (.inl rfl) Tryz.results84 rfl (.tmp (Has.t' rfl ?_) .nil))))))))))))
    all_goals (exact isB_eq (decide_eq_false fun h => HQ (by rw [h])).symm)
   ·have hc3 := BP.f hc3
    have HQ : cf (vals xs) i = cf (vals ys) i := (by rw [cf_vals, cf_vals]; simpa using hc3)
    refine .skip (.bln (.thn (k10 _ _ (.region (st (.addI (.t rfl) (.cI 1 rfl) (by first | omega | assumption) (by first | omega | assumption)) rfl (st (.mv (.t rfl)) rfl (nl (.thn ?_))))))))
    refine hK7 (⟨i + 1, by omega, fun j hj => by rcases Nat.lt_or_ge j i with h | h; exact hq j h; obtain rfl : j = i := (by omega); exact HQ⟩) _ _ ?_ (Cv.trans (Cv.drop ((.cons _ (.cons _ .slnil)))) (Cv.mem (.c 17 rfl ?_ (.l [1, 2, 15, 16] rfl)) ?_))
    ·show xs.length - (i + 1) < xs.length - i; omega
    ·exact isI_eq (by omega)
    ·rfl
  ·have hc2 := BP.f hc2
   refine .exit (.the (.the (.blh (.thn (k5 _ _ (.cv (Cv.wk .nil) (.seq fun _ k15 => .region (st (.as (.cB true)) rfl (nl (.thn (k15 _ _ (.ret (rt1 (.inl rfl) Tryz.results84 rfl (.tmp (Has.t' rfl ?_) .nil))))))))))))))
   all_goals (exact isB_eq (decide_eq_true (ext_cf (by rw [vals_len, vals_len]; exact hll) fun j hj => hq j (by rw [vals_len] at hj; omega))).symm)
theorem zmat_Same {r c r2 c2 : Int} {xs ys : List (Bool × List Nat)} {K : Nat} (hx : Bd (vals xs) K) (hy : Bd (vals ys) K) (hK : K ≤ 4000000000) : Ctr Tryz.prog 21 [isM r c xs, isM r2 c2 ys] (isB (formB r c xs.length && formB r2 c2 ys.length && decide (r = r2) && decide (c = c2) && decide (vals xs = vals ys))) := by
 refine Ctr.intro Tryz.func21 rfl (by kernel_rfl) Tryz.ntmps21 rfl fun w0 F0 => .cv (Cv.wk (.l [0, 1] rfl)) (.seq fun _ k1 => .region (.box (.t rfl) rfl fun b1 => .box (.t rfl) rfl fun b2 => st (.as (.cB false)) rfl (nl (.thn (k1 _ _ (.seq fun _ k2 => .region (st (.load (.t rfl) (i := 1) rfl ty24 rfl (Ss' := [_, _, _]) rfl) rfl (st (.load (.t rfl) (i := 0) rfl ty24 rfl (Ss' := [_, _, _]) rfl) rfl (st (.call (zmat_alike) (.cons (.t rfl) (.cons (.t rfl) .nil))) rfl (st (.mv (.t rfl)) rfl ?_))))))))))
 refine stT rfl rfl (fun hg => have hg' := BP.t hg; OK1.fieldAddr (.t rfl) fld24_2 ty22) rfl ?_
 refine stT rfl rfl (fun hg => have hg' := BP.t hg; OK1.load1 (Has.g rfl hg) (i := 1) rfl ty22 rfl) rfl ?_
 refine stT rfl rfl (fun hg => have hg' := BP.t hg; OK1.fieldAddr (.t rfl) fld24_2 ty22) rfl ?_
 refine stT rfl rfl (fun hg => have hg' := BP.t hg; OK1.load1 (Has.g rfl hg) (i := 0) rfl ty22 rfl) rfl ?_
 refine stT rfl rfl (fun hg => have hg' := BP.t hg; OK1.call (sl_EqualFuncZ hx hy) (.cons (Has.g rfl hg) (.cons (Has.g rfl hg) (.cons (Has.fn (fun i => zint_Same (by have := i.2.1; omega) (by have := i.2.2; omega))) .nil)))) rfl ?_
 refine st (.pickAnd (.t rfl) (fun h => Has.g rfl h)) rfl (st (.as (.t rfl)) rfl (nl (.thn (k2 _ _ (.cv (Cv.wk (.l [4] rfl)) (.ret (rt1 (.inl rfl) Tryz.results21 rfl (.tmp (Has.t' rfl ?_) .nil))))))))
 all_goals (rfl)
theorem zmat_Rows_1 {r : Int} {C i k lo : Nat} {xs : List (Bool × List Nat)} (hxm : xs.length ≤ 4096) (hlo : lo + i ≤ 100) (hp : (lo + i) * C + k < xs.length) : Ctr Tryz.prog 154 [isI (i : Int), isI (k : Int), ptM r (C : Int) xs, PtrL [isI (lo : Int)]] (Flat (zc (xs.getD ((lo + i) * C + k) (false, [])))) := by
 refine Ctr.intro Tryz.func154 rfl (by kernel_rfl) Tryz.ntmps154 rfl fun w0 F0 => .cv (Cv.wk (.l [0, 1, 2, 3] rfl)) (.fact (Has.rngI (Has.t (t := 0) rfl)) fun lt0 => .fact (Has.rngI (Has.t (t := 1) rfl)) fun lt1 => .seq fun _ k1 => .region (.alloc [isB false, SlM isU []] zero31 (fun _ _ => ⟨rfl, nilM _ _, trivial⟩) rfl fun b1 => nl (.thn (k1 _ _ (.seq fun _ k2 => .region (st (.loadP (.t rfl) ty24 rfl (Ss' := [_, _, _]) rfl) rfl (st (.loadP1 (.t rfl) ty3) rfl (st (.mv (.t rfl)) rfl (st (.eq (.addI (.t rfl) (.t rfl) (by first | omega | assumption) (by first | omega | assumption)) ((show isI _ = isI ((lo + i : Nat) : Int) from isI_eq (by omega)))) rfl (st (.mv (.t rfl)) rfl (st (.call (zmat_get (i := lo + i) (k := k) hxm hp) (.cons (.t rfl) (.cons (.t rfl) (.cons (.t rfl) .nil)))) rfl (.store (.t rfl) (.t rfl) (i := 0) rfl ty31 rfl rfl (Ss' := [_, _]) rfl (M' := [(some _, cellM [_, _])]) rfl (nl (.thn (k2 _ _ (.cv (Cv.wk (.l [6] rfl)) (.ret (rt1 (.inl rfl) Tryz.results154 rfl (.cell rfl (i := 0) rfl ty31 rfl ?_ .nil)))))))))))))))))))
 all_goals (rfl)
theorem zmat_Rows {R C K lo hi : Nat} {xs : List (Bool × List Nat)} (hx : Bd (vals xs) K) (hK : K ≤ 400000000) (hR : R ≤ 64) (hC : C ≤ 64) (hl : xs.length = R * C) (h1 : lo ≤ hi) (h2 : hi ≤ R) : Ctr Tryz.prog 81 [isM (R : Int) (C : Int) xs, isI (lo : Int), isI (hi : Int)] (isTup [isMz ((hi - lo : Nat)) C (tab ((hi - lo) * C) C fun i k => cf (vals xs) ((lo + i) * C + k)), isI 0]) := by
 refine Ctr.intro Tryz.func81 rfl (by kernel_rfl) Tryz.ntmps81 rfl fun w0 F0 => .cv (Cv.wk (.l [0, 1, 2] rfl)) (.fact (Has.rngI (Has.t (t := 1) rfl)) fun lt1 => .fact (Has.rngI (Has.t (t := 2) rfl)) fun lt2 => ?_)
 have hRC := side_le hR hC
 have hfo := formB_true hR hC hl
 refine .seq fun _ k1 => .region (.box (.t rfl) rfl fun b1 => .box (.t rfl) rfl fun b2 => .alloc [isI 0, isI 0, nilS] zero24 (fun _ _ => ⟨⟨rfl, by decide, by decide⟩, ⟨rfl, by decide, by decide⟩, rfl, trivial⟩) rfl fun b3 => st (.as (.cI 0 rfl)) rfl (nl (.thn (k1 _ _ (.seq fun _ k2 => .block (.seq fun _ k3 => .region (st (.load (.t rfl) (i := 2) rfl ty24 rfl (Ss' := [_, _, _]) rfl) rfl (st (.eq (.call (zmat_Formed) (.cons (.t rfl) .nil)) ((show isB _ = isB true from isB_eq (hfo)))) rfl (st (.not (.t rfl)) rfl (st (.as (.t rfl)) rfl (nl (.thn (k3 _ _ (.cv (Cv.wk (.l [2, 3, 4, 6, 7, 8] rfl)) (.cond (.t rfl) (fun hc1 => ?_) (fun hc1 => ?_))))))))))))))))
 ·have hc1 := BP.t hc1
  exfalso; simp at hc1
 ·have hc1 := BP.f hc1
  refine .seq fun _ k4 => .region (st (.load1 (.t rfl) (i := 1) rfl ty3 rfl) rfl (st (.ltI (.t rfl) (.cI 0 rfl)) rfl (st (.mv (.t rfl)) rfl ?_)))
  refine stF rfl rfl (fun hg => have hg' := BP.t hg; OK1.load1 (.t rfl) (i := 1) rfl ty3 rfl) rfl ?_
  refine stF rfl rfl (fun hg => have hg' := BP.t hg; OK1.mv (.t rfl)) rfl ?_
  refine stF rfl rfl (fun hg => have hg' := BP.t hg; OK1.gtI (Has.g rfl hg) (Has.g rfl hg)) rfl ?_
  refine st (.pickOr (.t rfl) (fun h => Has.g rfl (ng h))) rfl (st (.mv (.t rfl)) rfl ?_)
  refine stF rfl rfl (fun hg => have hg' := BP.t hg; OK1.mv (.t rfl)) rfl ?_
  refine stF rfl rfl (fun hg => have hg' := BP.t hg; OK1.fieldAddr (.t rfl) fld24_0 ty3) rfl ?_
  refine stF rfl rfl (fun hg => have hg' := BP.t hg; OK1.load1 (Has.g rfl hg) (i := 2) rfl ty3 rfl) rfl ?_
  refine stF rfl rfl (fun hg => have hg' := BP.t hg; OK1.gtI (Has.g rfl hg) (Has.g rfl hg)) rfl ?_
  refine st (.pickOr (.t rfl) (fun h => Has.g rfl (ng h))) rfl (st (.as (.t rfl)) rfl (nl (.thn (k4 _ _ (.cv (Cv.wk (.l [2, 3, 4, 6, 7, 13] rfl)) (.cond (.t rfl) (fun hc2 => ?_) (fun hc2 => ?_)))))))
  ·have hc2 := BP.t hc2
   exfalso; omega
  ·have hc2 := BP.f hc2
   refine .skip (.bln (.thn (k2 _ _ (.seq fun _ k5 => .region (st (.mv (.t rfl)) rfl (st (.load1 (.t rfl) (i := 1) rfl ty3 rfl) rfl (st (.eq (.subI (.t rfl) (.t rfl) (by first | omega | assumption) (by first | omega | assumption)) ((show isI _ = isI ((hi - lo : Nat) : Int) from isI_eq (by omega)))) rfl (st (.fieldAddr (.t rfl) fld24_1 ty3) rfl (st (.load1 (.t rfl) (i := 2) rfl ty3 rfl) rfl (.cv (Cv.freezeBox (t := 3) (i := 2) rfl rfl rfl) (.memEq (M' := [_, _]) rfl (.cv (Cv.wk (.l [2, 3, 4, 6, 7, 13, 28, 29, 30, 32] rfl)) (.cv (Cv.freezeBox (t := 4) (i := 1) rfl rfl rfl) (.memEq (M' := [_]) rfl (.cv (Cv.wk (.l [2, 3, 4, 6, 7, 13, 28, 29, 30, 32] rfl)) (st (.makeFn (ι := PI (hi - lo) C) (As := fun p => [isI (p.1.1 : Int), isI (p.1.2 : Int)]) (R := fun p => Flat (zc (xs.getD ((lo + p.1.1) * C + p.1.2) (false, [])))) (fun p => zmat_Rows_1 (by omega) (by have := p.2.1; omega) (by have := place_lt (show lo + p.1.1 < R by have := p.2.1; omega) p.2.2; omega)) .nil (.cons (.t rfl) (.cons (.t rfl) .nil))) rfl ?_))))))))))))))))
   refine st (.call (zmat_made (f := fun i k => xs.getD ((lo + i) * C + k) (false, [])) (by omega) hC (fun i k _ _ => Nat.le_trans (hx.raw _) (by omega))) (.cons (.t rfl) (.cons (.t rfl) (.cons (.t rfl) .nil)))) rfl (.store (.t rfl) (.t rfl) (i := 0) rfl ty24 rfl rfl (Ss' := [_, _, _]) rfl (M' := [(some _, cellM [_, _, _])]) rfl (st (.as (.cI 0 rfl)) rfl (nl (.thn (k5 _ _ (.cv (Cv.wk (.l [6, 7] rfl)) (.ret (rtN (.inl rfl) Tryz.results81 rfl rfl (.cell rfl (i := 0) rfl ty24 rfl ?_ (.tmp (Has.t' rfl ?_) .nil))))))))))
   ·exact isMz_eq (by congr 1; funext i k; rw [cf_vals])
   ·rfl
theorem zmat_Stack_1 {R R' C i k : Nat} {xs ys : List (Bool × List Nat)} (hxm : xs.length ≤ 4096) (hym : ys.length ≤ 4096) (hxl : xs.length = R * C) (hyl : ys.length = R' * C) (hi : i < R + R') (hk : k < C) : Ctr Tryz.prog 78 [isI (i : Int), isI (k : Int), ptM (R : Int) (C : Int) xs, ptM (R' : Int) (C : Int) ys] (Flat (zc (if i < R then xs.getD (i * C + k) (false, []) else ys.getD ((i - R) * C + k) (false, [])))) := by
 refine Ctr.intro Tryz.func78 rfl (by kernel_rfl) Tryz.ntmps78 rfl fun w0 F0 => .cv (Cv.wk (.l [0, 1, 2, 3] rfl)) (.fact (Has.rngI (Has.t (t := 0) rfl)) fun lt0 => .fact (Has.rngI (Has.t (t := 1) rfl)) fun lt1 => .seq fun _ k1 => .region (.alloc [isB false, SlM isU []] zero31 (fun _ _ => ⟨rfl, nilM _ _, trivial⟩) rfl fun b1 => nl (.thn (k1 _ _ (.seq fun _ k2 => .seq fun _ k3 => .region (st (.mv (.t rfl)) rfl (st (.fieldAddrP (.t rfl) fld24_0 ty3 (Ss' := [_, _, _]) rfl) rfl (st (.loadP1 (.t rfl) ty3) rfl (st (.ltI (.t rfl) (.t rfl)) rfl (nl (.thn (k3 _ _ (.cond (.t rfl) (fun hc1 => ?_) (fun hc1 => ?_))))))))))))))
 ·have hc1 := BP.t hc1
  refine .seq fun _ k4 => .region (st (.loadP (.t rfl) ty24 rfl (Ss' := [_, _, _]) rfl) rfl (st (.mv (.t rfl)) rfl (st (.mv (.t rfl)) rfl (st (.call (zmat_get (i := i) (k := k) hxm (by have := place_lt (show i < R by omega) hk; omega)) (.cons (.t rfl) (.cons (.t rfl) (.cons (.t rfl) .nil)))) rfl ?_))))
  refine .store (.t rfl) (.t rfl) (i := 0) rfl ty31 rfl rfl (Ss' := [_, _]) rfl (M' := [(some _, cellM [_, _])]) rfl (nl (.thn (k4 _ _ (.cv (Cv.wk (.l [0, 1, 2, 3, 6] rfl)) (.ret (.thr (rt1 (.inl rfl) Tryz.results78 rfl (.cell rfl (i := 0) rfl ty31 rfl ?_ .nil))))))))
  all_goals (rw [if_pos (by omega)])
 ·have hc1 := BP.f hc1
  refine .skip (.thn (k2 _ _ (.seq fun _ k5 => .region (st (.loadP (.t rfl) ty24 rfl (Ss' := [_, _, _]) rfl) rfl (st (.mv (.t rfl)) rfl (st (.fieldAddrP (.t rfl) fld24_0 ty3 (Ss' := [_, _, _]) rfl) rfl (st (.loadP1 (.t rfl) ty3) rfl (st (.eq (.subI (.t rfl) (.t rfl) (by first | omega | assumption) (by first | omega | assumption)) ((show isI _ = isI ((i - R : Nat) : Int) from isI_eq (by omega)))) rfl (st (.mv (.t rfl)) rfl (st (.call (zmat_get (i := i - R) (k := k) hym (by have := place_lt (show i - R < R' by omega) hk; omega)) (.cons (.t rfl) (.cons (.t rfl) (.cons (.t rfl) .nil)))) rfl ?_))))))))))
  refine .store (.t rfl) (.t rfl) (i := 0) rfl ty31 rfl rfl (Ss' := [_, _]) rfl (M' := [(some _, cellM [_, _])]) rfl (nl (.thn (k5 _ _ (.cv (Cv.wk (.l [6] rfl)) (.ret (rt1 (.inl rfl) Tryz.results78 rfl (.cell rfl (i := 0) rfl ty31 rfl ?_ .nil)))))))
  all_goals (rw [if_neg (by omega)])
theorem zmat_Stack {R R' C K : Nat} {xs ys : List (Bool × List Nat)} (hx : Bd (vals xs) K) (hy : Bd (vals ys) K) (hK : K ≤ 400000000) (hR : R + R' ≤ 64) (hC : C ≤ 64) (hl : xs.length = R * C) (hyl : ys.length = R' * C) : Ctr Tryz.prog 18 [isM (R : Int) (C : Int) xs, isM (R' : Int) (C : Int) ys] (isTup [isMz ((R + R' : Nat)) C (stkL R R' C (vals xs) (vals ys)), isI 0]) := by
 refine Ctr.intro Tryz.func18 rfl (by kernel_rfl) Tryz.ntmps18 rfl fun w0 F0 => .cv (Cv.wk (.l [0, 1] rfl)) ?_
 have h1 := side_le (show R ≤ 64 by omega) hC
 have h2 := side_le (show R' ≤ 64 by omega) hC
 have hfo := formB_true (show R ≤ 64 by omega) hC hl
 have hfo' := formB_true (show R' ≤ 64 by omega) hC hyl
 refine .seq fun _ k1 => .region (.box (.t rfl) rfl fun b1 => .box (.t rfl) rfl fun b2 => .alloc [isI 0, isI 0, nilS] zero24 (fun _ _ => ⟨⟨rfl, by decide, by decide⟩, ⟨rfl, by decide, by decide⟩, rfl, trivial⟩) rfl fun b3 => st (.as (.cI 0 rfl)) rfl (nl (.thn (k1 _ _ (.seq fun _ k2 => .block (.seq fun _ k3 => .region (st (.load (.t rfl) (i := 2) rfl ty24 rfl (Ss' := [_, _, _]) rfl) rfl (st (.eq (.call (zmat_Formed) (.cons (.t rfl) .nil)) ((show isB _ = isB true from isB_eq (hfo)))) rfl (st (.not (.t rfl)) rfl (st (.mv (.t rfl)) rfl ?_))))))))))
 refine stF rfl rfl (fun hg => have hg' := BP.t hg; OK1.load (.t rfl) (i := 1) rfl ty24 rfl (Ss' := [_, _, _]) rfl) rfl ?_
 refine stF rfl rfl (fun hg => have hg' := BP.t hg; OK1.eq (.call (zmat_Formed) (.cons (Has.g rfl hg) .nil)) ((show isB _ = isB true from isB_eq (hfo')))) rfl ?_
 refine stF rfl rfl (fun hg => have hg' := BP.t hg; OK1.not (Has.g rfl hg)) rfl ?_
 refine st (.pickOr (.t rfl) (fun h => Has.g rfl (ng h))) rfl (st (.mv (.t rfl)) rfl ?_)
 refine stF rfl rfl (fun hg => have hg' := BP.t hg; OK1.fieldAddr (.t rfl) fld24_1 ty3) rfl ?_
 refine stF rfl rfl (fun hg => have hg' := BP.t hg; OK1.load1 (Has.g rfl hg) (i := 2) rfl ty3 rfl) rfl ?_
 refine stF rfl rfl (fun hg => have hg' := BP.t hg; OK1.fieldAddr (.t rfl) fld24_1 ty3) rfl ?_
 refine stF rfl rfl (fun hg => have hg' := BP.t hg; OK1.load1 (Has.g rfl hg) (i := 1) rfl ty3 rfl) rfl ?_
 refine stF rfl rfl (fun hg => have hg' := BP.t hg; OK1.neI (Has.g rfl hg) (Has.g rfl hg)) rfl ?_
 refine st (.pickOr (.t rfl) (fun h => Has.g rfl (ng h))) rfl (st (.as (.t rfl)) rfl (nl (.thn (k3 _ _ (.cv (Cv.wk (.l [2, 3, 4, 5, 6] rfl)) (.cond (.t rfl) (fun hc1 => ?_) (fun hc1 => ?_)))))))
 ·have hc1 := BP.t hc1
  exfalso; simp at hc1
 ·have hc1 := BP.f hc1
  refine .seq fun _ k4 => .region (st (.fieldAddr (.t rfl) fld24_0 ty3) rfl (st (.load1 (.t rfl) (i := 2) rfl ty3 rfl) rfl (st (.fieldAddr (.t rfl) fld24_0 ty3) rfl (st (.load1 (.t rfl) (i := 1) rfl ty3 rfl) rfl (st (.eq (.addI (.t rfl) (.t rfl) (by first | omega | assumption) (by first | omega | assumption)) ((show isI _ = isI ((R + R' : Nat) : Int) from isI_eq (by omega)))) rfl (st (.call (zmat_side) (.cons (.t rfl) .nil)) rfl (st (.not (.t rfl)) rfl (st (.as (.t rfl)) rfl (nl (.thn (k4 _ _ (.cv (Cv.wk (.l [2, 3, 4, 5, 23] rfl)) (.cond (.t rfl) (fun hc2 => ?_) (fun hc2 => ?_))))))))))))))
  ·have hc2 := BP.t hc2
   exfalso; simp at hc2; omega
  ·have hc2 := BP.f hc2
   refine .skip (.bln (.thn (k2 _ _ (.seq fun _ k5 => .region (st (.fieldAddr (.t rfl) fld24_0 ty3) rfl (st (.load1 (.t rfl) (i := 2) rfl ty3 rfl) rfl (st (.fieldAddr (.t rfl) fld24_0 ty3) rfl (st (.load1 (.t rfl) (i := 1) rfl ty3 rfl) rfl (st (.eq (.addI (.t rfl) (.t rfl) (by first | omega | assumption) (by first | omega | assumption)) ((show isI _ = isI ((R + R' : Nat) : Int) from isI_eq (by omega)))) rfl (st (.fieldAddr (.t rfl) fld24_1 ty3) rfl (st (.load1 (.t rfl) (i := 2) rfl ty3 rfl) rfl (.cv (Cv.freezeBox (t := 2) (i := 2) rfl rfl rfl) (.memEq (M' := [_, _]) rfl (.cv (Cv.wk (.l [2, 3, 4, 5, 23, 33, 34, 35, 36, 38] rfl)) (.cv (Cv.freezeBox (t := 3) (i := 1) rfl rfl rfl) (.memEq (M' := [_]) rfl (.cv (Cv.wk (.l [2, 3, 4, 5, 23, 33, 35, 36, 38] rfl)) (st (.makeFn (ι := PI (R + R') C) (As := fun p => [isI (p.1.1 : Int), isI (p.1.2 : Int)]) (R := fun p => Flat (zc (if p.1.1 < R then xs.getD (p.1.1 * C + p.1.2) (false, []) else ys.getD ((p.1.1 - R) * C + p.1.2) (false, [])))) (fun p => zmat_Stack_1 (by omega) (by omega) hl hyl p.2.1 p.2.2) .nil (.cons (.t rfl) (.cons (.t rfl) .nil))) rfl ?_))))))))))))))))))
   refine st (.call (zmat_made (f := fun i k => if i < R then xs.getD (i * C + k) (false, []) else ys.getD ((i - R) * C + k) (false, [])) (by omega) hC (fun i k _ _ => by split; exact Nat.le_trans (hx.raw _) (by omega); exact Nat.le_trans (hy.raw _) (by omega))) (.cons (.t rfl) (.cons (.t rfl) (.cons (.t rfl) .nil)))) rfl ?_
   refine .store (.t rfl) (.t rfl) (i := 0) rfl ty24 rfl rfl (Ss' := [_, _, _]) rfl (M' := [(some _, cellM [_, _, _])]) rfl (st (.as (.cI 0 rfl)) rfl (nl (.thn (k5 _ _ (.cv (Cv.wk (.l [4, 5] rfl)) (.ret (rtN (.inl rfl) Tryz.results18 rfl rfl (.cell rfl (i := 0) rfl ty24 rfl ?_ (.tmp (Has.t' rfl ?_) .nil)))))))))
   ·exact isMz_eq (by unfold stkL; congr 1; funext i k; rw [cf_vals, cf_vals]; split <;> rfl)
   ·rfl
theorem hnf_LatticeQ {R C K : Nat} {xs : List (Bool × List Nat)} (hx : Bd (vals xs) K) (hK : hq R (K + 4) (hrk R C (vals xs)) * (R + 2) ≤ 80000000) (hR : R ≤ 64) (hC : C ≤ 64) (hl : xs.length = R * C) : Ctr Tryz.prog 19 [isM (R : Int) (C : Int) xs] (isTup [isMz (pivL C (mf C (hL R C (vals xs))) R).length C (latL R C (vals xs)), isI 0]) := by
 refine Ctr.intro Tryz.func19 rfl (by kernel_rfl) Tryz.ntmps19 rfl fun w0 F0 => .cv (Cv.wk (.l [0] rfl)) ?_
 have hpl := pivL_len C (mf C (hL R C (vals xs))) R
 obtain ⟨P, hP⟩ : ∃ P, P = (pivL C (mf C (hL R C (vals xs))) R).length := ⟨_, rfl⟩
 rw [← hP] at hpl
 have hlat : latL R C (vals xs) = tab (P * C) C fun i k => cf (hL R C (vals xs)) ((0 + i) * C + k) := by rw [hP]; rfl
 rw [← hP]
 obtain ⟨Hl, hHl⟩ : ∃ Hl, Hl = (hL R C (vals xs)) := ⟨_, rfl⟩
 have hLl : (Hl.map nz).length = R * C := by rw [List.length_map, hHl]; exact hL_len hx
 have hLb : Bd (vals (Hl.map nz)) 80000000 := by rw [vals_nz, hHl]; exact (hL_bq hx).mono (Nat.le_trans (Nat.le_mul_of_pos_right _ (Nat.succ_pos (R + 1))) hK)
 rw [← hHl] at hlat hP
 refine .seq fun _ k1 => .region (.box (.t rfl) rfl fun b1 => .alloc [isI 0, isI 0, nilS] zero24 (fun _ _ => ⟨⟨rfl, by decide, by decide⟩, ⟨rfl, by decide, by decide⟩, rfl, trivial⟩) rfl fun b2 => st (.as (.cI 0 rfl)) rfl (nl (.thn (k1 _ _ (.seq fun _ k2 => .region (st (.load (.t rfl) (i := 1) rfl ty24 rfl (Ss' := [_, _, _]) rfl) rfl ?_))))))
 refine st (.eq (.call (hnf_HermiteQ hx hK hR hC hl) (.cons (.t rfl) .nil)) ((show _ = isTup [isMz R C Hl, isMz R R (uL R C (vals xs)), isI 0] from by rw [hHl]; rfl))) rfl ?_
 refine st (.mv (.t rfl)) rfl (st (.ext (.t rfl) rfl) rfl (st (.ext (.t rfl) rfl) rfl (st (.ext (.t rfl) rfl) rfl (.alloc [isI 0, isI 0, nilS] zero24 (fun _ _ => ⟨⟨rfl, by decide, by decide⟩, ⟨rfl, by decide, by decide⟩, rfl, trivial⟩) rfl fun b3 => .alloc [isI 0, isI 0, nilS] zero24 (fun _ _ => ⟨⟨rfl, by decide, by decide⟩, ⟨rfl, by decide, by decide⟩, rfl, trivial⟩) rfl fun b4 => .store (.t rfl) (.t rfl) (i := 1) rfl ty24 rfl rfl (Ss' := [_, _, _]) rfl (M' := [_, (some _, cellM [_, _, _]), _, _]) rfl (.store (.t rfl) (.t rfl) (i := 0) rfl ty24 rfl rfl (Ss' := [_, _, _]) rfl (M' := [(some _, cellM [_, _, _]), _, _, _]) rfl (st (.as (.t rfl)) rfl (nl (.thn (k2 _ _ (.cv (Cv.wk (.l [2, 3, 4, 6] rfl)) (.seq fun _ k3 => .seq fun _ k4 => .region (st (.mv (.t rfl)) rfl (st (.neI (.t rfl) (.cI 0 rfl)) rfl (nl (.thn (k4 _ _ (.cond (.t rfl) (fun hc1 => ?_) (fun hc1 => ?_))))))))))))))))))
 ·have hc1 := BP.t hc1
  exact absurd rfl hc1
 ·have hc1 := BP.f hc1
  skip
  refine .skip (.thn (k3 _ _ (.seq fun _ k5 => .dr (.s [] rfl rfl rfl (.o rfl (.load (.t rfl) (i := 1) rfl ty24 rfl (Ss' := [_, _, _]) rfl)) (.s [] rfl rfl rfl (.o rfl (.load (.t rfl) (i := 1) rfl ty24 rfl (Ss' := [_, _, _]) rfl)) (.s [18] rfl rfl rfl (.o rfl (.call (hnf_Pivots (K := 80000000) hLb (by decide) hR hC hLl) (.cons (.t rfl) .nil))) (.s [19] rfl rfl rfl (.o rfl (.eq (.len sl108 (.t rfl)) ((show isI _ = isI (P : Int) from isI_eq (by rw [pv_len, vals_nz, hP]))))) (.s [17, 20] rfl rfl rfl (.o rfl (.call (zmat_Rows (K := 80000000) (lo := 0) (hi := P) hLb (by decide) hR hC hLl (Nat.zero_le _) hpl) (.cons (.t rfl) (.cons (.cI 0 rfl) (.cons (.t rfl) .nil))))) (.s [21] rfl rfl rfl (.o rfl (.ext (.t rfl) rfl)) (.s [21] rfl rfl rfl (.o rfl (.ext (.t rfl) rfl)) (.fin (n := 7) mixed (by kernel_rfl) (by kernel_rfl) (by kernel_rfl) (.cv (Cv.wk (.l [2, 3, 22, 23] rfl)) (.store (.t rfl) (.t rfl) (i := 2) rfl ty24 rfl rfl (Ss' := [_, _, _]) rfl (M' := [_, _, (some _, cellM [_, _, _]), _]) rfl (st (.as (.t rfl)) rfl (nl (.thn (k5 _ _ (.ret (rtN (.inl rfl) Tryz.results19 rfl rfl (.cell rfl (i := 2) rfl ty24 rfl ?_ (.tmp (Has.t' rfl ?_) .nil)))))))))))))))))))))
  ·exact (isMz_eq (by rw [vals_nz, hlat]; rfl))
  ·rfl
theorem hnf_Is {R C K : Nat} {xs : List (Bool × List Nat)} (hx : Bd (vals xs) K) (hK : K ≤ 400000000) (hR : R ≤ 64) (hC : C ≤ 64) (hl : xs.length = R * C) : Ctr Tryz.prog 72 [isM (R : Int) (C : Int) xs] (isB (hermB R C (mf C (vals xs)))) := by
 refine Ctr.intro Tryz.func72 rfl (by kernel_rfl) Tryz.ntmps72 rfl fun w0 F0 => .cv (Cv.wk (.l [0] rfl)) ?_
 have hRC := side_le hR hC
 have hfo := formB_true hR hC hl
 refine .seq fun _ k1 => .region (.box (.t rfl) rfl fun b1 => st (.as (.cB false)) rfl (nl (.thn (k1 _ _ (.seq fun _ k2 => .seq fun _ k3 => .region (st (.load (.t rfl) (i := 0) rfl ty24 rfl (Ss' := [_, _, _]) rfl) rfl (st (.eq (.call (zmat_Formed) (.cons (.t rfl) .nil)) ((show isB _ = isB true from isB_eq (hfo)))) rfl (st (.not (.t rfl)) rfl (nl (.thn (k3 _ _ (.cond (.t rfl) (fun hc1 => ?_) (fun hc1 => ?_)))))))))))))
 ·have hc1 := BP.t hc1
  exfalso; simp at hc1
 ·have hc1 := BP.f hc1
  refine .skip (.thn (k2 _ _ (.seq fun _ k4 => .region (st (.as (.cI (-1) rfl)) rfl (st (.as (.cB false)) rfl (nl (.thn (k4 _ _ (.seq fun _ k5 => .seq fun _ k6 => .region (st (.fieldAddr (.t rfl) fld24_0 ty3) rfl (st (.load1 (.t rfl) (i := 0) rfl ty3 rfl) rfl (st (.mv (.cI 0 rfl)) rfl (nl (.thn (k6 _ _ (.cv (Cv.wk (.l [1, 2, 3, 4, 14, 15] rfl)) (.block (.loopF [1, 14] (fun (z : { z : Nat × Int × Bool // z.1 ≤ R ∧ HermF z.1 C (mf C (vals xs)) ∧ (z.2.2 = true → 0 < z.1 ∧ fc C ((mf C (vals xs)) (z.1 - 1)) = C) ∧ (z.2.2 = false → z.2.1 = if z.1 = 0 then -1 else ((fc C ((mf C (vals xs)) (z.1 - 1)) : Nat) : Int)) }) => match z with | ⟨(i, last, ended), hI⟩ => [(15, isI (i : Int)), (3, isI last), (4, isB ended)]) (fun M => fun (z : { z : Nat × Int × Bool // z.1 ≤ R ∧ HermF z.1 C (mf C (vals xs)) ∧ (z.2.2 = true → 0 < z.1 ∧ fc C ((mf C (vals xs)) (z.1 - 1)) = C) ∧ (z.2.2 = false → z.2.1 = if z.1 = 0 then -1 else ((fc C ((mf C (vals xs)) (z.1 - 1)) : Nat) : Int)) }) => match z with | ⟨(i, last, ended), hI⟩ => M) (fun (z : { z : Nat × Int × Bool // z.1 ≤ R ∧ HermF z.1 C (mf C (vals xs)) ∧ (z.2.2 = true → 0 < z.1 ∧ fc C ((mf C (vals xs)) (z.1 - 1)) = C) ∧ (z.2.2 = false → z.2.1 = if z.1 = 0 then -1 else ((fc C ((mf C (vals xs)) (z.1 - 1)) : Nat) : Int)) }) => match z with | ⟨(i, last, ended), hI⟩ => R - i) (⟨(0, -1, false), Nat.zero_le _, fun i hi => absurd hi (Nat.not_lt_zero _), fun h => (by cases h), fun _ => rfl⟩) (Cv.mem (.c 15 rfl ?_ (.c 3 rfl ?_ (.c 4 rfl ?_ (.l [1, 14] rfl)))) ?_) ?_))))))))))))))))))
  ·rfl
  ·rfl
  ·rfl
  ·rfl
  rintro ⟨⟨i, last, ended⟩, hI⟩ K7 hK7
  refine .cv (Cv.wk (.l [15, 3, 4, 1, 14] rfl)) ?_
  simp only [] at hI
  obtain ⟨hi, hF, hE1, hE2⟩ := hI
  refine .seq fun _ k8 => .region (st (.ltI (.t rfl) (.t rfl)) rfl (nl (.thn (k8 _ _ (.seq fun _ k9 => .cond (.t rfl) (fun hc2 => ?_) (fun hc2 => ?_))))))
  ·have hc2 := BP.t hc2
   refine .skip (.thn (k9 _ _ (.seq fun _ k10 => .block (.seq fun _ k11 => .region (st (.mv (.t rfl)) rfl (st (.as (.t rfl)) rfl (nl (.thn (k11 _ _ (.seq fun _ k12 => .region (st (.load (.t rfl) (i := 0) rfl ty24 rfl (Ss' := [_, _, _]) rfl) rfl (st (.mv (.t rfl)) rfl (st (.call (hnf_first (i := i) hx hK hR hC hl (by omega)) (.cons (.t rfl) (.cons (.t rfl) .nil))) rfl (st (.as (.t rfl)) rfl (nl (.thn (k12 _ _ (.seq fun _ k13 => .seq fun _ k14 => .region (st (.mv (.t rfl)) rfl (st (.ltI (.t rfl) (.cI 0 rfl)) rfl (nl (.thn (k14 _ _ (.cond (.t rfl) (fun hc3 => ?_) (fun hc3 => ?_)))))))))))))))))))))))))
   ·have hc3 := BP.t hc3
    have hfk := fir_no (by omega)
    refine .seq fun _ k15 => .region (st (.as (.cB true)) rfl (nl (.thn (k15 _ _ (.exit (.the (.blh (.thn (k10 _ _ (.region (st (.addI (.t rfl) (.cI 1 rfl) (by first | omega | assumption) (by first | omega | assumption)) rfl (st (.mv (.t rfl)) rfl (nl (.thn ?_))))))))))))))
    refine hK7 (⟨(i + 1, last, true), by show i + 1 ≤ R; omega, hF.snoc (fun hc => absurd hc hfk), fun _ => ⟨Nat.succ_pos _, by have := fc_le ((mf C (vals xs)) i) C; show (fc C ((mf C (vals xs)) i)) = C; omega⟩, fun h => (by cases h)⟩) _ _ ?_ (Cv.mem (.c 15 rfl ?_ (.c 3 rfl ?_ (.c 4 rfl ?_ (.l [1, 14] rfl)))) ?_)
    ·show R - (i + 1) < R - i; omega
    ·exact isI_eq (by omega)
    ·rfl
    ·rfl
    ·rfl
   ·have hc3 := BP.f hc3
    have hfk := fir_lt (by omega)
    have hbx : (List.length (words ((mf C (vals xs)) i (fc C ((mf C (vals xs)) i))).natAbs)) ≤ K := hx _
    have hne := fc_ne hfk
    refine .skip (.thn (k13 _ _ (.seq fun _ k16 => .region (st (.load (.t rfl) (i := 0) rfl ty24 rfl (Ss' := [_, _, _]) rfl) rfl (st (.mv (.t rfl)) rfl (st (.eq (.mv (.t rfl)) ((show _ = isI ((fc C ((mf C (vals xs)) i)) : Int) from isI_eq (if_pos hfk)))) rfl (st (.eq (.call (zmat_At (i := i) (k := (fc C ((mf C (vals xs)) i))) hx (by omega) hR hC hl (by omega) hfk) (.cons (.t rfl) (.cons (.t rfl) (.cons (.t rfl) .nil)))) ((show _ = isZ ((mf C (vals xs)) i (fc C ((mf C (vals xs)) i))) from rfl))) rfl (.alloc [isB false, SlM isU []] zero31 (fun _ _ => ⟨rfl, nilM _ _, trivial⟩) rfl fun b2 => .store (.t rfl) (.t rfl) (i := 0) rfl ty31 rfl rfl (Ss' := [_, _]) rfl (M' := [(some _, cellM [_, _]), _]) rfl (nl (.thn (k16 _ _ (.seq fun _ k17 => .seq fun _ k18 => .region (st (.mv (.t rfl)) rfl (st (.mv (.t rfl)) rfl ?_))))))))))))))
    refine stF rfl rfl (fun hg => have hg' := BP.t hg; OK1.eq (.mv (.t rfl)) ((show _ = isI ((fc C ((mf C (vals xs)) i)) : Int) from isI_eq (if_pos hfk)))) rfl ?_
    refine stF rfl rfl (fun hg => have hg' := BP.t hg; OK1.mv (.t rfl)) rfl ?_
    refine stF rfl rfl (fun hg => have hg' := BP.t hg; OK1.leI (Has.g rfl hg) (Has.g rfl hg)) rfl ?_
    refine st (.pickOr (.t rfl) (fun h => Has.g rfl (ng h))) rfl (st (.mv (.t rfl)) rfl ?_)
    refine stF rfl rfl (fun hg => have hg' := BP.t hg; OK1.load (.t rfl) (i := 0) rfl ty31 rfl (Ss' := [_, _]) rfl) rfl ?_
    refine stF rfl rfl (fun hg => have hg' := BP.t hg; OK1.eq (.call (zint_Sign (by rw [val_words]; omega)) (.cons (Has.g rfl hg) .nil)) ((show _ = isI (sgn ((mf C (vals xs)) i (fc C ((mf C (vals xs)) i)))) from isI_eq (by rw [zv_nf])))) rfl ?_
    refine stF rfl rfl (fun hg => have hg' := BP.t hg; OK1.ltI (Has.g rfl hg) (.cI 0 rfl)) rfl ?_
    refine st (.pickOr (.t rfl) (fun h => Has.g rfl (ng h))) rfl (nl (.thn (k18 _ _ (.cond (.t rfl) (fun hc4 => ?_) (fun hc4 => ?_)))))
    ·have hc4 := BP.t hc4
     have HX131 := hc4
     refine .seq fun _ k19 => .region (st (.as (.cB false)) rfl (nl (.thn (k19 _ _ (.ret (.thr (.blr (.thr (.thr (.blr (.thr (rt1 (.inl rfl) Tryz.results72 rfl (.tmp (Has.t' rfl ?_) .nil)))))))))))))
     all_goals (exact isB_eq (hermB_no fun hh => is_dead131 (by omega) hfk hh hE1 hE2 (by simpa [or_assoc] using HX131)))
    ·have hc4 := BP.f hc4
     have hen : ended = false := by simpa using hc4.1.1
     have hpos : 0 < (mf C (vals xs)) i (fc C ((mf C (vals xs)) i)) := by
      have h2 := mt (sgn_lt ((mf C (vals xs)) i (fc C ((mf C (vals xs)) i)))).2
      omega
     refine .skip (.thn (k17 _ _ (.seq fun _ k20 => .seq fun _ k21 => .region (st (.mv (.t rfl)) rfl (st (.mv (.cI 0 rfl)) rfl (nl (.thn (k21 _ _ (.block (.loopF [1, 14, 15, 3, 4, 16, 17, 5, 18, 19, 20, 6, 21, 22, 23, 24, 25, 26, 7, 27, 28, 29, 30, 31, 32, 33, 34, 35, 36, 37, 38] (fun (z : { r : Nat // r ≤ i ∧ ∀ j, j < r → 0 ≤ (mf C (vals xs)) j (fc C ((mf C (vals xs)) i)) ∧ (mf C (vals xs)) j (fc C ((mf C (vals xs)) i)) < (mf C (vals xs)) i (fc C ((mf C (vals xs)) i)) }) => match z with | ⟨r, hI2⟩ => [(39, isI (r : Int))]) (fun M => fun (z : { r : Nat // r ≤ i ∧ ∀ j, j < r → 0 ≤ (mf C (vals xs)) j (fc C ((mf C (vals xs)) i)) ∧ (mf C (vals xs)) j (fc C ((mf C (vals xs)) i)) < (mf C (vals xs)) i (fc C ((mf C (vals xs)) i)) }) => match z with | ⟨r, hI2⟩ => M) (fun (z : { r : Nat // r ≤ i ∧ ∀ j, j < r → 0 ≤ (mf C (vals xs)) j (fc C ((mf C (vals xs)) i)) ∧ (mf C (vals xs)) j (fc C ((mf C (vals xs)) i)) < (mf C (vals xs)) i (fc C ((mf C (vals xs)) i)) }) => match z with | ⟨r, hI2⟩ => i - r) (⟨0, Nat.zero_le _, fun j hj => absurd hj (Nat.not_lt_zero _)⟩) (Cv.mem (.c 39 rfl ?_ (.l [1, 14, 15, 3, 4, 16, 17, 5, 18, 19, 20, 6, 21, 22, 23, 24, 25, 26, 7, 27, 28, 29, 30, 31, 32, 33, 34, 35, 36, 37, 38] rfl)) ?_) ?_))))))))))
     ·rfl
     ·rfl
     rintro ⟨r, hr, hI2⟩ K22 hK22
     refine .cv (Cv.wk (.l [39, 1, 14, 15, 3, 4, 16, 17, 5, 18, 19, 20, 6, 21, 22, 23, 24, 25, 26, 7, 27, 28, 29, 30, 31, 32, 33, 34, 35, 36, 37, 38] rfl)) (.seq fun _ k23 => .region (st (.ltI (.t rfl) (.t rfl)) rfl (nl (.thn (k23 _ _ (.seq fun _ k24 => .cond (.t rfl) (fun hc5 => ?_) (fun hc5 => ?_)))))))
     ·have hc5 := BP.t hc5
      have hbr : (List.length (words ((mf C (vals xs)) r (fc C ((mf C (vals xs)) i))).natAbs)) ≤ K := hx _
      refine .skip (.thn (k24 _ _ (.seq fun _ k25 => .block (.seq fun _ k26 => .region (st (.mv (.t rfl)) rfl (st (.as (.t rfl)) rfl (nl (.thn (k26 _ _ (.seq fun _ k27 => .region (st (.load (.t rfl) (i := 1) rfl ty24 rfl (Ss' := [_, _, _]) rfl) rfl (st (.mv (.t rfl)) rfl (st (.eq (.mv (.t rfl)) ((show _ = isI ((fc C ((mf C (vals xs)) i)) : Int) from isI_eq (if_pos hfk)))) rfl (st (.eq (.call (zmat_At (i := r) (k := (fc C ((mf C (vals xs)) i))) hx (by omega) hR hC hl (by omega) hfk) (.cons (.t rfl) (.cons (.t rfl) (.cons (.t rfl) .nil)))) ((show _ = isZ ((mf C (vals xs)) r (fc C ((mf C (vals xs)) i))) from rfl))) rfl (.alloc [isB false, SlM isU []] zero31 (fun _ _ => ⟨rfl, nilM _ _, trivial⟩) rfl fun b3 => .store (.t rfl) (.t rfl) (i := 0) rfl ty31 rfl rfl (Ss' := [_, _]) rfl (M' := [(some _, cellM [_, _]), _, _]) rfl (nl (.thn (k27 _ _ (.seq fun _ k28 => .region (st (.load (.t rfl) (i := 0) rfl ty31 rfl (Ss' := [_, _]) rfl) rfl (st (.eq (.call (zint_Sign (by rw [val_words]; omega)) (.cons (.t rfl) .nil)) ((show _ = isI (sgn ((mf C (vals xs)) r (fc C ((mf C (vals xs)) i)))) from isI_eq (by rw [zv_nf])))) rfl ?_)))))))))))))))))))))
      refine st (.ltI (.t rfl) (.cI 0 rfl)) rfl (st (.mv (.t rfl)) rfl ?_)
      refine stF rfl rfl (fun hg => have hg' := BP.t hg; OK1.load (.t rfl) (i := 0) rfl ty31 rfl (Ss' := [_, _]) rfl) rfl ?_
      refine stF rfl rfl (fun hg => have hg' := BP.t hg; OK1.load (.t rfl) (i := 1) rfl ty31 rfl (Ss' := [_, _]) rfl) rfl ?_
      refine stF rfl rfl (fun hg => have hg' := BP.t hg; OK1.eq (.call (zint_Cmp (by rw [val_words]; omega) (by rw [val_words]; omega)) (.cons (Has.g rfl hg) (.cons (Has.g rfl hg) .nil))) ((show _ = isI (cmpZ ((mf C (vals xs)) r (fc C ((mf C (vals xs)) i))) ((mf C (vals xs)) i (fc C ((mf C (vals xs)) i)))) from isI_eq (by rw [zv_nf, zv_nf])))) rfl ?_
      refine stF rfl rfl (fun hg => have hg' := BP.t hg; OK1.geI (Has.g rfl hg) (.cI 0 rfl)) rfl ?_
      refine st (.pickOr (.t rfl) (fun h => Has.g rfl (ng h))) rfl (nl (.thn (k28 _ _ (.cond (.t rfl) (fun hc6 => ?_) (fun hc6 => ?_)))))
      ·have hc6 := BP.t hc6
       skip
       refine .seq fun _ k29 => .region (st (.as (.cB false)) rfl (nl (.thn (k29 _ _ (.ret (.blr (.thr (.thr (.blr (.thr (.blr (.thr (.thr (.blr (.thr (rt1 (.inl rfl) Tryz.results72 rfl (.tmp (Has.t' rfl ?_) .nil)))))))))))))))))
       all_goals (exact isB_eq (hermB_no fun hh => by have hsl := sgn_lt ((mf C (vals xs)) r (fc C ((mf C (vals xs)) i))); have hcz := cmpZ_cases ((mf C (vals xs)) r (fc C ((mf C (vals xs)) i))) ((mf C (vals xs)) i (fc C ((mf C (vals xs)) i))); have hx1 := (hh i (by omega) hfk).2.2 r (by omega); omega))
      ·have hc6 := BP.f hc6
       have hrow : 0 ≤ (mf C (vals xs)) r (fc C ((mf C (vals xs)) i)) ∧ (mf C (vals xs)) r (fc C ((mf C (vals xs)) i)) < (mf C (vals xs)) i (fc C ((mf C (vals xs)) i)) := by
        have h1 := mt (sgn_lt ((mf C (vals xs)) r (fc C ((mf C (vals xs)) i)))).2
        have h2 := cmpZ_cases ((mf C (vals xs)) r (fc C ((mf C (vals xs)) i))) ((mf C (vals xs)) i (fc C ((mf C (vals xs)) i)))
        omega
       refine .skip (.bln (.thn (k25 _ _ (.region (st (.addI (.t rfl) (.cI 1 rfl) (by first | omega | assumption) (by first | omega | assumption)) rfl (st (.mv (.t rfl)) rfl (nl (.thn ?_))))))))
       refine hK22 (⟨r + 1, by omega, fun j hj => by rcases Nat.lt_or_ge j r with h | h; exact hI2 j h; obtain rfl : j = r := (by omega); exact hrow⟩) _ _ ?_ (Cv.trans (Cv.drop ((.cons _ (.cons_cons _ (.cons_cons _ .slnil))))) (Cv.mem (.c 39 rfl ?_ (.l [1, 14, 15, 3, 4, 16, 17, 5, 18, 19, 20, 6, 21, 22, 23, 24, 25, 26, 7, 27, 28, 29, 30, 31, 32, 33, 34, 35, 36, 37, 38] rfl)) ?_))
       ·show i - (r + 1) < i - r; omega
       ·exact isI_eq (by omega)
       ·rfl
     ·have hc5 := BP.f hc5
      skip
      refine .exit (.the (.the (.blh (.thn (k20 _ _ (.region (st (.eq (.mv (.t rfl)) ((show _ = isI ((fc C ((mf C (vals xs)) i)) : Int) from isI_eq (if_pos hfk)))) rfl (st (.as (.t rfl)) rfl (nl (.bln (.thn (k10 _ _ (.region (st (.addI (.t rfl) (.cI 1 rfl) (by first | omega | assumption) (by first | omega | assumption)) rfl (st (.mv (.t rfl)) rfl (nl (.thn ?_)))))))))))))))))
      refine hK7 (⟨(i + 1, ((fc C ((mf C (vals xs)) i)) : Int), ended), by show i + 1 ≤ R; omega, hF.snoc (fun _ => ⟨fun h0 => by have := hE2 hen; rw [if_neg (by omega)] at this; omega, hpos, fun r' hr' => hI2 r' (by omega)⟩), fun h => (by subst hen; cases h), fun _ => by show ((fc C ((mf C (vals xs)) i)) : Int) = if i + 1 = 0 then -1 else _; rw [if_neg (by omega)]; rfl⟩) _ _ ?_ (Cv.trans (Cv.drop ((.cons _ (.cons_cons _ .slnil)))) (Cv.mem (.c 15 rfl ?_ (.c 3 rfl ?_ (.c 4 rfl ?_ (.l [1, 14] rfl)))) ?_))
      ·show R - (i + 1) < R - i; omega
      ·exact isI_eq (by omega)
      ·rfl
      ·rfl
      ·rfl
  ·have hc2 := BP.f hc2
   refine .exit (.the (.the (.blh (.thn (k5 _ _ (.cv (Cv.wk .nil) (.seq fun _ k30 => .region (st (.as (.cB true)) rfl (nl (.thn (k30 _ _ (.ret (rt1 (.inl rfl) Tryz.results72 rfl (.tmp (Has.t' rfl ?_) .nil))))))))))))))
   all_goals (exact isB_eq (hermB_yes (by rw [show R = i by omega]; exact hF)))
end Go.Proofs.YthkdmhaafanjlaaGreat
