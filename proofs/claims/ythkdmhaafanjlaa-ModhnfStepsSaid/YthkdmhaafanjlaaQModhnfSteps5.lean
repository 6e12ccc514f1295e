/- Rules and contracts, part 5 of 6. -/
import Derived.Test.YthkdmhaafanjlaaQModhnfSteps4
namespace Go.Proofs.Ythkdmhaafanjlaa
open Go.En Go.RowKit
set_option maxRecDepth 10000
set_option maxHeartbeats 4000000
open Go.Nt
open Go.Pz
open Go.Mz
open Go.Hn
open Go.Tr
theorem modhnf_put {b : Int} {n K n0 : Nat} {gt : Gr (Option (List Int))} {rows : List (List Int)} {v0 : List Int} (hb : 0 < b) (hn : n ≤ 64) (hK : K ≤ 30000000) (hbK : (List.length (words b.natAbs)) ≤ K) (hT : TriR b n rows) (hv : VR b n 0 v0) : CtrX Try.prog 63 [PtrL [isGr gt n, isB (decide (b < 0)), SlM isU (words b.natAbs)], isP v0] ([grM (tN n0) gt (rows.map some)]) (fun S M => S = isTup [] ∧ M = [grM (tN n0) gt ((putT b rows v0).map some)]) := by
 refine CtrX.intro Try.func63 rfl (by kernel_rfl) Try.ntmps63 rfl fun w0 F0 => ?_
 refine .cv (Cv.wk (.k 0 rfl (.k 1 rfl .nil))) ?_
 refine .seq fun _ k1 => .region (st (.mv (.t rfl)) rfl ?_)
 refine st (.nilcP (.t rfl)) rfl ?_
 refine st (.fieldAddrP (.t rfl) fld61_0 ty59 (Ss' := [_, _, _]) rfl) rfl ?_
 refine st (.loadP1 (.t rfl) ty59) rfl ?_
 refine st (.len sl59 (.t rfl)) rfl (st (.mv (Has.cI 0 rfl)) rfl ?_)
 refine nl (.thn (k1 _ _ ?_))
 refine .block ?_
 refine .loopF [0, 17] (fun (z : { z : Nat × List (List Int) × List Int // z.1 ≤ n ∧ pss b (rows, v0) z.1 = z.2 }) => match z with | ⟨(k, rs, v), hI⟩ => [(18, isI (k : Int)), (1, isP v)]) (fun M => fun (z : { z : Nat × List (List Int) × List Int // z.1 ≤ n ∧ pss b (rows, v0) z.1 = z.2 }) => match z with | ⟨(k, rs, v), hI⟩ => [grM (tN n0) gt (rs.map some)]) (fun (z : { z : Nat × List (List Int) × List Int // z.1 ≤ n ∧ pss b (rows, v0) z.1 = z.2 }) => match z with | ⟨(k, rs, v), hI⟩ => n - k) (⟨(0, rows, v0), Nat.zero_le _, rfl⟩) (Cv.mem (.cons (t := 18) (Has.t' rfl ?_) (.cons (t := 1) (Has.t' rfl ?_) (.k 0 rfl (.k 17 rfl .nil)))) ?_) ?_
 ·rfl
 ·rfl
 ·rfl
 rintro ⟨⟨k, rs, v⟩, hI⟩ K2 hK2
 refine .cv (Cv.wk (.k 18 rfl (.k 1 rfl (.k 0 rfl (.k 17 rfl .nil))))) ?_
 refine .memEq (M' := [grM (tN n0) gt (rs.map some)]) rfl ?_
 simp only [] at hI
 obtain ⟨hk, hps⟩ := hI
 have hok := pss_ok hb hT hv k hk
 rw [hps] at hok
 obtain ⟨hTk, hvk⟩ := hok
 simp only [] at hTk hvk
 have hvB := hvk.bd hbK
 have hvc := hvB k
 have hvl := hvk.len
 have hmv : (v.map nz).length = n := by rw [List.length_map, hvl]
 have hrl := hTk.len
 have hrm : (rs.map some).length = n := by rw [List.length_map, hrl]
 refine .seq fun _ k3 => .region (st (.ltI (.t rfl) (.t rfl)) rfl ?_)
 refine nl (.thn (k3 _ _ ?_))
 refine .seq fun _ k4 => ?_
 refine .cond (.t rfl) (fun hc1 => ?_) (fun hc1 => ?_)
 ·have hc1 := BP.t hc1
  obtain ⟨p, hp⟩ : ∃ p, rs[k]? = some p := ⟨_, List.getElem?_eq_getElem (by omega)⟩
  have hpl := hTk.row k p hp
  have hpB := hTk.bd hbK hp
  have hpc := hpB k
  have hpd := hTk.dia k p hp
  have hxn := xgx_nw (cf p k) (cf v k) hvc
  have hyn := xgy_nw (cf p k) (cf v k) hpc
  have hgp := xgg_pos (b := (cf v k)) hpd.1
  have hg0 : ¬ (xgg (cf p k) (cf v k)) = 0 := by omega
  have hgn : (List.length (words (xgg (cf p k) (cf v k)).natAbs)) ≤ K := nw_le_b (by omega) (Int.le_trans (xgg_le hpd.1) hpd.2) hbK
  have hun := nz_tdiv (cf p k) (xgg (cf p k) (cf v k))
  have hwn := nz_tdiv (cf v k) (xgg (cf p k) (cf v k))
  have hpm : (p.map nz).length = n := by rw [List.length_map, hpl]
  have hps2 : (rs.map some)[k]? = some (some p) := by rw [List.getElem?_map, hp]; rfl
  refine .skip ?_
  refine .thn (k4 _ _ ?_)
  refine .seq fun _ k5 => ?_
  refine .block ?_
  refine .seq fun _ k6 => .region (st (.mv (.t rfl)) rfl ?_)
  refine st (.as (.t rfl)) rfl ?_
  refine nl (.thn (k6 _ _ ?_))
  refine .seq fun _ k7 => ?_
  refine .seq fun _ k8 => .region (st (.mv (.t rfl)) rfl ?_)
  refine st (.mv (.t rfl)) rfl (st (.ixK sl22 ty30 (.t rfl) (.t rfl) zc_len ⟨by omega, by omega⟩ (getZ (i := k) (by omega))) rfl ?_)
  refine st (.loadP (.t rfl) ty30 rfl (Ss' := [_, _]) rfl) rfl ?_
  refine st (.eq (.call (zint_Sign (by rw [val_words]; omega)) (.cons (.t rfl) .nil)) ((show _ = isI (sgn (cf v k)) from by rw [zv_nz]))) rfl ?_
  refine st (.eqI (.t rfl) (Has.cI 0 rfl)) rfl ?_
  refine nl (.thn (k8 _ _ ?_))
  refine .cond (.t rfl) (fun hc2 => ?_) (fun hc2 => ?_)
  ·have hc2 := BP.t hc2
   have h0 : cf v k = 0 := (sgn_eq0 _).1 hc2
   refine .exit ?_
   refine .the ?_
   refine .blh ?_
   refine .thn (k5 _ _ ?_)
   refine .region (st (.addI (.t rfl) (Has.cI 1 rfl) (by first | omega | assumption) (by first | omega | assumption)) rfl ?_)
   refine st (.mv (.t rfl)) rfl ?_
   refine nl ?_
   refine .thn ?_
   refine hK2 (⟨(k + 1, rs, v), by show k + 1 ≤ n; omega, by show pst b (pss b (rows, v0) k) k = _; rw [hps, pst_no h0]⟩) _ _ ?_ (Cv.mem (.cons (t := 18) (Has.t' rfl ?_) (.cons (t := 1) (Has.t' rfl ?_) (.k 0 rfl (.k 17 rfl .nil)))) ?_)
   ·show n - (k + 1) < n - k; omega
   ·exact isI_eq (by omega)
   ·rfl
   ·rfl
  ·have hc2 := BP.f hc2
   have h0 : ¬ cf v k = 0 := fun e => hc2 ((sgn_eq0 _).2 e)
   refine .skip ?_
   refine .thn (k7 _ _ ?_)
   refine .seq fun _ k9 => .region (st (.mv (.t rfl)) rfl ?_)
   refine st (.nilcP (.t rfl)) rfl ?_
   refine st (.fieldAddrP (.t rfl) fld61_0 ty59 (Ss' := [_, _, _]) rfl) rfl ?_
   refine st (.loadP1 (.t rfl) ty59) rfl ?_
   refine st (.mv (.t rfl)) rfl (st (.ixGr sl59 ty22 (.t rfl) (.t rfl) ⟨by omega, by omega⟩) rfl ?_)
   refine st (.eq (.loadGM (.t rfl) (i := 0) rfl ty22 hps2) ((show tN n0 (some p) = SlN n0 p from rfl))) rfl ?_
   refine st (.as (.t rfl)) rfl ?_
   refine nl (.thn (k9 _ _ ?_))
   refine .seq fun _ k10 => ?_
   refine .drh [true] (Ms := [_]) rfl ?_
   refine .s [] rfl rfl rfl (.o rfl (.mv (Has.wk (.t rfl) SlN.sl))) ?_
   refine .s [] rfl rfl rfl (.o rfl (.mv (.t rfl))) ?_
   refine .s [35, 36] rfl rfl rfl (.o rfl (.ixK sl22 ty30 (.t rfl) (.t rfl) zc_len ⟨by omega, by omega⟩ (getZ (i := k) (by omega)))) ?_
   refine .s [37] rfl rfl rfl (.o rfl (.loadP (.t rfl) ty30 rfl (Ss' := [_, _]) rfl)) ?_
   refine .s [] rfl rfl rfl (.o rfl (.mv (.t rfl))) ?_
   refine .s [] rfl rfl rfl (.o rfl (.mv (.t rfl))) ?_
   refine .s [39, 40] rfl rfl rfl (.o rfl (.ixK sl22 ty30 (.t rfl) (.t rfl) zc_len ⟨by omega, by omega⟩ (getZ (i := k) (by omega)))) ?_
   refine .s [41] rfl rfl rfl (.o rfl (.loadP (.t rfl) ty30 rfl (Ss' := [_, _]) rfl)) ?_
   refine .s [38, 42] rfl rfl rfl (.o rfl (.eq (.call (zint_XgcdA (by rw [val_words]; omega) (by rw [val_words]; omega)) (.cons (.t rfl) (.cons (.t rfl) .nil))) ((show _ = isTup [isZ (xgg (cf p k) (cf v k)), isZ (xgx (cf p k) (cf v k)), isZ (xgy (cf p k) (cf v k))] from by simp only [zv_nz, zv_nf])))) ?_
   refine .s [43] rfl rfl rfl (.o rfl (.mv (.t rfl))) ?_
   refine .s [34] rfl rfl rfl (.o rfl (.ext (.t rfl) rfl)) ?_
   refine .s [34] rfl rfl rfl (.o rfl (.ext (.t rfl) rfl)) ?_
   refine .s [34] rfl rfl rfl (.o rfl (.ext (.t rfl) rfl)) ?_
   refine .als (n1 := 16) (ds := [6, 7, 8]) (zs := [[isB false, SlM isU []], [isB false, SlM isU []], [isB false, SlM isU []]]) rfl (.cons rfl rfl zero30 (fun _ _ => ⟨rfl, nilM _ _, trivial⟩) (.cons rfl rfl zero30 (fun _ _ => ⟨rfl, nilM _ _, trivial⟩) (.cons rfl rfl zero30 (fun _ _ => ⟨rfl, nilM _ _, trivial⟩) .nil))) (.cons_cons _ .slnil) (Cs := [_, _, _]) rfl ?_
   refine .new [44] 0 (Ss' := [_, _]) (Cs' := [cellM [_, _], _, _]) rfl (by kernel_rfl) (by kernel_rfl) rfl rfl rfl (by kernel_rfl) rfl (.t rfl) ty30 rfl rfl rfl rfl ?_
   refine .new [45] 1 (Ss' := [_, _]) (Cs' := [_, cellM [_, _], _]) rfl (by kernel_rfl) (by kernel_rfl) rfl rfl rfl (by kernel_rfl) rfl (.t rfl) ty30 rfl rfl rfl rfl ?_
   refine .fin (n := 18) mixed rfl (by kernel_rfl) (by kernel_rfl) (by kernel_rfl) (fun bs hbs => ?_)
   obtain ⟨b1, b2, b3, rfl⟩ := len3 hbs
   refine .memEq (M' := [_, _, _, _]) rfl ?_
   refine .cv (Cv.wk (.k 0 rfl (.k 17 rfl (.k 18 rfl (.k 1 rfl (.k 19 rfl (.k 20 rfl (.k 4 rfl (.k 21 rfl (.k 22 rfl (.k 23 rfl (.k 24 rfl (.k 25 rfl (.k 26 rfl (.k 27 rfl (.k 28 rfl (.k 29 rfl (.k 30 rfl (.k 31 rfl (.k 32 rfl (.k 33 rfl (.k 5 rfl (.k 35 rfl (.k 36 rfl (.k 37 rfl (.k 38 rfl (.k 39 rfl (.k 40 rfl (.k 41 rfl (.k 42 rfl (.k 43 rfl (.k 34 rfl (.k 44 rfl (.k 45 rfl (.k 46 rfl (.cons (t := 6) (Has.op rfl) (.cons (t := 7) (Has.op rfl) (.cons (t := 8) (Has.op rfl) .nil)))))))))))))))))))))))))))))))))))))) ?_
   refine .store (.t rfl) (.t rfl) (i := 2) rfl ty30 rfl rfl (Ss' := [_, _]) rfl (M' := [_, _, (some _, cellM [_, _]), _]) rfl ?_
   refine nl (.thn (k10 _ _ ?_))
   refine .seq fun _ k11 => ?_
   refine .drh [true, true, true, true] (Ms := [_, _, _, _]) rfl ?_
   refine .s [] rfl rfl rfl (.o rfl (.mv (Has.wk (.t rfl) SlN.sl))) ?_
   refine .s [] rfl rfl rfl (.o rfl (.mv (.t rfl))) ?_
   refine .s [48, 49] rfl rfl rfl (.o rfl (.ixK sl22 ty30 (.t rfl) (.t rfl) zc_len ⟨by omega, by omega⟩ (getZ (i := k) (by omega)))) ?_
   refine .s [50] rfl rfl rfl (.o rfl (.loadP (.t rfl) ty30 rfl (Ss' := [_, _]) rfl)) ?_
   refine .s [] rfl rfl rfl (.o rfl (.load (.t rfl) (i := 0) rfl ty30 rfl (Ss' := [_, _]) rfl)) ?_
   refine .s [51, 52] rfl rfl rfl (.o rfl (.call (zint_Exact (by rw [val_words]; omega) (by rw [val_words]; omega)) (.cons (.t rfl) (.cons (.t rfl) .nil)))) ?_
   refine .s [53] rfl rfl rfl (.o rfl (.mv (.t rfl))) ?_
   refine .s [47] rfl rfl rfl (.o rfl (.eq (.ext (.t rfl) rfl) ((show _ = isZ ((cf p k).tdiv (xgg (cf p k) (cf v k))) from isZ_eq (by simp only [zv_nz, zv_nf]; exact if_pos ⟨hg0, Int.tmod_eq_zero_of_dvd (xgg_left _ _)⟩))))) ?_
   refine .s [47] rfl rfl rfl (.o rfl (.ext (.t rfl) rfl)) ?_
   refine .als (n1 := 10) (ds := [9]) (zs := [[isB false, SlM isU []]]) rfl (.cons rfl rfl zero30 (fun _ _ => ⟨rfl, nilM _ _, trivial⟩) .nil) (.cons_cons _ (.cons_cons _ (.cons_cons _ (.cons_cons _ .slnil)))) (Cs := [_]) rfl ?_
   refine .new [54] 0 (Ss' := [_, _]) (Cs' := [cellM [_, _]]) rfl (by kernel_rfl) (by kernel_rfl) rfl rfl rfl (by kernel_rfl) rfl (.t rfl) ty30 rfl rfl rfl rfl ?_
   refine .fin (n := 11) mixed rfl (by kernel_rfl) (by kernel_rfl) (by kernel_rfl) (fun bs hbs => ?_)
   obtain ⟨b4, rfl⟩ := len1 hbs
   refine .memEq (M' := [_, _, _, _, _]) rfl ?_
   refine .cv (Cv.wk (.k 0 rfl (.k 17 rfl (.k 18 rfl (.k 1 rfl (.k 19 rfl (.k 20 rfl (.k 4 rfl (.k 21 rfl (.k 22 rfl (.k 23 rfl (.k 24 rfl (.k 25 rfl (.k 26 rfl (.k 27 rfl (.k 28 rfl (.k 29 rfl (.k 30 rfl (.k 31 rfl (.k 32 rfl (.k 33 rfl (.k 5 rfl (.k 35 rfl (.k 36 rfl (.k 37 rfl (.k 38 rfl (.k 39 rfl (.k 40 rfl (.k 41 rfl (.k 42 rfl (.k 43 rfl (.k 34 rfl (.k 44 rfl (.k 45 rfl (.k 46 rfl (.k 6 rfl (.k 7 rfl (.k 8 rfl (.k 48 rfl (.k 49 rfl (.k 50 rfl (.k 51 rfl (.k 52 rfl (.k 53 rfl (.k 47 rfl (.k 54 rfl (.k 55 rfl (.cons (t := 9) (Has.op rfl) .nil)))))))))))))))))))))))))))))))))))))))))))))))) ?_
   refine st (.as (.t rfl)) rfl ?_
   refine nl (.thn (k11 _ _ ?_))
   refine .seq fun _ k12 => ?_
   refine .drh [true, true, true, true, true] (Ms := [_, _, _, _, _]) rfl ?_
   refine .s [] rfl rfl rfl (.o rfl (.mv (.t rfl))) ?_
   refine .s [] rfl rfl rfl (.o rfl (.mv (.t rfl))) ?_
   refine .s [57, 58] rfl rfl rfl (.o rfl (.ixK sl22 ty30 (.t rfl) (.t rfl) zc_len ⟨by omega, by omega⟩ (getZ (i := k) (by omega)))) ?_
   refine .s [59] rfl rfl rfl (.o rfl (.loadP (.t rfl) ty30 rfl (Ss' := [_, _]) rfl)) ?_
   refine .s [] rfl rfl rfl (.o rfl (.load (.t rfl) (i := 1) rfl ty30 rfl (Ss' := [_, _]) rfl)) ?_
   refine .s [60, 61] rfl rfl rfl (.o rfl (.call (zint_Exact (by rw [val_words]; omega) (by rw [val_words]; omega)) (.cons (.t rfl) (.cons (.t rfl) .nil)))) ?_
   refine .s [62] rfl rfl rfl (.o rfl (.mv (.t rfl))) ?_
   refine .s [56] rfl rfl rfl (.o rfl (.eq (.ext (.t rfl) rfl) ((show _ = isZ ((cf v k).tdiv (xgg (cf p k) (cf v k))) from isZ_eq (by simp only [zv_nz, zv_nf]; exact if_pos ⟨hg0, Int.tmod_eq_zero_of_dvd (xgg_right _ _)⟩))))) ?_
   refine .s [56] rfl rfl rfl (.o rfl (.ext (.t rfl) rfl)) ?_
   refine .als (n1 := 10) (ds := [11]) (zs := [[isB false, SlM isU []]]) rfl (.cons rfl rfl zero30 (fun _ _ => ⟨rfl, nilM _ _, trivial⟩) .nil) (.cons_cons _ (.cons_cons _ (.cons_cons _ (.cons_cons _ (.cons_cons _ .slnil))))) (Cs := [_]) rfl ?_
   refine .new [63] 0 (Ss' := [_, _]) (Cs' := [cellM [_, _]]) rfl (by kernel_rfl) (by kernel_rfl) rfl rfl rfl (by kernel_rfl) rfl (.t rfl) ty30 rfl rfl rfl rfl ?_
   refine .fin (n := 11) mixed rfl (by kernel_rfl) (by kernel_rfl) (by kernel_rfl) (fun bs hbs => ?_)
   obtain ⟨b5, rfl⟩ := len1 hbs
   refine .memEq (M' := [_, _, _, _, _, _]) rfl ?_
   refine .cv (Cv.wk (.k 0 rfl (.k 17 rfl (.k 18 rfl (.k 1 rfl (.k 19 rfl (.k 20 rfl (.k 4 rfl (.k 21 rfl (.k 22 rfl (.k 23 rfl (.k 24 rfl (.k 25 rfl (.k 26 rfl (.k 27 rfl (.k 28 rfl (.k 29 rfl (.k 30 rfl (.k 31 rfl (.k 32 rfl (.k 33 rfl (.k 5 rfl (.k 35 rfl (.k 36 rfl (.k 37 rfl (.k 38 rfl (.k 39 rfl (.k 40 rfl (.k 41 rfl (.k 42 rfl (.k 43 rfl (.k 34 rfl (.k 44 rfl (.k 45 rfl (.k 46 rfl (.k 6 rfl (.k 7 rfl (.k 8 rfl (.k 48 rfl (.k 49 rfl (.k 50 rfl (.k 51 rfl (.k 52 rfl (.k 53 rfl (.k 47 rfl (.k 54 rfl (.k 55 rfl (.k 9 rfl (.k 57 rfl (.k 58 rfl (.k 59 rfl (.k 60 rfl (.k 61 rfl (.k 62 rfl (.k 56 rfl (.k 63 rfl (.k 64 rfl (.cons (t := 11) (Has.op rfl) .nil)))))))))))))))))))))))))))))))))))))))))))))))))))))))))) ?_
   refine st (.as (.t rfl)) rfl ?_
   refine nl (.thn (k12 _ _ ?_))
   refine .dry mixed ?_
   refine .tk 0 rfl rfl rfl rfl (OKY.mv (.t rfl)) ?_
   refine .tk 4 rfl rfl rfl rfl (OKY.mv (.t rfl)) ?_
   refine .tk 5 rfl rfl rfl rfl (OKY.mv (.t rfl)) ?_
   refine .tk 7 rfl rfl rfl rfl (OKY.mv (.t rfl)) ?_
   refine .tk 9 rfl rfl rfl rfl (OKY.mv (.t rfl)) ?_
   refine .tk 10 rfl rfl rfl rfl (OKY.mv (.t rfl)) ?_
   refine .tk 12 rfl rfl rfl rfl (OKY.mv (.t rfl)) ?_
   refine .tk 15 rfl rfl rfl rfl (OKY.mv (Has.wk (.t rfl) SlN.sl)) ?_
   refine .tk 17 rfl rfl rfl rfl (OKY.mv (.t rfl)) ?_
   refine .tk 18 rfl rfl rfl rfl (OKY.mv (.t rfl)) ?_
   refine .go [] ?_
   refine .s 1 [] rfl rfl rfl (.o rfl (.nilcP (.t rfl))) ?_
   refine .s 2 [66] rfl rfl rfl (.o rfl (.fieldAddrP (.t rfl) fld61_0 ty59 (Ss' := [_, _, _]) rfl)) ?_
   refine .s 3 [67] rfl rfl rfl (.o rfl (.loadP1 (.t rfl) ty59)) ?_
   refine .s 6 [] rfl rfl rfl (.o rfl (.load (.t rfl) (i := 3) rfl ty30 rfl (Ss' := [_, _]) rfl)) ?_
   refine .s 8 [] rfl rfl rfl (.o rfl (.load (.t rfl) (i := 4) rfl ty30 rfl (Ss' := [_, _]) rfl)) ?_
   refine .s 11 [71, 73] rfl rfl rfl (.o rfl (.eq (.call (modhnf_mixedN (b := b) (A := K + 1) (D := K + 2) (K := K) hb (by rw [val_words]; omega) hpB (by rw [val_words]; omega) hvB (by omega) (by omega) (by omega) (by omega) (by omega) (by omega)) (.cons (.t rfl) (.cons (.t rfl) (.cons (.t rfl) (.cons (.t rfl) (.cons (.t rfl) (.cons (.t rfl) .nil))))))) ((show _ = tN n0 (some (mxT b k (xgx (cf p k) (cf v k)) p (xgy (cf p k) (cf v k)) v)) from congrArg (SlN n0) (by simp only [zv_nf]))))) ?_
   refine .s 13 [] rfl rfl rfl (.o rfl (.load (.t rfl) (i := 0) rfl ty30 rfl (Ss' := [_, _]) rfl)) ?_
   refine .s 14 [78] rfl rfl rfl (.o rfl (.call (zint_Neg (by rw [val_words]; omega)) (.cons (.t rfl) .nil))) ?_
   refine .s 16 [] rfl rfl rfl (.o rfl (.load (.t rfl) (i := 1) rfl ty30 rfl (Ss' := [_, _]) rfl)) ?_
   refine .s 19 [79, 81] rfl rfl rfl (.o rfl (.eq (.call ((modhnf_mixedX (b := b) (xs := p.map nz) (ys := v.map nz) (A := K) (D := K) (K := K) hb (by rw [val_words, zv_nf, Int.natAbs_neg]; omega) (by rw [vals_nz]; exact hpB) (by rw [val_words]; omega) (by rw [vals_nz]; exact hvB) (by omega) (by omega) (by omega) (by rw [List.length_map, List.length_map]; omega) (by rw [List.length_map]; omega)).toP) (.cons (.t rfl) (.cons (.t rfl) (.cons (.t rfl) (.cons (.t rfl) (.cons (.t rfl) (.cons (.t rfl) .nil))))))) ((show _ = isP (mxT b k (-((cf v k).tdiv (xgg (cf p k) (cf v k)))) p ((cf p k).tdiv (xgg (cf p k) (cf v k))) v) from isPl_eq (by simp only [zv_nf, vals_nz]))))) ?_
   refine .fin [20, 21, 22] (by kernel_rfl) (by kernel_rfl) (fun _ _ _ _ _ h => h) (by kernel_rfl) (by kernel_rfl) (by kernel_rfl) (by kernel_rfl) (by kernel_rfl) (by kernel_rfl) (by kernel_rfl) (by kernel_rfl) (by kernel_rfl) ?_
   refine .cv (Cv.wk (.k 0 rfl (.k 17 rfl (.k 18 rfl (.k 1 rfl (.k 19 rfl (.k 20 rfl (.k 4 rfl (.k 21 rfl (.k 22 rfl (.k 23 rfl (.k 24 rfl (.k 25 rfl (.k 26 rfl (.k 27 rfl (.k 28 rfl (.k 29 rfl (.k 30 rfl (.k 31 rfl (.k 32 rfl (.k 33 rfl (.k 5 rfl (.k 35 rfl (.k 36 rfl (.k 37 rfl (.k 38 rfl (.k 39 rfl (.k 40 rfl (.k 41 rfl (.k 42 rfl (.k 43 rfl (.k 34 rfl (.k 44 rfl (.k 45 rfl (.k 46 rfl (.k 6 rfl (.k 7 rfl (.k 8 rfl (.k 48 rfl (.k 49 rfl (.k 50 rfl (.k 51 rfl (.k 52 rfl (.k 53 rfl (.k 47 rfl (.k 54 rfl (.k 55 rfl (.k 9 rfl (.k 57 rfl (.k 58 rfl (.k 59 rfl (.k 60 rfl (.k 61 rfl (.k 62 rfl (.k 56 rfl (.k 63 rfl (.k 64 rfl (.k 11 rfl (.k 65 rfl (.k 69 rfl (.k 70 rfl (.k 72 rfl (.k 74 rfl (.k 75 rfl (.k 77 rfl (.k 80 rfl (.k 82 rfl (.k 83 rfl (.k 66 rfl (.k 67 rfl (.k 68 rfl (.k 71 rfl (.k 73 rfl (.k 76 rfl (.k 78 rfl (.k 79 rfl (.k 81 rfl (.k 84 rfl .nil)))))))))))))))))))))))))))))))))))))))))))))))))))))))))))))))))))))))))))))) ?_
   refine st (.ixGr sl59 ty22 (.t rfl) (.t rfl) ⟨by omega, by omega⟩) rfl ?_
   refine .storeGM (z := some (mxT b k (xgx (cf p k) (cf v k)) p (xgy (cf p k) (cf v k)) v)) (.t rfl) (.t rfl) (i := 5) rfl ty22 (by omega) (M' := [_, _, _, _, _, grM _ _ _]) rfl ?_
   refine st (.as (.t rfl)) rfl ?_
   refine nl ?_
   refine .bln ?_
   refine .thn (k5 _ _ ?_)
   refine .region (st (.addI (.t rfl) (Has.cI 1 rfl) (by first | omega | assumption) (by first | omega | assumption)) rfl ?_)
   refine st (.mv (.t rfl)) rfl ?_
   refine nl ?_
   refine .thn ?_
   refine hK2 (⟨(k + 1, rs.set k (mxT b k (xgx (cf p k) (cf v k)) p (xgy (cf p k) (cf v k)) v), mxT b k (-((cf v k).tdiv (xgg (cf p k) (cf v k)))) p ((cf p k).tdiv (xgg (cf p k) (cf v k))) v), by show k + 1 ≤ n; omega, by show pst b (pss b (rows, v0) k) k = _; rw [hps]; exact pst_go hp h0⟩) _ _ ?_ (Cv.trans (Cv.drop ((.cons _ (.cons _ (.cons _ (.cons _ (.cons _ (.cons_cons _ .slnil)))))))) (Cv.mem (.cons (t := 18) (Has.t' rfl ?_) (.cons (t := 1) (Has.t' rfl ?_) (.k 0 rfl (.k 17 rfl .nil)))) ?_))
   ·show n - (k + 1) < n - k; omega
   ·exact isI_eq (by omega)
   ·rfl
   ·show [grM (tN n0) gt ((rs.map some).set k (some _))] = [grM (tN n0) gt ((rs.set k _).map some)]; rw [List.map_set]
 ·have hc1 := BP.f hc1
  refine .exit ?_
  refine .the ?_
  refine .the ?_
  refine .blh ?_
  refine rtX0D (.cons_cons _ .slnil) (.inr rfl) Try.results63 rfl ?_
  exact ⟨rfl, by unfold putT; rw [hT.len, show n = k by omega, hps]⟩
theorem tri_round {gt : Gr Row} {rs : List Row} {i j : Nat} {r : Row} {N : List Int} (h : rs[i]? = some r) (hl : N.length = r.2.length) (hj : j = r.2.length) : (grM rowV gt rs :: (rs.set i (r.1, mixZ N r.2 j)).map rowM : Mem) = grM rowV gt (rs.set i (r.1, N)) :: (rs.set i (r.1, N)).map rowM := by
 subst hj; rw [mixZ_all hl, tab_set h hl]
theorem mixZ_start {a b c : Option Nat × MP} {rs : List Row} {i : Nat} {r : Row} {N : List Int} (h : rs[i]? = some r) : (a :: b :: c :: rs.map rowM : Mem) = a :: b :: c :: (rs.set i (r.1, mixZ N r.2 0)).map rowM := by
 rw [mixZ_zero, show rs.set i (r.1, r.2) = rs from set_same h]
theorem mx2_get {x y : Int} {p q : List Int} {k : Nat} (h : k < p.length) : (mx2 x p y q)[k]? = some (x * cf p k + y * cf q k) := by
 unfold mx2; rw [List.getElem?_map, List.getElem?_range h]; rfl
theorem modhnf_reduce {b : Int} {n K : Nat} {gt : Gr Row} {rs : List Row} (hn : n ≤ 64) (hbK : (List.length (words b.natAbs)) ≤ K) (hT : TriR b n (rs.map Prod.snd)) (hK : (K + 2) * 2 ^ n ≤ 80000000) : CtrX Try.prog 64 [PtrL [isGr gt n, isB (decide (b < 0)), SlM isU (words b.natAbs)]] (grM rowV gt rs :: rs.map rowM) (fun S M => ∃ rs', S = isTup [] ∧ M = (grM rowV gt rs' :: rs'.map rowM) ∧ rs'.map Prod.snd = rdT (rs.map Prod.snd) n) := by
 refine CtrX.intro Try.func64 rfl (by kernel_rfl) Try.ntmps64 rfl fun w0 F0 => ?_
 refine .cv (Cv.wk (.k 0 rfl .nil)) ?_
 have hrn : (rs.map Prod.snd).length = n := hT.len
 refine .seq fun _ k1 => .region (st (.mv (.t rfl)) rfl ?_)
 refine st (.nilcP (.t rfl)) rfl ?_
 refine st (.fieldAddrP (.t rfl) fld61_0 ty59 (Ss' := [_, _, _]) rfl) rfl ?_
 refine st (.loadP1 (.t rfl) ty59) rfl ?_
 refine st (.len sl59 (.t rfl)) rfl (st (.mv (Has.cI 0 rfl)) rfl ?_)
 refine nl (.thn (k1 _ _ ?_))
 refine .block ?_
 refine .loopF [0, 12, 13] (fun (z : { z : Nat × List Row // z.1 ≤ n ∧ z.2.map Prod.snd = rdT (rs.map Prod.snd) z.1 }) => match z with | ⟨(k, rs1), hI⟩ => [(14, isI (k : Int))]) (fun M => fun (z : { z : Nat × List Row // z.1 ≤ n ∧ z.2.map Prod.snd = rdT (rs.map Prod.snd) z.1 }) => match z with | ⟨(k, rs1), hI⟩ => (grM rowV gt rs1 :: rs1.map rowM)) (fun (z : { z : Nat × List Row // z.1 ≤ n ∧ z.2.map Prod.snd = rdT (rs.map Prod.snd) z.1 }) => match z with | ⟨(k, rs1), hI⟩ => n - k) (⟨(0, rs), Nat.zero_le _, rfl⟩) (Cv.mem (.cons (t := 14) (Has.t' rfl ?_) (.k 0 rfl (.k 12 rfl (.k 13 rfl .nil)))) ?_) ?_
 ·rfl
 ·rfl
 rintro ⟨⟨k, rs1⟩, hI⟩ K2 hK2
 refine .cv (Cv.wk (.k 14 rfl (.k 0 rfl (.k 12 rfl (.k 13 rfl .nil))))) ?_
 refine .memEq (M' := (grM rowV gt rs1 :: rs1.map rowM)) rfl ?_
 simp only [] at hI
 obtain ⟨hk, hrs1⟩ := hI
 have hl1 : rs1.length = n := by have := congrArg List.length hrs1; rwa [List.length_map, rdT_len, hrn] at this
 refine .seq fun _ k3 => .region (st (.ltI (.t rfl) (.t rfl)) rfl ?_)
 refine nl (.thn (k3 _ _ ?_))
 refine .seq fun _ k4 => ?_
 refine .cond (.t rfl) (fun hc1 => ?_) (fun hc1 => ?_)
 ·have hc1 := BP.t hc1
  obtain ⟨rk, hrk⟩ : ∃ rk, rs1[k]? = some rk := ⟨_, List.getElem?_eq_getElem (by omega)⟩
  have hp2 : (K + 2) * 2 ^ k ≤ (K + 2) * 2 ^ n := Nat.mul_le_mul_left _ (Nat.pow_le_pow_right (by decide) hk)
  have hrkD : (rdT (rs.map Prod.snd) k)[k]? = some rk.2 := by rw [← hrs1, List.getElem?_map, hrk]; rfl
  have hbA := rdT_bd hT hbK k hk
  have hrow := rdT_row hT k hk
  have hkpos := rdT_pos hT (show k < n by omega)
  rw [getD_of hrkD] at hkpos
  have hrkl := hrow rk.2 (List.mem_of_getElem? hrkD)
  have hrkB := hbA rk.2 (List.mem_of_getElem? hrkD)
  have hrkm : (rk.2.map nz).length = n := by rw [List.length_map, hrkl]
  have hrkc := hrkB k
  refine .skip ?_
  refine .thn (k4 _ _ ?_)
  refine .seq fun _ k5 => ?_
  refine .block ?_
  refine .seq fun _ k6 => .region (st (.mv (.t rfl)) rfl ?_)
  refine st (.ixGr sl59 ty22 (.t rfl) (.t rfl) ⟨by omega, by omega⟩) rfl ?_
  refine st (.loadGM (.t rfl) (i := 0) rfl ty22 hrk) rfl ?_
  refine st (.as (.t rfl)) rfl (st (.as (.t rfl)) rfl ?_)
  refine nl (.thn (k6 _ _ ?_))
  refine .seq fun _ k7 => .region (st (.mv (.t rfl)) rfl ?_)
  refine st (.mv (Has.cI 0 rfl)) rfl ?_
  refine nl (.thn (k7 _ _ ?_))
  refine .block ?_
  refine .loopF [0, 12, 13, 14, 15, 16, 17, 18, 2, 3, 19] (fun (z : { z : Nat × List Row // z.1 ≤ k ∧ z.2.map Prod.snd = rds (rdT (rs.map Prod.snd) k) k k z.1 ∧ ∀ j, z.1 ≤ j → z.2[j]? = rs1[j]? }) => match z with | ⟨(i, rs2), hI⟩ => [(20, isI (i : Int))]) (fun M => fun (z : { z : Nat × List Row // z.1 ≤ k ∧ z.2.map Prod.snd = rds (rdT (rs.map Prod.snd) k) k k z.1 ∧ ∀ j, z.1 ≤ j → z.2[j]? = rs1[j]? }) => match z with | ⟨(i, rs2), hI⟩ => (grM rowV gt rs2 :: rs2.map rowM)) (fun (z : { z : Nat × List Row // z.1 ≤ k ∧ z.2.map Prod.snd = rds (rdT (rs.map Prod.snd) k) k k z.1 ∧ ∀ j, z.1 ≤ j → z.2[j]? = rs1[j]? }) => match z with | ⟨(i, rs2), hI⟩ => k - i) (⟨(0, rs1), Nat.zero_le _, hrs1, fun j _ => rfl⟩) (Cv.mem (.cons (t := 20) (Has.t' rfl ?_) (.k 0 rfl (.k 12 rfl (.k 13 rfl (.k 14 rfl (.k 15 rfl (.k 16 rfl (.k 17 rfl (.k 18 rfl (.k 2 rfl (.k 3 rfl (.k 19 rfl .nil)))))))))))) ?_) ?_
  ·rfl
  ·rfl
  rintro ⟨⟨i, rs2⟩, hI⟩ K8 hK8
  refine .cv (Cv.wk (.k 20 rfl (.k 0 rfl (.k 12 rfl (.k 13 rfl (.k 14 rfl (.k 15 rfl (.k 16 rfl (.k 17 rfl (.k 18 rfl (.k 2 rfl (.k 3 rfl (.k 19 rfl .nil))))))))))))) ?_
  refine .memEq (M' := (grM rowV gt rs2 :: rs2.map rowM)) rfl ?_
  simp only [] at hI
  obtain ⟨hi, hrs2, hfar⟩ := hI
  have hl2 : rs2.length = n := by have := congrArg List.length hrs2; rwa [List.length_map, rds_len, rdT_len, hrn] at this
  have hrk2 := (hfar k hi).trans hrk
  refine .seq fun _ k9 => .region (st (.ltI (.t rfl) (.t rfl)) rfl ?_)
  refine nl (.thn (k9 _ _ ?_))
  refine .seq fun _ k10 => ?_
  refine .cond (.t rfl) (fun hc2 => ?_) (fun hc2 => ?_)
  ·have hc2 := BP.t hc2
   obtain ⟨r, hr⟩ : ∃ r, rs2[i]? = some r := ⟨_, List.getElem?_eq_getElem (by omega)⟩
   have hrD : (rdT (rs.map Prod.snd) k)[i]? = some r.2 := by rw [← rds_off (t := k) (col := k) (Nat.le_refl i), ← hrs2, List.getElem?_map, hr]; rfl
   have hrl := hrow r.2 (List.mem_of_getElem? hrD)
   have hrB := hbA r.2 (List.mem_of_getElem? hrD)
   have hrm : (r.2.map nz).length = n := by rw [List.length_map, hrl]
   have hrc := hrB k
   have hqn := div_nw hkpos hrc
   refine .skip ?_
   refine .thn (k10 _ _ ?_)
   refine .seq fun _ k11 => ?_
   refine .block ?_
   refine .seq fun _ k12 => .region (st (.mv (.t rfl)) rfl ?_)
   refine st (.as (.t rfl)) rfl ?_
   refine nl (.thn (k12 _ _ ?_))
   refine .seq fun _ k13 => ?_
   refine .drhS (.cons_cons _ (List.Sublist.refl _)) ?_
   refine .s [] rfl rfl rfl (.o rfl (.mv (.t rfl))) ?_
   refine .s [24] rfl rfl rfl (.o rfl (.nilcP (.t rfl))) ?_
   refine .s [25] rfl rfl rfl (.o rfl (.fieldAddrP (.t rfl) fld61_0 ty59 (Ss' := [_, _, _]) rfl)) ?_
   refine .s [26] rfl rfl rfl (.o rfl (.loadP1 (.t rfl) ty59)) ?_
   refine .s [] rfl rfl rfl (.o rfl (.mv (.t rfl))) ?_
   refine .s [27, 28] rfl rfl rfl (.o rfl (.ixGr sl59 ty22 (.t rfl) (.t rfl) ⟨by omega, by omega⟩)) ?_
   refine .s [29] rfl rfl rfl (.o rfl (.loadGM (.t rfl) (i := 0) rfl ty22 hr)) ?_
   refine .s [] rfl rfl rfl (.o rfl (.mv (.t rfl))) ?_
   refine .s [30, 31] rfl rfl rfl (.o rfl (.ixGr sl22 ty30 (.t rfl) (.t rfl) ⟨by omega, by omega⟩)) ?_
   refine .s [32] rfl rfl rfl (.o rfl (.loadGK zc_len (.t rfl) (i := 1 + i) (wkAt (pre := [_]) hr) ty30 (getZ (i := k) (by omega)))) ?_
   refine .s [] rfl rfl rfl (.o rfl (.mv (.t rfl))) ?_
   refine .s [] rfl rfl rfl (.o rfl (.mv (.t rfl))) ?_
   refine .s [34, 35] rfl rfl rfl (.o rfl (.ixGr sl22 ty30 (.t rfl) (.t rfl) ⟨by omega, by omega⟩)) ?_
   refine .s [36] rfl rfl rfl (.o rfl (.loadGK zc_len (.t rfl) (i := 1 + k) (wkAt (pre := [_]) hrk2) ty30 (getZ (i := k) (by omega)))) ?_
   refine .s [33, 37] rfl rfl rfl (.o rfl (.eq (.call (zint_Floor (by rw [val_words]; omega) (by rw [val_words]; omega) (by rw [zv_nz]; exact hkpos)) (.cons (.t rfl) (.cons (.t rfl) .nil))) ((show _ = isTup [isZ (cf r.2 k / cf rk.2 k), isZ (cf r.2 k % cf rk.2 k), isB true] from by simp only [zv_nz, zv_nf])))) ?_
   refine .s [38] rfl rfl rfl (.o rfl (.mv (.t rfl))) ?_
   refine .s [23] rfl rfl rfl (.o rfl (.ext (.t rfl) rfl)) ?_
   refine .s [23] rfl rfl rfl (.o rfl (.ext (.t rfl) rfl)) ?_
   refine .s [23] rfl rfl rfl (.o rfl (.ext (.t rfl) rfl)) ?_
   refine .als (n1 := 21) (ds := [5, 6]) (zs := [[isB false, SlM isU []], [isB false, SlM isU []]]) rfl (.cons rfl rfl zero30 (fun _ _ => ⟨rfl, nilM _ _, trivial⟩) (.cons rfl rfl zero30 (fun _ _ => ⟨rfl, nilM _ _, trivial⟩) .nil)) (.cons_cons _ (List.Sublist.refl _)) (Cs := [_, _]) rfl ?_
   refine .new [39] 0 (Ss' := [_, _]) (Cs' := [cellM [_, _], _]) rfl (by kernel_rfl) (by kernel_rfl) rfl rfl rfl (by kernel_rfl) rfl (.t rfl) ty30 rfl rfl rfl rfl ?_
   refine .new [40] 1 (Ss' := [_, _]) (Cs' := [_, cellM [_, _]]) rfl (by kernel_rfl) (by kernel_rfl) rfl rfl rfl (by kernel_rfl) rfl (.t rfl) ty30 rfl rfl rfl rfl ?_
   refine .fin (n := 23) mixed rfl (by kernel_rfl) (by kernel_rfl) (by kernel_rfl) (fun bs hbs => ?_)
   obtain ⟨b1, b2, rfl⟩ := len2 hbs
   refine .memEq (M' := (_ :: _ :: _ :: _)) rfl ?_
   refine .cv (Cv.wk (.k 0 rfl (.k 12 rfl (.k 13 rfl (.k 14 rfl (.k 15 rfl (.k 16 rfl (.k 17 rfl (.k 18 rfl (.k 2 rfl (.k 3 rfl (.k 19 rfl (.k 20 rfl (.k 21 rfl (.k 22 rfl (.k 4 rfl (.k 24 rfl (.k 25 rfl (.k 26 rfl (.k 27 rfl (.k 28 rfl (.k 29 rfl (.k 30 rfl (.k 31 rfl (.k 32 rfl (.k 33 rfl (.k 34 rfl (.k 35 rfl (.k 36 rfl (.k 37 rfl (.k 38 rfl (.k 23 rfl (.k 39 rfl (.k 40 rfl (.k 41 rfl (.cons (t := 5) (Has.op rfl) (.cons (t := 6) (Has.op rfl) .nil))))))))))))))))))))))))))))))))))))) ?_
   refine st (.as (.t rfl)) rfl ?_
   refine nl (.thn (k13 _ _ ?_))
   refine .seq fun _ k14 => .region (st (.mv (.t rfl)) rfl ?_)
   refine st (.len sl22 (.t rfl)) rfl (st (.mv (Has.cI 0 rfl)) rfl ?_)
   refine nl (.thn (k14 _ _ ?_))
   refine .block ?_
   refine .loopF [0, 12, 13, 14, 15, 16, 17, 18, 2, 3, 19, 20, 21, 22, 4, 24, 25, 26, 27, 28, 29, 30, 31, 32, 33, 34, 35, 36, 37, 38, 23, 39, 40, 41, 5, 6, 42, 43] (fun (z : { j : Nat // j ≤ n }) => match z with | ⟨j, hj⟩ => [(44, isI (j : Int))]) (fun M => fun (z : { j : Nat // j ≤ n }) => match z with | ⟨j, hj⟩ => (zM b1 (cf r.2 k / cf rk.2 k) :: zM b2 (cf r.2 k % cf rk.2 k) :: grM rowV gt rs2 :: (rs2.set i (r.1, mixZ (mx2 1 r.2 (-(cf r.2 k / cf rk.2 k)) rk.2) r.2 j)).map rowM)) (fun (z : { j : Nat // j ≤ n }) => match z with | ⟨j, hj⟩ => n - j) (⟨0, Nat.zero_le _⟩) (Cv.mem (.cons (t := 44) (Has.t' rfl ?_) (.k 0 rfl (.k 12 rfl (.k 13 rfl (.k 14 rfl (.k 15 rfl (.k 16 rfl (.k 17 rfl (.k 18 rfl (.k 2 rfl (.k 3 rfl (.k 19 rfl (.k 20 rfl (.k 21 rfl (.k 22 rfl (.k 4 rfl (.k 24 rfl (.k 25 rfl (.k 26 rfl (.k 27 rfl (.k 28 rfl (.k 29 rfl (.k 30 rfl (.k 31 rfl (.k 32 rfl (.k 33 rfl (.k 34 rfl (.k 35 rfl (.k 36 rfl (.k 37 rfl (.k 38 rfl (.k 23 rfl (.k 39 rfl (.k 40 rfl (.k 41 rfl (.k 5 rfl (.k 6 rfl (.k 42 rfl (.k 43 rfl .nil))))))))))))))))))))))))))))))))))))))) ?_) ?_
   ·rfl
   ·exact mixZ_start hr
   rintro ⟨j, hj⟩ K15 hK15
   refine .cv (Cv.wk (.k 44 rfl (.k 0 rfl (.k 12 rfl (.k 13 rfl (.k 14 rfl (.k 15 rfl (.k 16 rfl (.k 17 rfl (.k 18 rfl (.k 2 rfl (.k 3 rfl (.k 19 rfl (.k 20 rfl (.k 21 rfl (.k 22 rfl (.k 4 rfl (.k 24 rfl (.k 25 rfl (.k 26 rfl (.k 27 rfl (.k 28 rfl (.k 29 rfl (.k 30 rfl (.k 31 rfl (.k 32 rfl (.k 33 rfl (.k 34 rfl (.k 35 rfl (.k 36 rfl (.k 37 rfl (.k 38 rfl (.k 23 rfl (.k 39 rfl (.k 40 rfl (.k 41 rfl (.k 5 rfl (.k 6 rfl (.k 42 rfl (.k 43 rfl .nil)))))))))))))))))))))))))))))))))))))))) ?_
   refine .memEq (M' := (zM b1 (cf r.2 k / cf rk.2 k) :: zM b2 (cf r.2 k % cf rk.2 k) :: grM rowV gt rs2 :: (rs2.set i (r.1, mixZ (mx2 1 r.2 (-(cf r.2 k / cf rk.2 k)) rk.2) r.2 j)).map rowM)) rfl ?_
   have hset : (rs2.set i (r.1, mixZ (mx2 1 r.2 (-(cf r.2 k / cf rk.2 k)) rk.2) r.2 j))[i]? = some (r.1, mixZ (mx2 1 r.2 (-(cf r.2 k / cf rk.2 k)) rk.2) r.2 j) := List.getElem?_set_self (by omega)
   have hsetk : (rs2.set i (r.1, mixZ (mx2 1 r.2 (-(cf r.2 k / cf rk.2 k)) rk.2) r.2 j))[k]? = some rk := (List.getElem?_set_ne (by omega)).trans hrk2
   refine .seq fun _ k16 => .region (st (.ltI (.t rfl) (.t rfl)) rfl ?_)
   refine nl (.thn (k16 _ _ ?_))
   refine .seq fun _ k17 => ?_
   refine .cond (.t rfl) (fun hc3 => ?_) (fun hc3 => ?_)
   ·have hc3 := BP.t hc3
    have hrj := hrB j
    have hkj := hrkB j
    have hmj := nz_mul (cf r.2 k / cf rk.2 k) (cf rk.2 j)
    refine .skip ?_
    refine .thn (k17 _ _ ?_)
    refine .seq fun _ k18 => ?_
    refine .block ?_
    refine .seq fun _ k19 => .region (st (.mv (.t rfl)) rfl ?_)
    refine st (.as (.t rfl)) rfl ?_
    refine nl (.thn (k19 _ _ ?_))
    refine .dry mixed ?_
    refine .tk 0 rfl rfl rfl rfl (OKY.mv (.t rfl)) ?_
    refine .tk 4 rfl rfl rfl rfl (OKY.mv (.t rfl)) ?_
    refine .tk 7 rfl rfl rfl rfl (OKY.mv (.t rfl)) ?_
    refine .tk 8 rfl rfl rfl rfl (OKY.mv (.t rfl)) ?_
    refine .tk 12 rfl rfl rfl rfl (OKY.mv (.t rfl)) ?_
    refine .tk 15 rfl rfl rfl rfl (OKY.mv (.t rfl)) ?_
    refine .tk 19 rfl rfl rfl rfl (OKY.mv (.t rfl)) ?_
    refine .tk 20 rfl rfl rfl rfl (OKY.mv (.t rfl)) ?_
    refine .go [] ?_
    refine .s 1 [] rfl rfl rfl (.o rfl (.nilcP (.t rfl))) ?_
    refine .s 2 [48] rfl rfl rfl (.o rfl (.fieldAddrP (.t rfl) fld61_0 ty59 (Ss' := [_, _, _]) rfl)) ?_
    refine .s 3 [49] rfl rfl rfl (.o rfl (.loadP1 (.t rfl) ty59)) ?_
    refine .s 5 [50] rfl rfl rfl (.o rfl (.ixGr sl59 ty22 (.t rfl) (.t rfl) ⟨by omega, by omega⟩)) ?_
    refine .s 6 [52] rfl rfl rfl (.o rfl (.loadGM (.t rfl) (i := 2) rfl ty22 hr)) ?_
    refine .s 9 [] rfl rfl rfl (.o rfl (.nilcP (.t rfl))) ?_
    refine .s 10 [56] rfl rfl rfl (.o rfl (.fieldAddrP (.t rfl) fld61_0 ty59 (Ss' := [_, _, _]) rfl)) ?_
    refine .s 11 [57] rfl rfl rfl (.o rfl (.loadP1 (.t rfl) ty59)) ?_
    refine .s 13 [58] rfl rfl rfl (.o rfl (.ixGr sl59 ty22 (.t rfl) (.t rfl) ⟨by omega, by omega⟩)) ?_
    refine .s 14 [60] rfl rfl rfl (.o rfl (.loadGM (.t rfl) (i := 2) rfl ty22 hr)) ?_
    refine .s 16 [61] rfl rfl rfl (.o rfl (.ixGr sl22 ty30 (.t rfl) (.t rfl) ⟨by omega, by omega⟩)) ?_
    refine .s 17 [63] rfl rfl rfl (.o rfl (.loadGK zc_len (.t rfl) (i := 3 + i) (wkAt (pre := [_, _, _]) (r := (r.1, mixZ (mx2 1 r.2 (-(cf r.2 k / cf rk.2 k)) rk.2) r.2 j)) hset) ty30 (show ((mixZ (mx2 1 r.2 (-(cf r.2 k / cf rk.2 k)) rk.2) r.2 j).map nz)[j]? = some (nz (cf r.2 j)) from by rw [List.getElem?_map, mixZ_at (mx2_len _ _ _ _) (by omega)]; rfl))) ?_
    refine .s 18 [] rfl rfl rfl (.o rfl (.load (.t rfl) (i := 0) rfl ty30 rfl (Ss' := [_, _]) rfl)) ?_
    refine .s 21 [] rfl rfl rfl (.o rfl (.ixGr sl22 ty30 (.t rfl) (.t rfl) ⟨by omega, by omega⟩)) ?_
    refine .s 22 [68] rfl rfl rfl (.o rfl (.loadGK zc_len (.t rfl) (i := 3 + k) (wkAt (pre := [_, _, _]) hsetk) ty30 (getZ (i := j) (by omega)))) ?_
    refine .s 23 [65, 69] rfl rfl rfl (.o rfl (.eq (.call (zint_Mul (by rw [val_words]; omega) (by rw [val_words]; omega)) (.cons (.t rfl) (.cons (.t rfl) .nil))) ((show _ = isZ ((cf r.2 k / cf rk.2 k) * cf rk.2 j) from isZ_eq (by simp only [zv_nz, zv_nf]))))) ?_
    refine .s 24 [64, 70] rfl rfl rfl (.o rfl (.eq (.call (zint_Sub (by rw [val_words]; omega) (by rw [val_words]; omega)) (.cons (.t rfl) (.cons (.t rfl) .nil))) ((show isZ _ = Flat (zc (nz (1 * cf r.2 j + -(cf r.2 k / cf rk.2 k) * cf rk.2 j))) from isZ_eq (by simp only [zv_nz, zv_nf]; rw [Int.one_mul, Int.neg_mul]; omega))))) ?_
    refine .fin [25, 26] (by kernel_rfl) (by kernel_rfl) (fun _ _ _ _ _ h => h) (by kernel_rfl) (by kernel_rfl) (by kernel_rfl) (by kernel_rfl) (by kernel_rfl) (by kernel_rfl) (by kernel_rfl) (by kernel_rfl) (by kernel_rfl) ?_
    refine .cv (Cv.wk (.k 0 rfl (.k 12 rfl (.k 13 rfl (.k 14 rfl (.k 15 rfl (.k 16 rfl (.k 17 rfl (.k 18 rfl (.k 2 rfl (.k 3 rfl (.k 19 rfl (.k 20 rfl (.k 21 rfl (.k 22 rfl (.k 4 rfl (.k 24 rfl (.k 25 rfl (.k 26 rfl (.k 27 rfl (.k 28 rfl (.k 29 rfl (.k 30 rfl (.k 31 rfl (.k 32 rfl (.k 33 rfl (.k 34 rfl (.k 35 rfl (.k 36 rfl (.k 37 rfl (.k 38 rfl (.k 23 rfl (.k 39 rfl (.k 40 rfl (.k 41 rfl (.k 5 rfl (.k 6 rfl (.k 42 rfl (.k 43 rfl (.k 44 rfl (.k 45 rfl (.k 46 rfl (.k 8 rfl (.k 47 rfl (.k 51 rfl (.k 54 rfl (.k 55 rfl (.k 59 rfl (.k 62 rfl (.k 66 rfl (.k 67 rfl (.k 48 rfl (.k 49 rfl (.k 50 rfl (.k 52 rfl (.k 53 rfl (.k 56 rfl (.k 57 rfl (.k 58 rfl (.k 60 rfl (.k 61 rfl (.k 63 rfl (.k 64 rfl (.k 65 rfl (.k 68 rfl (.k 69 rfl (.k 70 rfl (.k 71 rfl .nil)))))))))))))))))))))))))))))))))))))))))))))))))))))))))))))))))))) ?_
    refine st (.ixGr sl22 ty30 (.t rfl) (.t rfl) ⟨by omega, by omega⟩) rfl ?_
    refine .storeGK (z := nz (1 * cf r.2 j + -(cf r.2 k / cf rk.2 k) * cf rk.2 j)) zc_len (.t rfl) (.t rfl) (i := 3 + i) (wkAt (pre := [_, _, _]) (r := (r.1, mixZ (mx2 1 r.2 (-(cf r.2 k / cf rk.2 k)) rk.2) r.2 j)) hset) ty30 (by rw [List.length_map, mixZ_len (mx2_len _ _ _ _) (by omega)]; omega) (M' := (_ :: _ :: _ :: (rs2.set i (r.1, mixZ (mx2 1 r.2 (-(cf r.2 k / cf rk.2 k)) rk.2) r.2 (j + 1))).map rowM)) (wkStore (pre := [_, _, _]) (X := (r.1, mixZ (mx2 1 r.2 (-(cf r.2 k / cf rk.2 k)) rk.2) r.2 j)) hset (mixZ_set (mx2_len _ _ _ _) (by omega) (mx2_get (by omega)))) ?_
    refine nl ?_
    refine .bln ?_
    refine .thn (k18 _ _ ?_)
    refine .region (st (.addI (.t rfl) (Has.cI 1 rfl) (by first | omega | assumption) (by first | omega | assumption)) rfl ?_)
    refine st (.mv (.t rfl)) rfl ?_
    refine nl ?_
    refine .thn ?_
    refine hK15 (⟨j + 1, by omega⟩) _ _ ?_ (Cv.mem (.cons (t := 44) (Has.t' rfl ?_) (.k 0 rfl (.k 12 rfl (.k 13 rfl (.k 14 rfl (.k 15 rfl (.k 16 rfl (.k 17 rfl (.k 18 rfl (.k 2 rfl (.k 3 rfl (.k 19 rfl (.k 20 rfl (.k 21 rfl (.k 22 rfl (.k 4 rfl (.k 24 rfl (.k 25 rfl (.k 26 rfl (.k 27 rfl (.k 28 rfl (.k 29 rfl (.k 30 rfl (.k 31 rfl (.k 32 rfl (.k 33 rfl (.k 34 rfl (.k 35 rfl (.k 36 rfl (.k 37 rfl (.k 38 rfl (.k 23 rfl (.k 39 rfl (.k 40 rfl (.k 41 rfl (.k 5 rfl (.k 6 rfl (.k 42 rfl (.k 43 rfl .nil))))))))))))))))))))))))))))))))))))))) ?_)
    ·show n - (j + 1) < n - j; omega
    ·exact isI_eq (by omega)
    ·rfl
   ·have hc3 := BP.f hc3
    refine .exit ?_
    refine .the ?_
    refine .the ?_
    refine .blh ?_
    refine .bln ?_
    refine .thn (k11 _ _ ?_)
    refine .region (st (.addI (.t rfl) (Has.cI 1 rfl) (by first | omega | assumption) (by first | omega | assumption)) rfl ?_)
    refine st (.mv (.t rfl)) rfl ?_
    refine nl ?_
    refine .thn ?_
    have hjn : j = r.2.length := by omega
    refine hK8 (⟨(i + 1, rs2.set i (r.1, (mx2 1 r.2 (-(cf r.2 k / cf rk.2 k)) rk.2))), by show i + 1 ≤ k; omega, by show (rs2.set i _).map Prod.snd = rd _ _ _ _; rw [List.map_set, hrs2]; exact (rd_go (by rw [← hrs2, List.getElem?_map, hr]; rfl) (by rw [← hrs2, List.getElem?_map, hrk2]; rfl)).symm, fun j hj => by show (rs2.set i _)[j]? = _; rw [List.getElem?_set_ne (by change i + 1 ≤ j at hj; omega)]; exact hfar j (by change i + 1 ≤ j at hj; omega)⟩) _ _ ?_ (Cv.trans (Cv.drop ((.cons _ (.cons _ (.cons_cons _ (List.Sublist.refl _)))))) (Cv.mem (.cons (t := 20) (Has.t' rfl ?_) (.k 0 rfl (.k 12 rfl (.k 13 rfl (.k 14 rfl (.k 15 rfl (.k 16 rfl (.k 17 rfl (.k 18 rfl (.k 2 rfl (.k 3 rfl (.k 19 rfl .nil)))))))))))) ?_))
    ·show k - (i + 1) < k - i; omega
    ·exact isI_eq (by omega)
    ·exact tri_round hr (mx2_len _ _ _ _) hjn
  ·have hc2 := BP.f hc2
   refine .exit ?_
   refine .the ?_
   refine .the ?_
   refine .blh ?_
   refine .bln ?_
   refine .thn (k5 _ _ ?_)
   refine .region (st (.addI (.t rfl) (Has.cI 1 rfl) (by first | omega | assumption) (by first | omega | assumption)) rfl ?_)
   refine st (.mv (.t rfl)) rfl ?_
   refine nl ?_
   refine .thn ?_
   have hik : i = k := by omega
   refine hK2 (⟨(k + 1, rs2), by show k + 1 ≤ n; omega, by show rs2.map Prod.snd = rds _ _ _ _; rw [hrs2, hik]⟩) _ _ ?_ (Cv.mem (.cons (t := 14) (Has.t' rfl ?_) (.k 0 rfl (.k 12 rfl (.k 13 rfl .nil)))) ?_)
   ·show n - (k + 1) < n - k; omega
   ·exact isI_eq (by omega)
   ·rfl
 ·have hc1 := BP.f hc1
  refine .exit ?_
  refine .the ?_
  refine .the ?_
  refine .blh ?_
  refine rtX0 (.inr rfl) Try.results64 rfl ?_
  exact ⟨rs1, rfl, rfl, by rw [hrs1, show k = n by omega]⟩
end Go.Proofs.Ythkdmhaafanjlaa
namespace Go.Dt
open RowF Go.Br Go.Pz
def choices : Nat → Nat → List (List Nat)
 | _, 0 => [[]]
 | 0, _ + 1 => []
 | m + 1, n + 1 => if m + 1 < n + 1 then [] else choices m (n + 1) ++ (choices m n).map (fun l => l ++ [m])
theorem choices_zero (m : Nat) : choices m 0 = [[]] := by cases m <;> rfl
theorem choices_nil {m n : Nat} (h : m < n) : choices m n = [] := by
  cases n with
  | zero => omega
  | succ n =>
    cases m with
    | zero => rfl
    | succ m => unfold choices; rw [if_pos h]
theorem choices_succ {m n : Nat} (h : n ≤ m) : choices (m + 1) (n + 1) = choices m (n + 1) ++ (choices m n).map (fun l => l ++ [m]) := by
 show (if _ then _ else _) = _
 rw [if_neg (by omega)]
theorem choices_spec : ∀ (m n : Nat) (Y : List Nat), Y ∈ choices m n → Y.length = n ∧ ∀ x ∈ Y, x < m
  | m, 0, Y, h => by
    rw [choices_zero] at h
    obtain rfl := List.mem_singleton.1 h
    exact ⟨rfl, by simp⟩
  | 0, _ + 1, Y, h => by cases h
  | m + 1, n + 1, Y, h => by
    by_cases hm : m + 1 < n + 1
    · rw [choices_nil hm] at h; cases h
    · rw [choices_succ (by omega)] at h
      rcases List.mem_append.1 h with h | h
      · obtain ⟨h1, h2⟩ := choices_spec m (n + 1) Y h
        exact ⟨h1, fun x hx => Nat.lt_succ_of_lt (h2 x hx)⟩
      · obtain ⟨Z, hZ, rfl⟩ := List.mem_map.1 h
        obtain ⟨h1, h2⟩ := choices_spec m n Z hZ
        refine ⟨by rw [List.length_append, h1]; rfl, fun x hx => ?_⟩
        rcases List.mem_append.1 hx with hx | hx
        · exact Nat.lt_succ_of_lt (h2 x hx)
        · rw [List.mem_singleton.1 hx]; exact Nat.lt_succ_self m
theorem choices_perm : ∀ (m n : Nat) (X : List Nat), X.Nodup → X.length = n → (∀ x ∈ X, x < m) → ∃ Y, Y ∈ choices m n ∧ Y.Perm X
  | m, 0, X, _, hl, _ => by
    obtain rfl := List.eq_nil_of_length_eq_zero hl
    exact ⟨[], by rw [choices_zero]; exact List.mem_singleton.2 rfl, List.Perm.refl _⟩
  | 0, n + 1, x :: X, _, _, h => absurd (h x (by simp)) (Nat.not_lt_zero _)
  | m + 1, n + 1, X, hd, hl, h => by
    by_cases hm : m ∈ X
    · have hp := List.perm_cons_erase hm
      have hd2 := (hp.nodup_iff.1 hd)
      obtain ⟨hd3, hd4⟩ := List.nodup_cons.1 hd2
      obtain ⟨Y, hY, hYp⟩ := choices_perm m n (X.erase m) hd4 (by rw [List.length_erase_of_mem hm, hl]; rfl) fun x hx => by
        have h1 := h x (List.mem_of_mem_erase hx)
        have h2 : x ≠ m := fun e => hd3 (e ▸ hx)
        omega
      have hnm : n ≤ m := by
        rcases Nat.lt_or_ge m n with h1 | h1
        · rw [choices_nil h1] at hY; cases hY
        · exact h1
      refine ⟨Y ++ [m], by rw [choices_succ hnm]; exact List.mem_append_right _ (List.mem_map.2 ⟨Y, hY, rfl⟩), ?_⟩
      exact (List.perm_append_singleton m Y).trans ((hYp.cons m).trans hp.symm)
    · obtain ⟨Y, hY, hYp⟩ := choices_perm m (n + 1) X hd hl fun x hx => by
        have h1 := h x hx
        have h2 : x ≠ m := fun e => hm (e ▸ hx)
        omega
      have hnm : n ≤ m := by
        rcases Nat.lt_or_ge m (n + 1) with h1 | h1
        · rw [choices_nil h1] at hY; cases hY
        · omega
      exact ⟨Y, by rw [choices_succ hnm]; exact List.mem_append_left _ hY, hYp⟩
def someM (A : MatF) (R : Nat) (cols : List Nat) : Bool := (choices R cols.length).any fun rs => decide (mn A rs cols ≠ 0)
def pivs (A : MatF) (R : Nat) : Nat → List Nat
 | 0 => []
 | c + 1 => if someM A R (pivs A R c ++ [c]) = true then pivs A R c ++ [c] else pivs A R c
theorem BI.some_yes {A : MatF} {R C c i : Nat} {s : BS} {q : List Nat} {r : List Int} (h : BI A R C c s q) (hti : s.ps.length ≤ i) (hi : s.rows[i]? = some r) (hc : c < C) (hne : cf r c ≠ 0) : someM A R (s.ps ++ [c]) = true := by
 have hiR : i < R := by have := lt_some hi; have := h.hR; omega
 have hw := h.row i r hti hi c hc
 have hql := h.hq
 have hqi : q[i]? = some (q.getD i 0) := some_getD (by rw [h.hq]; exact hiR)
 have e1 : mn A (q.take s.ps.length ++ [q.getD i 0]) (s.ps ++ [c]) ≠ 0 := by
  rw [← mn_rev A (by rw [List.length_append, List.length_append, List.length_take]; simp; omega), List.reverse_append, List.reverse_append]
  show mn A (q.getD i 0 :: (q.take s.ps.length).reverse) (c :: s.ps.reverse) ≠ 0
  rw [← hw]; exact hne
 have hnd : (q.take s.ps.length ++ [q.getD i 0]).Nodup := by
  rw [List.nodup_append]
  refine ⟨h.nd.sublist (List.take_sublist _ _), by simp, fun a ha b hb e => ?_⟩
  rw [List.mem_singleton.1 hb] at e
  obtain ⟨j, hj, e2⟩ := List.mem_iff_getElem.1 ha
  rw [List.length_take] at hj
  rw [List.getElem_take] at e2
  refine (List.pairwise_iff_getElem.1 h.nd) j i (by omega) (by omega) (by omega) ?_
  rw [List.getElem?_eq_getElem (by omega)] at hqi
  rw [Option.some.inj hqi, e2, e]
 obtain ⟨Y, hY, hp⟩ := choices_perm R (s.ps ++ [c]).length (q.take s.ps.length ++ [q.getD i 0]) hnd (by rw [List.length_append, List.length_append, List.length_take]; simp; omega) fun x hx => by
  rcases List.mem_append.1 hx with hx | hx
  ·exact h.lt x (List.mem_of_mem_take hx)
  ·rw [List.mem_singleton.1 hx]; exact h.lt _ (List.mem_of_getElem? hqi)
 unfold someM
 rw [List.any_eq_true]
 exact ⟨Y, hY, decide_eq_true (mn_perm A hp.symm [] e1)⟩
theorem BI.some_no {A : MatF} {R C c : Nat} {s : BS} {q : List Nat} (h : BI A R C c s q) (hc : c < C) (hz : ∀ (j : Nat) (r : List Int), s.ps.length ≤ j → s.rows[j]? = some r → cf r c = 0) : someM A R (s.ps ++ [c]) = false := by
 obtain ⟨rs, hrs⟩ : ∃ rs, rs = (q.take s.ps.length).reverse := ⟨_, rfl⟩
 have hql := h.hq
 have hpl := h.hps
 have hrl : rs.length = s.ps.length := by rw [hrs, List.length_reverse, List.length_take]; omega
 have hD : mn A rs s.ps.reverse ≠ 0 := by rw [hrs, ← h.hl]; exact h.h0
 have hzero : ∀ y, y < R → ∀ k, k ∈ s.ps ++ [c] → mn A (y :: rs) (k :: s.ps.reverse) = 0 := by
  intro y hy k hk
  rcases List.mem_append.1 hk with hk | hk
  ·exact mn_col A (by rw [List.length_reverse, hrl]) y (List.mem_reverse.2 hk)
  ·rw [List.mem_singleton.1 hk]
   by_cases hm : y ∈ rs
   ·exact mn_row A hm c
   ·have hyq : y ∈ q := h.pm.mem_iff.2 (List.mem_range.2 hy)
    obtain ⟨j, hj, e⟩ := mem_getD hyq
    have htj : s.ps.length ≤ j := by
     rcases Nat.lt_or_ge j s.ps.length with h1 | h1
     ·refine absurd ?_ hm
      rw [hrs, List.mem_reverse, ← e]
      rw [List.getD, List.getElem?_eq_getElem hj]
      show q[j] ∈ _
      have : q[j] = (q.take s.ps.length)[j]'(by rw [List.length_take]; omega) := (List.getElem_take).symm
      rw [this]; exact List.getElem_mem _
     ·exact h1
    have hjr : j < s.rows.length := by rw [h.hR]; omega
    have hr := List.getElem?_eq_getElem hjr
    rw [← e, hrs, ← h.row j _ htj hr c hc]
    exact hz j _ htj hr
 unfold someM
 rw [List.any_eq_false]
 intro Y hY
 obtain ⟨h1, h2⟩ := choices_spec _ _ _ hY
 have hc1 : (s.ps ++ [c]).length = s.ps.length + 1 := by simp
 have h0 : mn A Y (s.ps ++ [c]) = 0 := by
  unfold mn
  rw [h1, hc1]
  refine det_few (D := mn A rs s.ps.reverse) hD (e := fun i r => - ec A rs s.ps.reverse (Y.getD i 0) r) (V := fun r j => A (rs.getD r 0) ((s.ps ++ [c]).getD j 0)) fun i j hi hj => ?_
  have hx := mn_exp A rs s.ps.reverse (Y.getD i 0) ((s.ps ++ [c]).getD j 0)
  rw [hzero _ (h2 _ (getD_mem (by omega))) _ (getD_mem (by omega)), hrl] at hx
  have hs : (sm s.ps.length fun r => - ec A rs s.ps.reverse (Y.getD i 0) r * A (rs.getD r 0) ((s.ps ++ [c]).getD j 0)) = - sm s.ps.length fun r => ec A rs s.ps.reverse (Y.getD i 0) r * A (rs.getD r 0) ((s.ps ++ [c]).getD j 0) := by
   have := sm_smul (-1) (fun r => ec A rs s.ps.reverse (Y.getD i 0) r * A (rs.getD r 0) ((s.ps ++ [c]).getD j 0)) s.ps.length
   rw [show -1 * (sm s.ps.length fun r => ec A rs s.ps.reverse (Y.getD i 0) r * A (rs.getD r 0) ((s.ps ++ [c]).getD j 0)) = - sm s.ps.length fun r => ec A rs s.ps.reverse (Y.getD i 0) r * A (rs.getD r 0) ((s.ps ++ [c]).getD j 0) by omega] at this
   rw [← this]
   exact sm_congr fun r _ => by rw [Int.neg_mul]; omega
  rw [hs]
  show mn A rs s.ps.reverse * A (Y.getD i 0) ((s.ps ++ [c]).getD j 0) = _
  omega
 rw [h0]; decide
theorem BI.pivs {A : MatF} {R C : Nat} {s0 : BS} {q0 : List Nat} (h0 : BI A R C 0 s0 q0) (hp : s0.ps = []) : ∀ {c : Nat} {s : BS}, BRun s0 c s → c ≤ C → s.ps = Go.Dt.pivs A R c := by
  intro c s h
  induction h with
  | zero => exact fun _ => hp
  | @step c s s' hr hs ih =>
    intro hc
    obtain ⟨q, hq⟩ := h0.all hr (by omega)
    have e := ih (by omega)
    show _ = if someM A R (Go.Dt.pivs A R c ++ [c]) = true then _ else _
    rw [← e]
    rcases hs with ⟨rfl, hz⟩ | ⟨i, r, t, sw, hti, hi, ht, hne, hsw, k1, k2, k3, k4, k5⟩
    · rw [if_neg (by rw [hq.some_no (by omega) hz]; decide)]
    · rw [if_pos (hq.some_yes hti hi (by omega) hne)]; exact k3
end Go.Dt
namespace Go.En
open Go.RowKit Go.Dt Go.Pz Go.Nt Go.Mz
section
variable {P : Program} {α : Type} {f : α → VP}
theorem CtrX.freeze {g : FuncId} {args : List VP} {ys : List α} (h : CtrX P g args [] (fun S M => ∃ gr : Gr α, S = isGr gr ys.length ∧ M = [grM f gr ys])) : Ctr P g args (SlM f ys) :=
 ⟨h.1, fun w F vs hF hargs => (h.2 w F vs hF ⟨List.Pairwise.nil, by simp⟩ hargs).mono (by
  rintro e w' ⟨v, S', M', F', rfl, ⟨gr, rfl, rfl⟩, hk, hsub, hnew, hv, _, heach⟩
  refine ⟨v, rfl, hk, ?_⟩
  rcases hv with ⟨h1, h2, rfl⟩ | ⟨b, hob, rfl, h1, h2⟩
  ·obtain rfl : ys = [] := List.eq_nil_of_length_eq_zero h2
   exact nilM _ _
  ·obtain ⟨g1, g2, g3, o, g4, us, T, rfl, hu⟩ := heach b (cellM ((ys ++ gr.sp).map f)) (by unfold grM; rw [hob]; simp)
   have hb : fresh F w w' b := by
    rcases g1 with g1 | g1
    ·exact .inr ⟨g1, g2⟩
    ·exact absurd g1 (by simp [blks])
   rw [List.map_append] at hu
   have hu2 := hu.take ys.length
   rw [List.take_left' (by simp)] at hu2
   refine ⟨_, _, rfl, by omega, h2, by simp, .inr ⟨b, 0, rfl, hb, us.take ys.length, All2.mono (fun _ _ => rfl) hnew _ _ hu2, fun j u hj => ?_⟩⟩
   rw [Nat.zero_add]
   have hj2 : j < ys.length := by
    rcases Nat.lt_or_ge j ys.length with h | h
    ·exact h
    ·rw [List.getElem?_take_eq_none h] at hj; cases hj
   rw [List.getElem?_take_of_lt hj2] at hj
   simp [World.cell?, g4, hj])⟩
end
theorem rtXND {E : Env} {P : Program} {Γ : Ctx} {M M' : Mem} {fn : Func} {rs : List ResultVar} {Rs : List VP} {R : VP → Mem → Prop} {W : List Nat} {e : Exit} (hs : M'.Sublist M) (he : e = .ret ∨ e = .normal) (hr : fn.results = rs.toArray) (hn : Nat.beq rs.length 1 = false) (hw : E.W = W) (h : ResL E P Γ M rs Rs) (hR : R (isTup Rs) M') : At E Γ M (bodyPost P fn (RetX E.w0 E.F0 W R)) e := by
 intro a w F s
 obtain ⟨vs, h1, h2⟩ := run_results hr h s
 have hl : Rs.length = rs.length := by
  clear h1 h2 s a w F vs hR
  clear hn hr
  induction h with
  | nil => rfl
  | tmp _ _ ih => simp [ih]
  | cell _ _ _ _ _ _ ih => simp [ih]
  | cell1 _ _ _ _ _ ih => simp [ih]
 have hne : vs.length ≠ 1 := by rw [← h2.len, hl]; exact Nat.ne_of_beq_eq_false hn
 rw [dif_neg hne] at h1
 exact fin_retXD (S := isTup Rs) hs he s hw h1 ⟨vs, rfl, h2⟩ hR
def fltn : List (List Int) → List Int
 | [] => []
 | r :: l => r ++ fltn l
theorem fltn_snoc {rs : List (List Int)} {i : Nat} {r : List Int} (h : rs[i]? = some r) : fltn (rs.take (i + 1)) = fltn (rs.take i) ++ r := by
 rw [List.take_add_one, h]
 have : ∀ l : List (List Int), fltn (l ++ [r]) = fltn l ++ r := fun l => by
  induction l with
  | nil => show r ++ [] = [] ++ r; rw [List.append_nil, List.nil_append]
  | cons a l ih => show a ++ fltn (l ++ [r]) = (a ++ fltn l) ++ r; rw [ih, List.append_assoc]
 exact this _
theorem fltn_len {W : Nat} : ∀ {rs : List (List Int)}, (∀ r ∈ rs, r.length ≤ W) → (fltn rs).length ≤ rs.length * W
  | [], _ => by simp [fltn]
  | r :: l, h => by
    have := fltn_len (rs := l) fun x hx => h x (List.mem_cons_of_mem _ hx)
    have := h r List.mem_cons_self
    show (r ++ fltn l).length ≤ _
    rw [List.length_append, List.length_cons, Nat.succ_mul]; omega
theorem run_pivs {R C K : Nat} {L : List Int} {rs : List Row} {ps : List Nat} {last : Int} {odd : Bool} (h : RunI ⟨rowsOf R C L, [], 1, false⟩ C K R C rs ps last odd) : ps = Go.Dt.pivs (mf C L) R C :=
 BI.pivs (BI.start (mf C L) (R := R) (C := C) (L := L) fun _ _ _ _ => rfl) rfl h.run (Nat.le_refl _)
end Go.En
namespace Go.Ch
open Go.Dt Go.Dt.RowF
/-! ### polynomials as functions -/
def pe (c : Nat → Int) (d : Nat) (x : Int) : Int := sm d fun i => c i * x ^ i
theorem pe_left (c : Nat → Int) (d : Nat) (x : Int) : pe c (d + 1) x = c 0 + x * pe (fun i => c (i + 1)) d x := by
 unfold pe
 rw [sm_left, Int.pow_zero, Int.mul_one, ← sm_smul]
 congr 1
 exact sm_congr fun i _ => by rw [Int.pow_succ]; grind
theorem pe_lin (x y : Int) (c e : Nat → Int) (d : Nat) (z : Int) : pe (fun i => x * c i + y * e i) d z = x * pe c d z + y * pe e d z := by
 unfold pe
 rw [← sm_lin]
 exact sm_congr fun i _ => by grind
theorem pe_succ (c : Nat → Int) (d : Nat) (x : Int) : pe c (d + 1) x = pe c d x + c d * x ^ d := rfl
theorem pe_congr {c e : Nat → Int} {d : Nat} (h : ∀ i, i < d → c i = e i) (x : Int) : pe c d x = pe e d x := sm_congr fun i hi => by rw [h i hi]
def PL (n : Nat) (f : Int → Int) (t : Int) : Prop := ∃ c : Nat → Int, (∀ x, f x = pe c (n + 1) x) ∧ c n = t
theorem PL.const (a : Int) : PL 0 (fun _ => a) a := ⟨fun _ => a, fun x => by show a = 0 + a * x ^ 0; rw [Int.pow_zero]; omega, rfl⟩
theorem PL.up {n : Nat} {f : Int → Int} {t : Int} (h : PL n f t) : PL (n + 1) f 0 := by
 obtain ⟨c, hc, _⟩ := h
 refine ⟨fun i => if i ≤ n then c i else 0, fun x => ?_, if_neg (by omega)⟩
 rw [pe_succ, if_neg (by omega), Int.zero_mul, Int.add_zero, hc]
 exact pe_congr (fun i hi => (if_pos (by omega)).symm) x
theorem PL.lin {n : Nat} {f g : Int → Int} {s t : Int} (a b : Int) (hf : PL n f s) (hg : PL n g t) : PL n (fun x => a * f x + b * g x) (a * s + b * t) := by
 obtain ⟨c, hc, rfl⟩ := hf
 obtain ⟨e, he, rfl⟩ := hg
 exact ⟨fun i => a * c i + b * e i, fun x => by dsimp only; rw [pe_lin, hc, he], rfl⟩
theorem PL.shift {n : Nat} {f : Int → Int} {t : Int} (h : PL n f t) : PL (n + 1) (fun x => x * f x) t := by
 obtain ⟨c, hc, rfl⟩ := h
 refine ⟨fun i => if i = 0 then 0 else c (i - 1), fun x => ?_, by dsimp only; rw [if_neg (by omega)]; rfl⟩
 dsimp only
 rw [pe_left, if_pos rfl, Int.zero_add, hc]
 congr 1
theorem PL.mul {n : Nat} {g : Int → Int} {t : Int} (a b : Int) (h : PL n g t) : PL (n + 1) (fun x => (a * x + b) * g x) (a * t) := by
 have := PL.lin a b h.shift h.up
 rw [Int.mul_zero, Int.add_zero] at this
 obtain ⟨c, hc, ht⟩ := this
 exact ⟨c, fun x => by rw [← hc]; dsimp only; grind, ht⟩
theorem PL.zero (n : Nat) : PL n (fun _ => 0) 0 := ⟨fun _ => 0, fun x => by unfold pe; rw [sm_zero fun i _ => Int.zero_mul _], rfl⟩
theorem PL.sum {n : Nat} {f : Nat → Int → Int} {t : Nat → Int} : ∀ {m : Nat}, (∀ k, k < m → PL n (f k) (t k)) → PL n (fun x => sm m fun k => f k x) (sm m t)
  | 0, _ => PL.zero n
  | m + 1, h => by
    have h1 := PL.sum (m := m) fun k hk => h k (by omega)
    have h2 := PL.lin 1 1 h1 (h m (by omega))
    obtain ⟨c, hc, ht⟩ := h2
    exact ⟨c, fun x => by rw [← hc]; dsimp only; show sm m (fun k => f k x) + f m x = _; omega, by rw [ht]; show _ = sm m t + t m; omega⟩
theorem PL.det : ∀ (n : Nat) (a b : MatF), PL n (fun x => Go.Dt.det n fun i j => a i j * x + b i j) (Go.Dt.det n a)
  | 0, a, b => PL.const 1
  | n + 1, a, b => by
    have h : PL (n + 1) (fun x => sm (n + 1) fun k => sg k * ((a 0 k * x + b 0 k) * Go.Dt.det n fun i j => a (i + 1) (skip k j) * x + b (i + 1) (skip k j))) (sm (n + 1) fun k => sg k * (a 0 k * Go.Dt.det n fun i j => a (i + 1) (skip k j))) :=
      PL.sum (f := fun k x => sg k * ((a 0 k * x + b 0 k) * Go.Dt.det n fun i j => a (i + 1) (skip k j) * x + b (i + 1) (skip k j))) (t := fun k => sg k * (a 0 k * Go.Dt.det n fun i j => a (i + 1) (skip k j))) fun k _ => by
        have h1 := PL.lin (sg k) 0 (PL.mul (a 0 k) (b 0 k) (PL.det n (fun i j => a (i + 1) (skip k j)) fun i j => b (i + 1) (skip k j))) (PL.zero (n + 1))
        obtain ⟨c, hc, ht⟩ := h1
        exact ⟨c, fun x => by rw [← hc]; dsimp only; omega, by rw [ht]; omega⟩
    exact h
/-! ### the characteristic polynomial -/
def xm (A : MatF) (x : Int) : MatF := fun i j => one i j * x + -(A i j)
theorem cp_ex (n : Nat) (A : MatF) : ∃ c : Nat → Int, (∀ x, det n (xm A x) = pe c (n + 1) x) ∧ c n = 1 := by
 have := PL.det n one fun i j => -(A i j)
 rw [det_one] at this
 exact this
noncomputable def cp (n : Nat) (A : MatF) : Nat → Int := Classical.choose (cp_ex n A)
theorem adj_mul (n : Nat) (B : MatF) {k i : Nat} (hk : k < n) (hi : i < n) : (sm n fun j => B k j * det n (setr B i (one j))) = if k = i then det n B else 0 := by
 rw [← (det_rowF n).sum B hi (B k) one n]
 have e : det n (setr B i fun j => sm n fun k' => B k k' * one k' j) = det n (setr B i (B k)) := det_congr fun r c _ hc => by
  unfold setr
  split
  ·dsimp only
   rw [sm_one (c := c) hc fun m _ hne => by unfold one; rw [if_neg hne, Int.mul_zero]]
   unfold one; rw [if_pos rfl, Int.mul_one]
  ·rfl
 rw [e]
 by_cases h : k = i
 ·subst h; rw [if_pos rfl, set_self]
 ·rw [if_neg h]
  exact (det_rowF n).eqr hi hk (fun e => h e.symm) fun c _ => by rw [set_at, set_ne _ h]
/-! ### the trace -/
end Go.Ch
namespace Go.Tr
open Go.Nt Go.Pz Go.Mz Go.En Go.Hn Go.Hp Go.Dt Go.Br Go.Ch
theorem run_last {s0 : BS} (h0 : s0.ps = []) : ∀ {c : Nat} {s : BS}, BRun s0 c s → s.ps.length ≤ c ∧ (c ≤ s.ps.length → 0 < c → ∃ r, s.rows[c - 1]? = some r ∧ cf r (c - 1) = s.last) := by
  intro c s h
  induction h with
  | zero => exact ⟨by rw [h0]; exact Nat.le_refl _, fun _ h => absurd h (Nat.lt_irrefl _)⟩
  | @step c s s' h hs ih =>
    rcases hs with ⟨rfl, _⟩ | ⟨i, r, t, sw, hti, hi, ht, hne, hsw, k1, k2, k3, k4, k5⟩
    · exact ⟨Nat.le_succ_of_le ih.1, fun h => by have := ih.1; omega⟩
    · refine ⟨by rw [k3, List.length_append]; have := ih.1; show _ + 1 ≤ _; omega, fun hc _ => ?_⟩
      rw [k3, List.length_append] at hc
      change c + 1 ≤ s.ps.length + 1 at hc
      have e : s.ps.length = c := by have := ih.1; omega
      refine ⟨r, ?_, by rw [k4]; rfl⟩
      rw [Nat.add_sub_cancel, k2 c, if_neg (by omega), hsw]
      have hil : i < s.rows.length := Go.Hn.lt_of_some hi
      have htl : s.ps.length < s.rows.length := Go.Hn.lt_of_some ht
      split
      · next h => rw [← e, ← h]; exact hi
      · rw [← e]; exact List.getElem?_set_self (by rw [List.length_set]; exact htl)
def MulB (R C K : Nat) (L : List Int) (b : Int) : Prop := 0 < b ∧ (List.length (words b.natAbs)) ≤ (K + 1) * 2 ^ R ∧ C ≤ R ∧ ∃ q : List Nat, q.length = C ∧ (∀ x ∈ q, x < R) ∧ q.Nodup ∧ b = ((mn (mf C L) q (List.range C).reverse).natAbs : Int)
theorem run_mul {R C K : Nat} {L : List Int} {rs : List Row} {ps : List Nat} {last : Int} {odd : Bool} (h : RunI ⟨rowsOf R C L, [], 1, false⟩ C K R C rs ps last odd) (hp : ps.length = C) : MulB R C K L ((last.natAbs : Nat) : Int) ∧ (0 < C → ∃ r, rs[C - 1]? = some r ∧ cf r.2 (C - 1) = last) := by
  obtain ⟨q, hq⟩ := BI.all (BI.start (mf C L) (R := R) (C := C) (L := L) fun _ _ _ _ => rfl) h.run (Nat.le_refl _)
  have hps : ps = List.range C := hq.psl.eq_of_length_le (by rw [List.length_range]; exact Nat.le_of_eq hp.symm)
  have hl := hq.hl
  have h0 := hq.h0
  change last = mn (mf C L) (q.take ps.length).reverse ps.reverse at hl
  change last ≠ 0 at h0
  have hR : ps.length ≤ R := hq.hps
  refine ⟨⟨by omega, ?_, by omega, (q.take ps.length).reverse, ?_, fun x hx => hq.lt x (List.mem_of_mem_take (List.mem_reverse.1 hx)), (List.reverse_perm _).nodup_iff.2 (hq.nd.sublist (List.take_sublist _ _)), ?_⟩, fun hC => ?_⟩
  · rw [Int.natAbs_natCast]
    have h1 := h.hl
    have h2 : (K + 1) * 2 ^ ps.length ≤ (K + 1) * 2 ^ R := Nat.mul_le_mul_left _ (Nat.pow_le_pow_right (by decide) hR)
    omega
  · rw [List.length_reverse, List.length_take, hq.hq]; omega
  · rw [← hps, ← hl]
  · obtain ⟨r, hr, e⟩ := (run_last (s0 := ⟨rowsOf R C L, [], 1, false⟩) rfl h.run).2 (Nat.le_of_eq hp.symm) hC
    change (rs.map Prod.snd)[C - 1]? = some r at hr
    rw [List.getElem?_map] at hr
    cases h1 : rs[C - 1]? with
    | none => rw [h1] at hr; cases hr
    | some r1 =>
      rw [h1] at hr
      obtain rfl := Option.some.inj hr
      exact ⟨r1, rfl, e⟩
theorem fltn_flat {C : Nat} : ∀ {rs : List (List Int)}, (∀ r ∈ rs, r.length = C) → fltn rs = flatP 0 C rs
  | [], _ => rfl
  | r :: rs, h => by
    show r ++ fltn rs = (r.take C).drop 0 ++ flatP 0 C rs
    rw [fltn_flat fun x hx => h x (List.mem_cons_of_mem _ hx), List.drop_zero, List.take_of_length_le (Nat.le_of_eq (h r List.mem_cons_self))]
theorem fltn_tab {C : Nat} {rs : List (List Int)} (h : ∀ r ∈ rs, r.length = C) : fltn rs = tab (rs.length * C) C fun i k => cf (rs.getD i []) k := by
 rw [fltn_flat h, flatP_tab (Nat.zero_le _) (Nat.le_refl _) h, Nat.sub_zero]
 simp only [Nat.zero_add]
theorem fltn_bd {C K : Nat} {rs : List (List Int)} (h : ∀ r ∈ rs, r.length = C) (hb : ∀ r ∈ rs, Bd r K) : Bd (fltn rs) K := by
 rw [fltn_tab h]; exact Bd_tab fun i k => getD_bd hb i k
theorem fltn_at {C : Nat} {rs : List (List Int)} (h : ∀ r ∈ rs, r.length = C) {i k : Nat} {r : List Int} (hr : rs[i]? = some r) (hk : k < C) : cf (fltn rs) (i * C + k) = cf r k := by
 rw [fltn_tab h, cf_tab' _ hk (place_lt (Go.Hn.lt_of_some hr) hk), Go.Hn.getD_of hr]
theorem mul_span {R C : Nat} {A : MatF} {q : List Nat} (hq : q.length = C) (hR : ∀ x ∈ q, x < R) {k0 : Nat} (hk : k0 < C) : SpZ R C A fun k => if k = k0 then ((mn A q (List.range C).reverse).natAbs : Int) else 0 := by
 have hcs : ∀ i, i < C → ((List.range C).reverse).getD i 0 = C - 1 - i := fun i hi => by
  rw [List.getD, List.getElem?_reverse (by rw [List.length_range]; exact hi), List.length_range, List.getElem?_range (by omega)]; rfl
 obtain ⟨B, hB⟩ : ∃ B, B = sub A q (List.range C).reverse := ⟨_, rfl⟩
 have hBij : ∀ i j, j < C → B i j = A (q.getD i 0) (C - 1 - j) := fun i j hj => by rw [hB]; show A _ (((List.range C).reverse).getD j 0) = _; rw [hcs j hj]
 have hd : mn A q (List.range C).reverse = det C B := by unfold mn; rw [hq, hB]
 have h1 : SpZ R C A fun k => if k = k0 then det C B else 0 := by
  refine (SpZ.sum (fun j => det C (setr (tr B) (C - 1 - k0) (one j))) (fun j => A (q.getD j 0)) C fun j hj => SpZ.row A (hR _ (getD_mem (by omega)))).congr fun k hkC => ?_
  have h2 := adj_mul C (tr B) (k := C - 1 - k) (i := C - 1 - k0) (by omega) (by omega)
  rw [det_tr] at h2
  have h3 : (if C - 1 - k = C - 1 - k0 then det C B else 0) = if k = k0 then det C B else 0 := by
   by_cases e : k = k0
   ·rw [if_pos e, if_pos (by omega)]
   ·rw [if_neg e, if_neg (by omega)]
  rw [← h3, ← h2]
  refine sm_congr fun j hj => ?_
  show B j (C - 1 - k) * _ = _
  rw [hBij _ _ (by omega), show C - 1 - (C - 1 - k) = k by omega, Int.mul_comm]
 rw [hd]
 rcases Int.natAbs_eq (det C B) with e | e
 ·exact h1.congr fun k _ => by rw [← e]
 ·exact (h1.comb (-1) 0 h1).congr fun k _ => by
   by_cases h : k = k0
   ·rw [if_pos h, if_pos h]; omega
   ·rw [if_neg h, if_neg h]; omega
end Go.Tr
namespace Go.Proofs.Ythkdmhaafanjlaa
open Go.En Go.RowKit
set_option maxRecDepth 10000
set_option maxHeartbeats 4000000
open Go.Nt
open Go.Pz
open Go.Mz
theorem bareiss_begun {R C K : Nat} {xs : List (Bool × List Nat)} (hx : Bd (vals xs) K) (hK : K ≤ 4000000000) (hR : R ≤ 64) (hC : C ≤ 64) (hl : xs.length = R * C) : CtrX Try.prog 98 [isM (R : Int) (C : Int) xs] ([]) (fun S M => ∃ bw gt rs, S = isPtr bw 0 ∧ M = wkM bw Gr.nil gt rs C [] 1 false ∧ rs.map Prod.snd = rowsOf R C (vals xs)) := by
 refine CtrX.intro Try.func98 rfl (by kernel_rfl) Try.ntmps98 rfl fun w0 F0 => ?_
 refine .cv (Cv.wk (.k 0 rfl .nil)) ?_
 refine .seq fun _ k1 => .region (.box (.t rfl) rfl fun b1 => ?_)
 refine st (.as Has.cP) rfl ?_
 refine nl (.thn (k1 _ _ ?_))
 refine .seq fun _ k2 => ?_
 refine .dr ?_
 refine .s [] rfl rfl rfl (.o rfl (.fieldAddr (.t rfl) fld24_1 ty3)) ?_
 refine .s [7] rfl rfl rfl (.o rfl (.load1 (.t rfl) (i := 0) rfl ty3 rfl)) ?_
 refine .s [] rfl rfl rfl (.o rfl (.call (zint_Of) (.cons (Has.cI 1 rfl) .nil))) ?_
 refine .fin (n := 3) mixed (by kernel_rfl) (by kernel_rfl) (by kernel_rfl) ?_
 refine .cv (Cv.wk (.k 1 rfl (.k 2 rfl (.k 8 rfl (.k 9 rfl .nil))))) ?_
 refine st (.build [nilS, isI 0, nilS, isB false, SlM isU [], isB false] pl102 zero102 (fun _ _ => ⟨rfl, ⟨rfl, by decide, by decide⟩, rfl, rfl, nilM _ _, rfl, trivial⟩) (.cons (.t rfl) rfl rfl rfl (.cons (.t rfl) rfl rfl rfl .nil)) (Z'' := [_, _, _, _, _, _]) rfl) rfl ?_
 refine .box (.t rfl) rfl fun b2 => ?_
 refine st (.as (.t rfl)) rfl ?_
 refine nl (.thn (k2 _ _ ?_))
 refine .seq fun _ k3 => ?_
 refine .seq fun _ k4 => ?_
 refine .cv (Cv.growF (Row) (i := 0) (o := 0) rfl rfl rfl) ?_
 refine .memEq (M' := [grM rowV Gr.nil [], _, _]) rfl ?_
 refine .region (st (.fieldAddr (.t rfl) fld24_0 ty3) rfl ?_)
 refine st (.load1 (.t rfl) (i := 2) rfl ty3 rfl) rfl (st (.mv (Has.cI 0 rfl)) rfl ?_)
 refine nl (.thn (k4 _ _ ?_))
 refine .cv (Cv.wk (.k 1 rfl (.k 2 rfl (.k 3 rfl (.k 13 rfl (.k 14 rfl .nil)))))) ?_
 refine .block ?_
 refine .memEq (M' := (_ :: _ :: _ :: ([] : List Row).map rowM)) rfl ?_
 refine .loopF [1, 2, 3, 13] (fun (z : { z : Nat × Gr Row × List Row // z.1 ≤ R ∧ z.2.2.map Prod.snd = rowsOf z.1 C (vals xs) }) => match z with | ⟨(i, gt, rs), hI⟩ => [(14, isI (i : Int))]) (fun M => fun (z : { z : Nat × Gr Row × List Row // z.1 ≤ R ∧ z.2.2.map Prod.snd = rowsOf z.1 C (vals xs) }) => match z with | ⟨(i, gt, rs), hI⟩ => (grM rowV gt rs :: (some b2, cellM [isGr gt rs.length, isI (C : Int), nilS, isB (decide ((1 : Int) < 0)), SlM isU (words (1 : Int).natAbs), isB false]) :: (some b1, cellM [isI (R : Int), isI (C : Int), SlK 2 zc xs]) :: rs.map rowM)) (fun (z : { z : Nat × Gr Row × List Row // z.1 ≤ R ∧ z.2.2.map Prod.snd = rowsOf z.1 C (vals xs) }) => match z with | ⟨(i, gt, rs), hI⟩ => R - i) (⟨(0, Gr.nil, []), Nat.zero_le _, rfl⟩) (Cv.mem (.cons (t := 14) (Has.t' rfl ?_) (.k 1 rfl (.k 2 rfl (.k 3 rfl (.k 13 rfl .nil))))) ?_) ?_
 ·rfl
 ·rfl
 rintro ⟨⟨i, gt, rs⟩, hI⟩ K5 hK5
 refine .cv (Cv.wk (.k 14 rfl (.k 1 rfl (.k 2 rfl (.k 3 rfl (.k 13 rfl .nil)))))) ?_
 refine .memEq (M' := (grM rowV gt rs :: (some b2, cellM [isGr gt rs.length, isI (C : Int), nilS, isB (decide ((1 : Int) < 0)), SlM isU (words (1 : Int).natAbs), isB false]) :: (some b1, cellM [isI (R : Int), isI (C : Int), SlK 2 zc xs]) :: rs.map rowM)) rfl ?_
 simp only [] at hI
 obtain ⟨hi, hrs⟩ := hI
 have hrl : rs.length = i := by have := congrArg List.length hrs; rwa [List.length_map, rowsOf_len] at this
 refine .seq fun _ k6 => .region (st (.ltI (.t rfl) (.t rfl)) rfl ?_)
 refine nl (.thn (k6 _ _ ?_))
 refine .seq fun _ k7 => ?_
 refine .cond (.t rfl) (fun hc1 => ?_) (fun hc1 => ?_)
 ·have hc1 := BP.t hc1
  refine .skip ?_
  refine .thn (k7 _ _ ?_)
  refine .seq fun _ k8 => ?_
  refine .block ?_
  refine .seq fun _ k9 => .region (st (.mv (.t rfl)) rfl ?_)
  refine st (.as (.t rfl)) rfl ?_
  refine nl (.thn (k9 _ _ ?_))
  refine .seq fun _ k10 => .region (.cv (Cv.grow0K (α := Bool × List Nat) zc) ?_)
  refine st (.as (Has.cGr (α := Bool × List Nat))) rfl ?_
  refine nl (.thn (k10 _ _ ?_))
  refine .seq fun _ k11 => ?_
  refine .seq fun _ k12 => .region (st (.fieldAddr (.t rfl) fld24_1 ty3) rfl ?_)
  refine st (.load1 (.t rfl) (i := 3) rfl ty3 rfl) rfl (st (.mv (Has.cI 0 rfl)) rfl ?_)
  refine nl (.thn (k12 _ _ ?_))
  refine .block ?_
  refine .loopF [1, 2, 3, 13, 14, 15, 16, 4, 17, 18] (fun (z : { z : Nat × Gr (Bool × List Nat) // z.1 ≤ C }) => match z with | ⟨(k, g), hK2⟩ => [(19, isI (k : Int)), (5, isGr g (((List.range k).map fun k => cf (vals xs) (i * C + k)).map nz).length)]) (fun M => fun (z : { z : Nat × Gr (Bool × List Nat) // z.1 ≤ C }) => match z with | ⟨(k, g), hK2⟩ => (grMK zc g (((List.range k).map fun k => cf (vals xs) (i * C + k)).map nz) :: grM rowV gt rs :: (some b2, cellM [isGr gt rs.length, isI (C : Int), nilS, isB (decide ((1 : Int) < 0)), SlM isU (words (1 : Int).natAbs), isB false]) :: (some b1, cellM [isI (R : Int), isI (C : Int), SlK 2 zc xs]) :: rs.map rowM)) (fun (z : { z : Nat × Gr (Bool × List Nat) // z.1 ≤ C }) => match z with | ⟨(k, g), hK2⟩ => C - k) (⟨(0, Gr.nil), Nat.zero_le _⟩) (Cv.mem (.cons (t := 19) (Has.t' rfl ?_) (.cons (t := 5) (Has.t' rfl ?_) (.k 1 rfl (.k 2 rfl (.k 3 rfl (.k 13 rfl (.k 14 rfl (.k 15 rfl (.k 16 rfl (.k 4 rfl (.k 17 rfl (.k 18 rfl .nil)))))))))))) ?_) ?_
  ·rfl
  ·rfl
  ·rfl
  rintro ⟨⟨k, g⟩, hK2⟩ K13 hK13
  refine .cv (Cv.wk (.k 19 rfl (.k 5 rfl (.k 1 rfl (.k 2 rfl (.k 3 rfl (.k 13 rfl (.k 14 rfl (.k 15 rfl (.k 16 rfl (.k 4 rfl (.k 17 rfl (.k 18 rfl .nil))))))))))))) ?_
  refine .memEq (M' := (grMK zc g (((List.range k).map fun k => cf (vals xs) (i * C + k)).map nz) :: grM rowV gt rs :: (some b2, cellM [isGr gt rs.length, isI (C : Int), nilS, isB (decide ((1 : Int) < 0)), SlM isU (words (1 : Int).natAbs), isB false]) :: (some b1, cellM [isI (R : Int), isI (C : Int), SlK 2 zc xs]) :: rs.map rowM)) rfl ?_
  simp only [] at hK2
  refine .seq fun _ k14 => .region (st (.ltI (.t rfl) (.t rfl)) rfl ?_)
  refine nl (.thn (k14 _ _ ?_))
  refine .seq fun _ k15 => ?_
  refine .cond (.t rfl) (fun hc2 => ?_) (fun hc2 => ?_)
  ·have hc2 := BP.t hc2
   refine .skip ?_
   refine .thn (k15 _ _ ?_)
   refine .seq fun _ k16 => ?_
   refine .block ?_
   refine .seq fun _ k17 => .region (st (.mv (.t rfl)) rfl ?_)
   refine st (.as (.t rfl)) rfl ?_
   refine nl (.thn (k17 _ _ ?_))
   refine .region (st (.mv (.t rfl)) rfl ?_)
   refine st (.load (.t rfl) (i := 3) rfl ty24 rfl (Ss' := [_, _, _]) rfl) rfl ?_
   refine st (.mv (.t rfl)) rfl (st (.mv (.t rfl)) rfl ?_)
   refine st (.call (zmat_At hx hK hR hC hl (i := i) (k := k) (by omega) (by omega)) (.cons (.t rfl) (.cons (.t rfl) (.cons (.t rfl) .nil)))) rfl ?_
   refine st (.buildS [isB false, SlM isU []] sl22 ty30 zero30 (fun _ _ => ⟨rfl, nilM _ _, trivial⟩) rfl rfl (.cons (.t rfl) rfl rfl rfl .nil) rfl (S := SlK 2 zc [nz (cf (vals xs) (i * C + k))]) rfl) rfl ?_
   refine .appendGK (fk := zc) (u := (false, [])) zc_len (by decide) (fun _ => inferInstance) sl22 ty30 zero30 (fun _ _ => ⟨rfl, nilM _ _, trivial⟩) by30 (.t rfl) (i := 0) rfl (.t rfl) (by rw [List.length_map, List.length_map, List.length_range]; show k + 1 ≤ _; omega) (by simp) rfl fun gr1 => ?_
   refine .memEq (M' := (grMK _ _ _ :: _ :: _ :: _ :: _)) rfl ?_
   refine st (.as (.t rfl)) rfl ?_
   refine nl ?_
   refine .bln ?_
   refine .thn (k16 _ _ ?_)
   refine .region (st (.addI (.t rfl) (Has.cI 1 rfl) (by first | omega | assumption) (by first | omega | assumption)) rfl ?_)
   refine st (.mv (.t rfl)) rfl ?_
   refine nl ?_
   refine .thn ?_
   refine hK13 (⟨(k + 1, gr1), by show k + 1 ≤ C; omega⟩) _ _ ?_ (Cv.mem (.cons (t := 19) (Has.t' rfl ?_) (.cons (t := 5) (Has.t' rfl ?_) (.k 1 rfl (.k 2 rfl (.k 3 rfl (.k 13 rfl (.k 14 rfl (.k 15 rfl (.k 16 rfl (.k 4 rfl (.k 17 rfl (.k 18 rfl .nil)))))))))))) ?_)
   ·show C - (k + 1) < C - k; omega
   ·exact isI_eq (by omega)
   ·exact isGr_eq (by rw [range_succ_nz, List.length_append])
   ·exact grMK_eq (range_succ_nz _ _).symm
  ·have hc2 := BP.f hc2
   refine .exit ?_
   refine .the ?_
   refine .the ?_
   refine .blh ?_
   refine .thn (k11 _ _ ?_)
   refine .region (st (.mv (.t rfl)) rfl ?_)
   refine st (.mv (.t rfl)) rfl (st (.nilc (.t rfl)) rfl ?_)
   refine st (.fieldAddr (.t rfl) fld102_0 ty59) rfl (st (.load1 (.t rfl) (i := 2) rfl ty59 rfl) rfl ?_)
   refine st (.mv (.t rfl)) rfl (st (.buildS [nilS] sl59 ty22 zero22 (fun _ _ => ⟨rfl, trivial⟩) rfl rfl (.cons (.t rfl) rfl rfl rfl .nil) rfl (S := SlM rowV [(g, ((List.range k).map fun k => cf (vals xs) (i * C + k)))]) rfl) rfl ?_)
   refine .appendG (f := rowV) (u := (Gr.nil, [])) sl59 ty22 zero22 (fun _ _ => ⟨gr0, trivial⟩) (fun _ => inferInstance) by22 (.t rfl) (i := 1) rfl (.t rfl) (by rw [hrl]; show i + 1 ≤ _; omega) (by simp) rfl fun gr1 => ?_
   refine .memEq (M' := (_ :: grM _ _ _ :: _ :: _ :: _)) rfl ?_
   refine st (.nilc (.t rfl)) rfl ?_
   refine st (.fieldAddr (.t rfl) fld102_0 ty59) rfl ?_
   refine .store (.t rfl) (.t rfl) (i := 2) rfl ty59 rfl rfl (Ss' := [_, _, _, _, _, _]) rfl (M' := (_ :: _ :: (some _, cellM [_, _, _, _, _, _]) :: _ :: _)) rfl ?_
   refine nl ?_
   refine .bln ?_
   refine .thn (k8 _ _ ?_)
   refine .region (st (.addI (.t rfl) (Has.cI 1 rfl) (by first | omega | assumption) (by first | omega | assumption)) rfl ?_)
   refine st (.mv (.t rfl)) rfl ?_
   refine nl ?_
   refine .thn ?_
   have hkC : C = k := by omega
   subst hkC
   refine hK5 (⟨(i + 1, gr1, rs ++ [(g, ((List.range C).map fun k => cf (vals xs) (i * C + k)))]), by show i + 1 ≤ R; omega, by show (rs ++ [(g, ((List.range C).map fun k => cf (vals xs) (i * C + k)))]).map Prod.snd = _; rw [List.map_append, hrs, rowsOf_succ]; rfl⟩) _ _ ?_ (Cv.trans (Cv.perm perm_end) (Cv.mem (.cons (t := 14) (Has.t' rfl ?_) (.k 1 rfl (.k 2 rfl (.k 3 rfl (.k 13 rfl .nil))))) ?_))
   ·show R - (i + 1) < R - i; omega
   ·exact isI_eq (by omega)
   ·show _ = grM rowV gr1 (rs ++ [_]) :: (some b2, cellM [isGr gr1 (rs ++ [_]).length, _, _, _, _, _]) :: _ :: (rs ++ [_]).map rowM; rw [List.map_append, List.length_append]; rfl
 ·have hc1 := BP.f hc1
  refine .exit ?_
  refine .the ?_
  refine .the ?_
  refine .blh ?_
  refine .thn (k3 _ _ ?_)
  refine .seq fun _ k18 => ?_
  refine .cv (Cv.growF (Int) (i := 1) (o := 2) rfl rfl rfl) ?_
  refine .memEq (M' := (grM isI Gr.nil [] :: _ :: _ :: _ :: _)) rfl ?_
  refine .cv (Cv.drop ((.cons_cons _ (.cons_cons _ (.cons_cons _ (.cons _ (List.Sublist.refl _))))))) ?_
  refine .cv (Cv.wk (.k 2 rfl (.k 3 rfl (.k 13 rfl (.k 14 rfl (.k 15 rfl .nil)))))) ?_
  refine .cv (Cv.perm perm_rot) ?_
  refine .region (st (.mv (.t rfl)) rfl ?_)
  refine st (.as (.t rfl)) rfl ?_
  refine nl (.thn (k18 _ _ ?_))
  refine .cv (Cv.wk (.k 2 rfl .nil)) ?_
  refine .ret ?_
  refine rtX1 (.inl rfl) Try.results98 rfl (.tmp (.t rfl) .nil) ?_
  exact ⟨b2, gt, rs, rfl, rfl, by obtain rfl : i = R := (by omega); exact hrs⟩
theorem bareiss_find {bw C : Nat} {gp : Gr Int} {gt : Gr Row} {rs : List Row} {ps : List Nat} {last : Int} {odd : Bool} {K : Nat} (hrow : ∀ r ∈ rs, r.2.length = C) (hb : ∀ r ∈ rs, Bd r.2 K) (hC : C ≤ 64) (hR : rs.length ≤ 64) (hpl : ps.length ≤ 64) {col : Nat} (hcol : col < C) (hK : K ≤ 400000000) : CtrX Try.prog 113 [isPtr bw 0, isI (col : Int)] (wkM bw gp gt rs C ps last odd) (fun S M => ∃ rs' odd' ok, S = isB ok ∧ M = wkM bw gp gt rs' C ps last odd' ∧ FindR rs ps.length col odd rs' odd' ok) := by
 refine CtrX.intro Try.func113 rfl (by kernel_rfl) Try.ntmps113 rfl fun w0 F0 => ?_
 refine .cv (Cv.wk (.k 0 rfl (.k 1 rfl .nil))) ?_
 refine .fact (Has.rngI (Has.t (t := 1) rfl)) fun lt1 => ?_
 have hpv := pv_len ps
 refine .seq fun _ k1 => .region (st (.as (Has.cB false)) rfl ?_)
 refine nl (.thn (k1 _ _ ?_))
 refine .seq fun _ k2 => .region (st (.mv (.t rfl)) rfl ?_)
 refine st (.nilc (.t rfl)) rfl ?_
 refine st (.fieldAddr (.t rfl) fld102_2 ty63) rfl (st (.load1 (.t rfl) (i := 0) rfl ty63 rfl) rfl ?_)
 refine st (.eq (.len sl63 (.t rfl)) ((show isI _ = isI (ps.length : Int) from isI_eq (by omega)))) rfl ?_
 refine st (.eq (.as (.t rfl)) ((show isI _ = isI (ps.length : Int) from isI_eq (by omega)))) rfl ?_
 refine nl (.thn (k2 _ _ ?_))
 refine .cv (Cv.wk (.k 0 rfl (.k 1 rfl (.k 4 rfl (.k 5 rfl .nil))))) ?_
 refine .seq fun _ k3 => ?_
 refine .seq fun _ k4 => .region (st (.mv (.t rfl)) rfl ?_)
 refine st (.as (.t rfl)) rfl ?_
 refine nl (.thn (k4 _ _ ?_))
 refine .block ?_
 refine .loopF [0, 1, 5] (fun (z : { i : Nat // ps.length ≤ i ∧ (i ≤ rs.length ∨ i = ps.length) ∧ ∀ (j : Nat) (r : Row), ps.length ≤ j → j < i → rs[j]? = some r → cf r.2 col = 0 }) => match z with | ⟨i, hi⟩ => [(6, isI (i : Int))]) (fun M => fun (z : { i : Nat // ps.length ≤ i ∧ (i ≤ rs.length ∨ i = ps.length) ∧ ∀ (j : Nat) (r : Row), ps.length ≤ j → j < i → rs[j]? = some r → cf r.2 col = 0 }) => match z with | ⟨i, hi⟩ => M) (fun (z : { i : Nat // ps.length ≤ i ∧ (i ≤ rs.length ∨ i = ps.length) ∧ ∀ (j : Nat) (r : Row), ps.length ≤ j → j < i → rs[j]? = some r → cf r.2 col = 0 }) => match z with | ⟨i, hi⟩ => rs.length - i) (⟨ps.length, Nat.le_refl _, .inr rfl, fun j r h1 h2 => absurd h2 (by omega)⟩) (Cv.mem (.cons (t := 6) (Has.t' rfl ?_) (.k 0 rfl (.k 1 rfl (.k 5 rfl .nil)))) ?_) ?_
 ·exact isI_eq (by omega)
 ·rfl
 rintro ⟨i, hi, hi2, hz⟩ K5 hK5
 refine .cv (Cv.wk (.k 6 rfl (.k 0 rfl (.k 1 rfl (.k 5 rfl .nil))))) ?_
 refine .seq fun _ k6 => ?_
 refine .seq fun _ k7 => .region (st (.mv (.t rfl)) rfl ?_)
 refine st (.mv (.t rfl)) rfl (st (.nilc (.t rfl)) rfl ?_)
 refine st (.fieldAddr (.t rfl) fld102_0 ty59) rfl (st (.load1 (.t rfl) (i := 0) rfl ty59 rfl) rfl ?_)
 refine st (.len sl59 (.t rfl)) rfl (st (.ltI (.t rfl) (.t rfl)) rfl ?_)
 refine nl (.thn (k7 _ _ ?_))
 refine .cond (.t rfl) (fun hc1 => ?_) (fun hc1 => ?_)
 ·have hc1 := BP.t hc1
  obtain ⟨r, hr⟩ : ∃ r, rs[i]? = some r := ⟨_, List.getElem?_eq_getElem (by omega)⟩
  have hrC := hrow r (List.mem_of_getElem? hr)
  have hrB := hb r (List.mem_of_getElem? hr)
  have hrL : (r.2.map nz).length = C := by rw [List.length_map, hrC]
  refine .skip ?_
  refine .thn (k6 _ _ ?_)
  refine .seq fun _ k8 => ?_
  refine .block ?_
  refine .seq fun _ k9 => .region (st (.mv (.t rfl)) rfl ?_)
  refine st (.nilc (.t rfl)) rfl ?_
  refine st (.fieldAddr (.t rfl) fld102_0 ty59) rfl (st (.load1 (.t rfl) (i := 0) rfl ty59 rfl) rfl ?_)
  refine st (.mv (.t rfl)) rfl (st (.ixGr sl59 ty22 (.t rfl) (.t rfl) ⟨by omega, by omega⟩) rfl ?_)
  refine st (.loadGM (.t rfl) (i := 2) rfl ty22 hr) rfl ?_
  refine st (.mv (.t rfl)) rfl (st (.ixGr sl22 ty30 (.t rfl) (.t rfl) ⟨by omega, by omega⟩) rfl ?_)
  refine st (.loadGK zc_len (.t rfl) (i := 3 + i) (wkAt (pre := [_, _, _]) hr) ty30 (getZ (i := col) (by omega))) rfl ?_
  refine st (.eq (.call (zint_Sign (by rw [val_words]; have := hrB col; omega)) (.cons (.t rfl) .nil)) ((show isI _ = isI (sgn (cf r.2 col)) from isI_eq (by rw [zv_nz])))) rfl ?_
  refine st (.neI (.t rfl) (Has.cI 0 rfl)) rfl ?_
  refine nl (.thn (k9 _ _ ?_))
  refine .cond (.t rfl) (fun hc2 => ?_) (fun hc2 => ?_)
  ·have hc2 := BP.t hc2
   have he : cf r.2 col ≠ 0 := fun e => hc2 ((sgn_eq0 _).2 e)
   refine .seq fun _ k10 => ?_
   refine .seq fun _ k11 => .region (st (.mv (.t rfl)) rfl ?_)
   refine st (.mv (.t rfl)) rfl (st (.neI (.t rfl) (.t rfl)) rfl ?_)
   refine nl (.thn (k11 _ _ ?_))
   refine .cond (.t rfl) (fun hc3 => ?_) (fun hc3 => ?_)
   ·have hc3 := BP.t hc3
    obtain ⟨rt, hrt⟩ : ∃ rt, rs[ps.length]? = some rt := ⟨_, List.getElem?_eq_getElem (by omega)⟩
    have hne : i ≠ ps.length := fun e => hc3 (congrArg Nat.cast e)
    refine .seq fun _ k12 => ?_
    refine .dry mixed ?_
    refine .tk 0 rfl rfl rfl rfl (OKY.mv (.t rfl)) ?_
    refine .tk 1 rfl rfl rfl rfl (OKY.nilc (.t rfl)) ?_
    refine .tk 2 rfl rfl rfl rfl (OKY.fieldAddr (.t rfl) fld102_0 ty59) ?_
    refine .tk 4 rfl rfl rfl rfl (OKY.mv (.t rfl)) ?_
    refine .tk 5 rfl rfl rfl rfl (OKY.mv (.t rfl)) ?_
    refine .tk 6 rfl rfl rfl rfl (OKY.nilc (.t rfl)) ?_
    refine .tk 7 rfl rfl rfl rfl (OKY.fieldAddr (.t rfl) fld102_0 ty59) ?_
    refine .tk 9 rfl rfl rfl rfl (OKY.mv (.t rfl)) ?_
    refine .tk 10 rfl rfl rfl rfl (OKY.mv (.t rfl)) ?_
    refine .tk 11 rfl rfl rfl rfl (OKY.nilc (.t rfl)) ?_
    refine .tk 12 rfl rfl rfl rfl (OKY.fieldAddr (.t rfl) fld102_0 ty59) ?_
    refine .tk 14 rfl rfl rfl rfl (OKY.mv (.t rfl)) ?_
    refine .tk 17 rfl rfl rfl rfl (OKY.mv (.t rfl)) ?_
    refine .tk 18 rfl rfl rfl rfl (OKY.nilc (.t rfl)) ?_
    refine .tk 19 rfl rfl rfl rfl (OKY.fieldAddr (.t rfl) fld102_0 ty59) ?_
    refine .tk 21 rfl rfl rfl rfl (OKY.mv (.t rfl)) ?_
    refine .go [] ?_
    refine .s 3 [] rfl rfl rfl (.o rfl (.load1 (.t rfl) (i := 0) rfl ty59 rfl)) ?_
    refine .s 8 [] rfl rfl rfl (.o rfl (.load1 (.t rfl) (i := 0) rfl ty59 rfl)) ?_
    refine .s 13 [] rfl rfl rfl (.o rfl (.load1 (.t rfl) (i := 0) rfl ty59 rfl)) ?_
    refine .s 15 [50] rfl rfl rfl (.o rfl (.ixGr sl59 ty22 (.t rfl) (.t rfl) ⟨by omega, by omega⟩)) ?_
    refine .s 16 [52] rfl rfl rfl (.o rfl (.loadGM (.t rfl) (i := 2) rfl ty22 hrt)) ?_
    refine .s 20 [] rfl rfl rfl (.o rfl (.load1 (.t rfl) (i := 0) rfl ty59 rfl)) ?_
    refine .s 22 [57] rfl rfl rfl (.o rfl (.ixGr sl59 ty22 (.t rfl) (.t rfl) ⟨by omega, by omega⟩)) ?_
    refine .s 23 [59] rfl rfl rfl (.o rfl (.loadGM (.t rfl) (i := 2) rfl ty22 hr)) ?_
    refine .fin [24, 25, 26, 27] (by kernel_rfl) (by kernel_rfl) (fun _ _ _ _ _ h => h) (by kernel_rfl) (by kernel_rfl) (by kernel_rfl) (by kernel_rfl) (by kernel_rfl) (by kernel_rfl) (by kernel_rfl) (by kernel_rfl) (by kernel_rfl) ?_
    refine .cv (Cv.wk (.k 0 rfl (.k 1 rfl (.k 5 rfl (.k 6 rfl (.k 13 rfl (.k 14 rfl (.k 15 rfl (.k 16 rfl (.k 17 rfl (.k 18 rfl (.k 19 rfl (.k 22 rfl (.k 23 rfl (.k 24 rfl (.k 25 rfl (.k 26 rfl (.k 27 rfl (.k 28 rfl (.k 29 rfl (.k 30 rfl (.k 31 rfl (.k 32 rfl (.k 33 rfl (.k 34 rfl (.k 35 rfl (.k 36 rfl (.k 37 rfl (.k 38 rfl (.k 39 rfl (.k 41 rfl (.k 42 rfl (.k 43 rfl (.k 44 rfl (.k 46 rfl (.k 47 rfl (.k 48 rfl (.k 49 rfl (.k 51 rfl (.k 54 rfl (.k 55 rfl (.k 56 rfl (.k 58 rfl (.k 40 rfl (.k 45 rfl (.k 50 rfl (.k 52 rfl (.k 53 rfl (.k 57 rfl (.k 59 rfl (.k 60 rfl .nil))))))))))))))))))))))))))))))))))))))))))))))))))) ?_
    refine st (.ixGr sl59 ty22 (.t rfl) (.t rfl) ⟨by omega, by omega⟩) rfl ?_
    refine .storeGM (z := rt) (.t rfl) (.t rfl) (i := 2) rfl ty22 (by omega) (M' := (_ :: _ :: grM _ _ _ :: _)) rfl ?_
    refine st (.ixGr sl59 ty22 (.t rfl) (.t rfl) ⟨by omega, by omega⟩) rfl ?_
    refine .storeGM (z := r) (.t rfl) (.t rfl) (i := 2) rfl ty22 (by rw [List.length_set]; omega) (M' := (_ :: _ :: grM _ _ _ :: _)) rfl ?_
    refine nl (.thn (k12 _ _ ?_))
    refine .region (st (.mv (.t rfl)) rfl ?_)
    refine st (.mv (.t rfl)) rfl (st (.nilc (.t rfl)) rfl ?_)
    refine st (.fieldAddr (.t rfl) fld102_4 ty4) rfl (st (.load1 (.t rfl) (i := 0) rfl ty4 rfl) rfl ?_)
    refine st (.not (.t rfl)) rfl ?_
    refine st (.nilc (.t rfl)) rfl ?_
    refine st (.fieldAddr (.t rfl) fld102_4 ty4) rfl ?_
    refine .store (.t rfl) (.t rfl) (i := 0) rfl ty4 rfl rfl (Ss' := [_, _, _, _, _, _]) rfl (M' := ((some _, cellM [_, _, _, _, _, _]) :: _ :: _ :: _)) rfl ?_
    refine nl (.thn (k10 _ _ ?_))
    refine .seq fun _ k13 => ?_
    refine .cv (Cv.perm (perm_tail (pre := [_, _, _]) (swap_perm hr hrt hne))) ?_
    refine .region (st (.as (Has.cB true)) rfl ?_)
    refine nl (.thn (k13 _ _ ?_))
    refine .ret ?_
    refine .blr ?_
    refine .thr ?_
    refine .thr ?_
    refine .blr ?_
    refine .thr ?_
    refine rtX1 (.inl rfl) Try.results113 rfl (.tmp (.t rfl) .nil) ?_
    exact ⟨_, _, true, rfl, wkM_len (by rw [List.length_set, List.length_set]), .inr ⟨rfl, i, r, rt, by omega, hr, hrt, he, hz, by rw [if_neg hne]; rfl, by rw [if_neg hne]⟩⟩
   ·have hc3 := BP.f hc3
    have hie : i = ps.length := by omega
    refine .skip ?_
    refine .thn (k10 _ _ ?_)
    refine .seq fun _ k14 => .region (st (.as (Has.cB true)) rfl ?_)
    refine nl (.thn (k14 _ _ ?_))
    refine .ret ?_
    refine .blr ?_
    refine .thr ?_
    refine .thr ?_
    refine .blr ?_
    refine .thr ?_
    refine rtX1 (.inl rfl) Try.results113 rfl (.tmp (.t rfl) .nil) ?_
    exact ⟨_, _, true, rfl, rfl, .inr ⟨rfl, i, r, r, by omega, hr, hie ▸ hr, he, hz, by rw [if_pos hie], by rw [if_pos hie]⟩⟩
  ·have hc2 := BP.f hc2
   have he : cf r.2 col = 0 := (sgn_eq0 _).1 hc2
   refine .skip ?_
   refine .bln ?_
   refine .thn (k8 _ _ ?_)
   refine .region (st (.mv (.t rfl)) rfl ?_)
   refine st (.addI (.t rfl) (Has.cI 1 rfl) (by first | omega | assumption) (by first | omega | assumption)) rfl ?_
   refine st (.as (.t rfl)) rfl ?_
   refine nl ?_
   refine .thn ?_
   refine hK5 (⟨i + 1, by omega, .inl (by omega), fun j r' h1 h2 h3 => by rcases Nat.lt_or_ge j i with h | h; exact hz j r' h1 h h3; obtain rfl : j = i := (by omega); rw [hr] at h3; obtain rfl := Option.some.inj h3; exact he⟩) _ _ ?_ (Cv.mem (.cons (t := 6) (Has.t' rfl ?_) (.k 0 rfl (.k 1 rfl (.k 5 rfl .nil)))) ?_)
   ·show rs.length - (i + 1) < rs.length - i; omega
   ·exact isI_eq (by omega)
   ·rfl
 ·have hc1 := BP.f hc1
  skip
  refine .exit ?_
  refine .the ?_
  refine .the ?_
  refine .blh ?_
  refine .thn (k3 _ _ ?_)
  refine .cv (Cv.wk .nil) ?_
  refine .seq fun _ k15 => .region (st (.as (Has.cB false)) rfl ?_)
  refine nl (.thn (k15 _ _ ?_))
  refine .ret ?_
  refine rtX1 (.inl rfl) Try.results113 rfl (.tmp (.t rfl) .nil) ?_
  exact ⟨_, _, false, rfl, rfl, .inl ⟨rfl, rfl, rfl, fun j r h1 h2 => by rcases Nat.lt_or_ge j i with h | h; exact hz j r h1 h h2; rw [List.getElem?_eq_none (by omega)] at h2; cases h2⟩⟩
theorem bareiss_clear {bw C : Nat} {gp : Gr Int} {gt : Gr Row} {rs : List Row} {ps : List Nat} {last : Int} {odd : Bool} {K : Nat} (hrow : ∀ r ∈ rs, r.2.length = C) (hb : ∀ r ∈ rs, Bd r.2 K) (hC : C ≤ 64) (hR : rs.length ≤ 64) (hpl : ps.length ≤ 64) {col : Nat} {r0 : Row} (hcol : col < C) (hK : K ≤ 100000000) (hlast : (List.length (words last.natAbs)) ≤ K) (h0 : rs[ps.length]? = some r0) : CtrX Try.prog 114 [isPtr bw 0, isI (col : Int)] (wkM bw gp gt rs C ps last odd) (fun S M => ∃ gp' gt' rs', S = isTup [] ∧ M = wkM bw gp' gt' rs' C (ps ++ [col]) (cf r0.2 col) odd ∧ ClrI rs ps.length col last r0.2 rs.length rs') := by
 refine CtrX.intro Try.func114 rfl (by kernel_rfl) Try.ntmps114 rfl fun w0 F0 => ?_
 refine .cv (Cv.wk (.k 0 rfl (.k 1 rfl .nil))) ?_
 refine .fact (Has.rngI (Has.t (t := 1) rfl)) fun lt1 => ?_
 have hpv := pv_len ps
 have hr0C := hrow r0 (List.mem_of_getElem? h0)
 have hr0B := hb r0 (List.mem_of_getElem? h0)
 have hr0L : (r0.2.map nz).length = C := by rw [List.length_map, hr0C]
 have htl : ps.length < rs.length := by rcases Nat.lt_or_ge ps.length rs.length with h | h; exact h; rw [List.getElem?_eq_none h] at h0; cases h0
 refine .seq fun _ k1 => .region (st (.mv (.t rfl)) rfl ?_)
 refine st (.nilc (.t rfl)) rfl ?_
 refine st (.fieldAddr (.t rfl) fld102_2 ty63) rfl (st (.load1 (.t rfl) (i := 0) rfl ty63 rfl) rfl ?_)
 refine st (.eq (.len sl63 (.t rfl)) ((show isI _ = isI (ps.length : Int) from isI_eq (by omega)))) rfl ?_
 refine st (.as (.t rfl)) rfl ?_
 refine nl (.thn (k1 _ _ ?_))
 refine .cv (Cv.wk (.k 0 rfl (.k 1 rfl (.k 4 rfl .nil)))) ?_
 refine .seq fun _ k2 => .region (st (.mv (.t rfl)) rfl ?_)
 refine st (.nilc (.t rfl)) rfl ?_
 refine st (.fieldAddr (.t rfl) fld102_0 ty59) rfl (st (.load1 (.t rfl) (i := 0) rfl ty59 rfl) rfl ?_)
 refine st (.mv (.t rfl)) rfl (st (.ixGr sl59 ty22 (.t rfl) (.t rfl) ⟨by omega, by omega⟩) rfl ?_)
 refine st (.loadGM (.t rfl) (i := 2) rfl ty22 h0) rfl ?_
 refine st (.as (.t rfl)) rfl ?_
 refine nl (.thn (k2 _ _ ?_))
 refine .cv (Cv.wk (.k 0 rfl (.k 1 rfl (.k 4 rfl (.k 5 rfl .nil))))) ?_
 refine .seq fun _ k3 => ?_
 refine .seq fun _ k4 => .region (st (.mv (.t rfl)) rfl ?_)
 refine st (.addI (.t rfl) (Has.cI 1 rfl) (by first | omega | assumption) (by first | omega | assumption)) rfl ?_
 refine st (.as (.t rfl)) rfl ?_
 refine nl (.thn (k4 _ _ ?_))
 refine .block ?_
 refine .loopF [0, 1, 5] (fun (z : { z : Nat × List Row // ps.length < z.1 ∧ (z.1 ≤ rs.length) ∧ ClrI rs ps.length col last r0.2 z.1 z.2 }) => match z with | ⟨(i, rs'), hI⟩ => [(6, isI (i : Int))]) (fun M => fun (z : { z : Nat × List Row // ps.length < z.1 ∧ (z.1 ≤ rs.length) ∧ ClrI rs ps.length col last r0.2 z.1 z.2 }) => match z with | ⟨(i, rs'), hI⟩ => (wk0 bw gp gt rs.length C ps last odd :: grM isI gp (pv ps) :: grM rowV gt rs' :: rs'.map rowM)) (fun (z : { z : Nat × List Row // ps.length < z.1 ∧ (z.1 ≤ rs.length) ∧ ClrI rs ps.length col last r0.2 z.1 z.2 }) => match z with | ⟨(i, rs'), hI⟩ => rs.length - i) (⟨(ps.length + 1, rs), Nat.lt_succ_self _, htl, ClrI.start _ _ _ _ _⟩) (Cv.mem (.cons (t := 6) (Has.t' rfl ?_) (.k 0 rfl (.k 1 rfl (.k 5 rfl .nil)))) ?_) ?_
 ·exact isI_eq (by omega)
 ·rfl
 rintro ⟨⟨i, rs'⟩, hI⟩ K5 hK5
 refine .cv (Cv.wk (.k 6 rfl (.k 0 rfl (.k 1 rfl (.k 5 rfl .nil))))) ?_
 refine .memEq (M' := (wk0 bw gp gt rs.length C ps last odd :: grM isI gp (pv ps) :: grM rowV gt rs' :: rs'.map rowM)) rfl ?_
 simp only [] at hI
 obtain ⟨hti, hin, hcl⟩ := hI
 have hlen := hcl.len
 have h0' := (hcl.at (.inl (Nat.le_refl _))).trans h0
 refine .seq fun _ k6 => ?_
 refine .seq fun _ k7 => .region (st (.mv (.t rfl)) rfl ?_)
 refine st (.mv (.t rfl)) rfl (st (.nilc (.t rfl)) rfl ?_)
 refine st (.fieldAddr (.t rfl) fld102_0 ty59) rfl (st (.load1 (.t rfl) (i := 0) rfl ty59 rfl) rfl ?_)
 refine st (.len sl59 (.t rfl)) rfl (st (.ltI (.t rfl) (.t rfl)) rfl ?_)
 refine nl (.thn (k7 _ _ ?_))
 refine .cond (.t rfl) (fun hc1 => ?_) (fun hc1 => ?_)
 ·have hc1 := BP.t hc1
  obtain ⟨r, hr⟩ : ∃ r, rs[i]? = some r := ⟨_, List.getElem?_eq_getElem (by omega)⟩
  have hrC := hrow r (List.mem_of_getElem? hr)
  have hrB := hb r (List.mem_of_getElem? hr)
  have hrL : (r.2.map nz).length = C := by rw [List.length_map, hrC]
  have hri := (hcl.at (.inr (Nat.le_refl _))).trans hr
  refine .skip ?_
  refine .thn (k6 _ _ ?_)
  refine .seq fun _ k8 => ?_
  refine .block ?_
  refine .seq fun _ k9 => .region (st (.mv (.t rfl)) rfl ?_)
  refine st (.nilc (.t rfl)) rfl ?_
  refine st (.fieldAddr (.t rfl) fld102_0 ty59) rfl (st (.load1 (.t rfl) (i := 0) rfl ty59 rfl) rfl ?_)
  refine st (.mv (.t rfl)) rfl (st (.ixGr sl59 ty22 (.t rfl) (.t rfl) ⟨by omega, by omega⟩) rfl ?_)
  refine st (.loadGM (.t rfl) (i := 2) rfl ty22 hri) rfl ?_
  refine st (.as (.t rfl)) rfl ?_
  refine nl (.thn (k9 _ _ ?_))
  refine .seq fun _ k10 => .region (st (.mv (.t rfl)) rfl ?_)
  refine st (.mv (.t rfl)) rfl (st (.ixGr sl22 ty30 (.t rfl) (.t rfl) ⟨by omega, by omega⟩) rfl ?_)
  refine st (.loadGK zc_len (.t rfl) (i := 3 + i) (wkAt (pre := [_, _, _]) hri) ty30 (getZ (i := col) (by omega))) rfl ?_
  refine .alloc [isB false, SlM isU []] zero30 (fun _ _ => ⟨rfl, nilM _ _, trivial⟩) rfl fun b1 => ?_
  refine .store (.t rfl) (.t rfl) (i := 0) rfl ty30 rfl rfl (Ss' := [_, _]) rfl (M' := ((some _, cellM [_, _]) :: _ :: _ :: _ :: _)) rfl ?_
  refine nl (.thn (k10 _ _ ?_))
  refine .seq fun _ k11 => .region (st (.mv (.t rfl)) rfl ?_)
  refine st (.len sl22 (.t rfl)) rfl (st (.mv (Has.cI 0 rfl)) rfl ?_)
  refine nl (.thn (k11 _ _ ?_))
  refine .block ?_
  refine .loopF [0, 1, 5, 6, 25, 26, 27, 28, 29, 30, 31, 34, 35, 36, 37, 38, 39, 40, 7, 41, 42, 43, 44, 8, 45, 46] (fun (z : { k : Nat // k ≤ C }) => match z with | ⟨k, hk⟩ => [(47, isI (k : Int))]) (fun M => fun (z : { k : Nat // k ≤ C }) => match z with | ⟨k, hk⟩ => (zM b1 (cf r.2 col) :: wk0 bw gp gt rs.length C ps last odd :: grM isI gp (pv ps) :: grM rowV gt rs' :: (rs'.set i (r.1, mixR r0.2 r.2 col last k)).map rowM)) (fun (z : { k : Nat // k ≤ C }) => match z with | ⟨k, hk⟩ => C - k) (⟨0, Nat.zero_le _⟩) (Cv.mem (.cons (t := 47) (Has.t' rfl ?_) (.k 0 rfl (.k 1 rfl (.k 5 rfl (.k 6 rfl (.k 25 rfl (.k 26 rfl (.k 27 rfl (.k 28 rfl (.k 29 rfl (.k 30 rfl (.k 31 rfl (.k 34 rfl (.k 35 rfl (.k 36 rfl (.k 37 rfl (.k 38 rfl (.k 39 rfl (.k 40 rfl (.k 7 rfl (.k 41 rfl (.k 42 rfl (.k 43 rfl (.k 44 rfl (.k 8 rfl (.k 45 rfl (.k 46 rfl .nil))))))))))))))))))))))))))) ?_) ?_
  ·rfl
  ·exact tail4 (mix_start hri)
  rintro ⟨k, hk⟩ K12 hK12
  refine .cv (Cv.wk (.k 47 rfl (.k 0 rfl (.k 1 rfl (.k 5 rfl (.k 6 rfl (.k 25 rfl (.k 26 rfl (.k 27 rfl (.k 28 rfl (.k 29 rfl (.k 30 rfl (.k 31 rfl (.k 34 rfl (.k 35 rfl (.k 36 rfl (.k 37 rfl (.k 38 rfl (.k 39 rfl (.k 40 rfl (.k 7 rfl (.k 41 rfl (.k 42 rfl (.k 43 rfl (.k 44 rfl (.k 8 rfl (.k 45 rfl (.k 46 rfl .nil)))))))))))))))))))))))))))) ?_
  refine .memEq (M' := (zM b1 (cf r.2 col) :: wk0 bw gp gt rs.length C ps last odd :: grM isI gp (pv ps) :: grM rowV gt rs' :: (rs'.set i (r.1, mixR r0.2 r.2 col last k)).map rowM)) rfl ?_
  have hset : (rs'.set i (r.1, mixR r0.2 r.2 col last k))[i]? = some (r.1, mixR r0.2 r.2 col last k) := List.getElem?_set_self (by omega)
  have hset0 : (rs'.set i (r.1, mixR r0.2 r.2 col last k))[ps.length]? = some r0 := (List.getElem?_set_ne (by omega)).trans h0'
  refine .seq fun _ k13 => .region (st (.ltI (.t rfl) (.t rfl)) rfl ?_)
  refine nl (.thn (k13 _ _ ?_))
  refine .seq fun _ k14 => ?_
  refine .cond (.t rfl) (fun hc2 => ?_) (fun hc2 => ?_)
  ·have hc2 := BP.t hc2
   refine .skip ?_
   refine .thn (k14 _ _ ?_)
   refine .seq fun _ k15 => ?_
   refine .block ?_
   refine .seq fun _ k16 => .region (st (.mv (.t rfl)) rfl ?_)
   refine st (.as (.t rfl)) rfl ?_
   refine nl (.thn (k16 _ _ ?_))
   refine .seq fun _ k17 => ?_
   refine .drhS (.cons_cons _ (.cons_cons _ (.cons_cons _ (.cons_cons _ (List.Sublist.refl _))))) ?_
   refine .s [] rfl rfl rfl (.o rfl (.mv (.t rfl))) ?_
   refine .s [] rfl rfl rfl (.o rfl (.mv (.t rfl))) ?_
   refine .s [50, 51] rfl rfl rfl (.o rfl (.ixGr sl22 ty30 (.t rfl) (.t rfl) ⟨by omega, by omega⟩)) ?_
   refine .s [52] rfl rfl rfl (.o rfl (.loadGK zc_len (.t rfl) (i := 4 + i) (wkAt (pre := [_, _, _, _]) (r := (r.1, mixR r0.2 r.2 col last k)) hset) ty30 (show ((mixR r0.2 r.2 col last k).map nz)[k]? = some (nz (cf r.2 k)) from by rw [List.getElem?_map, mixR_at _ _ _ _ (by omega)]; rfl))) ?_
   refine .s [] rfl rfl rfl (.o rfl (.mv (.t rfl))) ?_
   refine .s [] rfl rfl rfl (.o rfl (.mv (.t rfl))) ?_
   refine .s [54, 55] rfl rfl rfl (.o rfl (.ixGr sl22 ty30 (.t rfl) (.t rfl) ⟨by omega, by omega⟩)) ?_
   refine .s [56] rfl rfl rfl (.o rfl (.loadGK zc_len (.t rfl) (i := 4 + ps.length) (wkAt (pre := [_, _, _, _]) hset0) ty30 (getZ (i := col) (by omega)))) ?_
   refine .s [53, 57] rfl rfl rfl (.o rfl (.eq (.call (zint_Mul (by rw [val_words]; have := hrB k; omega) (by rw [val_words]; have := hr0B col; omega)) (.cons (.t rfl) (.cons (.t rfl) .nil))) ((show isZ _ = isZ (cf r.2 k * cf r0.2 col) from isZ_eq (by (try simp only [zv_nz]); (try simp only [zv_nf])))))) ?_
   refine .s [] rfl rfl rfl (.o rfl (.load (.t rfl) (i := 0) rfl ty30 rfl (Ss' := [_, _]) rfl)) ?_
   refine .s [] rfl rfl rfl (.o rfl (.mv (.t rfl))) ?_
   refine .s [] rfl rfl rfl (.o rfl (.mv (.t rfl))) ?_
   refine .s [60, 61] rfl rfl rfl (.o rfl (.ixGr sl22 ty30 (.t rfl) (.t rfl) ⟨by omega, by omega⟩)) ?_
   refine .s [62] rfl rfl rfl (.o rfl (.loadGK zc_len (.t rfl) (i := 4 + ps.length) (wkAt (pre := [_, _, _, _]) hset0) ty30 (getZ (i := k) (by omega)))) ?_
   refine .s [59, 63] rfl rfl rfl (.o rfl (.eq (.call (zint_Mul (by rw [val_words]; have := hrB col; omega) (by rw [val_words]; have := hr0B k; omega)) (.cons (.t rfl) (.cons (.t rfl) .nil))) ((show isZ _ = isZ (cf r.2 col * cf r0.2 k) from isZ_eq (by rw [zv_nf, zv_nz]))))) ?_
   refine .s [58, 64] rfl rfl rfl (.o rfl (.eq (.call (zint_Sub (by rw [val_words]; have := nz_mul (cf r.2 k) (cf r0.2 col); have := hrB k; have := hr0B col; omega) (by rw [val_words]; have := nz_mul (cf r.2 col) (cf r0.2 k); have := hrB col; have := hr0B k; omega)) (.cons (.t rfl) (.cons (.t rfl) .nil))) ((show isZ _ = isZ (cf r.2 k * cf r0.2 col - cf r.2 col * cf r0.2 k) from isZ_eq (by simp only [zv_nf]))))) ?_
   refine .als (n1 := 17) (ds := [10]) (zs := [[isB false, SlM isU []]]) rfl (.cons rfl rfl zero30 (fun _ _ => ⟨rfl, nilM _ _, trivial⟩) .nil) (.cons_cons _ (.cons_cons _ (.cons_cons _ (.cons_cons _ (List.Sublist.refl _))))) (Cs := [_]) rfl ?_
   refine .fin (n := 17) mixed rfl (by kernel_rfl) (by kernel_rfl) (by kernel_rfl) (fun bs hbs => ?_)
   obtain ⟨b2, rfl⟩ := len1 hbs
   refine .memEq (M' := (_ :: _ :: _ :: _ :: _ :: _)) rfl ?_
   refine .cv (Cv.wk (.k 0 rfl (.k 1 rfl (.k 5 rfl (.k 6 rfl (.k 25 rfl (.k 26 rfl (.k 27 rfl (.k 28 rfl (.k 29 rfl (.k 30 rfl (.k 31 rfl (.k 34 rfl (.k 35 rfl (.k 36 rfl (.k 37 rfl (.k 38 rfl (.k 39 rfl (.k 40 rfl (.k 7 rfl (.k 41 rfl (.k 42 rfl (.k 43 rfl (.k 44 rfl (.k 8 rfl (.k 45 rfl (.k 46 rfl (.k 47 rfl (.k 48 rfl (.k 49 rfl (.k 9 rfl (.k 50 rfl (.k 51 rfl (.k 52 rfl (.k 53 rfl (.k 54 rfl (.k 55 rfl (.k 56 rfl (.k 57 rfl (.k 58 rfl (.k 59 rfl (.k 60 rfl (.k 61 rfl (.k 62 rfl (.k 63 rfl (.k 64 rfl (.k 65 rfl (.cons (t := 10) (Has.op rfl) .nil)))))))))))))))))))))))))))))))))))))))))))))))) ?_
   refine .store (.t rfl) (.t rfl) (i := 0) rfl ty30 rfl rfl (Ss' := [_, _]) rfl (M' := ((some _, cellM [_, _]) :: _ :: _ :: _ :: _ :: _)) rfl ?_
   refine nl (.thn (k17 _ _ ?_))
   refine .dry mixed ?_
   refine .tk 0 rfl rfl rfl rfl (OKY.mv (.t rfl)) ?_
   refine .tk 1 rfl rfl rfl rfl (OKY.mv (.t rfl)) ?_
   refine .tk 3 rfl rfl rfl rfl (OKY.mv (.t rfl)) ?_
   refine .tk 4 rfl rfl rfl rfl (OKY.nilc (.t rfl)) ?_
   refine .tk 5 rfl rfl rfl rfl (OKY.fieldAddr (.t rfl) fld102_3 ty30) ?_
   refine .go [10] ?_
   refine .s 2 [] rfl rfl rfl (.o rfl (.load (.t rfl) (i := 0) rfl ty30 rfl (Ss' := [_, _]) rfl)) ?_
   refine .s 6 [] rfl rfl rfl (.o rfl (.load (.t rfl) (i := 2) rfl ty30 rfl (Ss' := [_, _]) rfl)) ?_
   refine .s 7 [69, 73] rfl rfl rfl (.o rfl (.call (zint_Exact (by rw [val_words]; have := nz_sub (cf r.2 k * cf r0.2 col) (cf r.2 col * cf r0.2 k); have := nz_mul (cf r.2 k) (cf r0.2 col); have := nz_mul (cf r.2 col) (cf r0.2 k); have := hrB k; have := hrB col; have := hr0B k; have := hr0B col; omega) (by rw [val_words]; omega)) (.cons (.t rfl) (.cons (.t rfl) .nil)))) ?_
   refine .s 8 [74] rfl rfl rfl (.o rfl (.mv (.t rfl))) ?_
   refine .ea (i := 10) [66] rfl rfl rfl (by kernel_rfl) rfl (OKY.ext (.t rfl) rfl) ?_
   refine .fin [9, 11, 12] (by kernel_rfl) (by kernel_rfl) (fun _ _ _ _ _ h => h) (by kernel_rfl) (by kernel_rfl) (by kernel_rfl) (by kernel_rfl) (by kernel_rfl) (by kernel_rfl) (by kernel_rfl) (by kernel_rfl) (by kernel_rfl) ?_
   refine .cv (Cv.wk (.k 0 rfl (.k 1 rfl (.k 5 rfl (.k 6 rfl (.k 25 rfl (.k 26 rfl (.k 27 rfl (.k 28 rfl (.k 29 rfl (.k 30 rfl (.k 31 rfl (.k 34 rfl (.k 35 rfl (.k 36 rfl (.k 37 rfl (.k 38 rfl (.k 39 rfl (.k 40 rfl (.k 7 rfl (.k 41 rfl (.k 42 rfl (.k 43 rfl (.k 44 rfl (.k 8 rfl (.k 45 rfl (.k 46 rfl (.k 47 rfl (.k 48 rfl (.k 49 rfl (.k 9 rfl (.k 50 rfl (.k 51 rfl (.k 52 rfl (.k 53 rfl (.k 54 rfl (.k 55 rfl (.k 56 rfl (.k 57 rfl (.k 58 rfl (.k 59 rfl (.k 60 rfl (.k 61 rfl (.k 62 rfl (.k 63 rfl (.k 64 rfl (.k 65 rfl (.k 10 rfl (.k 67 rfl (.k 68 rfl (.k 70 rfl (.k 71 rfl (.k 72 rfl (.k 69 rfl (.k 73 rfl (.k 74 rfl (.k 66 rfl .nil))))))))))))))))))))))))))))))))))))))))))))))))))))))))) ?_
   refine st (.eq (.ext (.t rfl) rfl) ((show isZ _ = Flat (zc (nz (clr r0.2 r.2 col last k))) from isZ_eq (by rw [zv_nf, zv_nf]; rfl)))) rfl ?_
   refine st (.ixGr sl22 ty30 (.t rfl) (.t rfl) ⟨by omega, by omega⟩) rfl ?_
   refine .storeGK (z := nz (clr r0.2 r.2 col last k)) zc_len (.t rfl) (.t rfl) (i := 5 + i) (wkAt (pre := [_, _, _, _, _]) (r := (r.1, mixR r0.2 r.2 col last k)) hset) ty30 (by rw [List.length_map, mixR_len _ _ _ _ (by omega)]; omega) (M' := (_ :: _ :: _ :: _ :: _ :: (rs'.set i (r.1, mixR r0.2 r.2 col last (k + 1))).map rowM)) (wkStore (pre := [_, _, _, _, _]) (X := (r.1, mixR r0.2 r.2 col last k)) hset (mixR_set _ _ _ _ (by omega))) ?_
   refine nl ?_
   refine .bln ?_
   refine .thn (k15 _ _ ?_)
   refine .region (st (.addI (.t rfl) (Has.cI 1 rfl) (by first | omega | assumption) (by first | omega | assumption)) rfl ?_)
   refine st (.mv (.t rfl)) rfl ?_
   refine nl ?_
   refine .thn ?_
   refine hK12 (⟨k + 1, by omega⟩) _ _ ?_ (Cv.trans (Cv.drop ((.cons _ (.cons_cons _ (.cons_cons _ (.cons_cons _ (.cons_cons _ (List.Sublist.refl _)))))))) (Cv.mem (.cons (t := 47) (Has.t' rfl ?_) (.k 0 rfl (.k 1 rfl (.k 5 rfl (.k 6 rfl (.k 25 rfl (.k 26 rfl (.k 27 rfl (.k 28 rfl (.k 29 rfl (.k 30 rfl (.k 31 rfl (.k 34 rfl (.k 35 rfl (.k 36 rfl (.k 37 rfl (.k 38 rfl (.k 39 rfl (.k 40 rfl (.k 7 rfl (.k 41 rfl (.k 42 rfl (.k 43 rfl (.k 44 rfl (.k 8 rfl (.k 45 rfl (.k 46 rfl .nil))))))))))))))))))))))))))) ?_))
   ·show C - (k + 1) < C - k; omega
   ·exact isI_eq (by omega)
   ·rfl
  ·have hc2 := BP.f hc2
   refine .exit ?_
   refine .the ?_
   refine .the ?_
   refine .blh ?_
   refine .bln ?_
   refine .thn (k8 _ _ ?_)
   refine .region (st (.mv (.t rfl)) rfl ?_)
   refine st (.addI (.t rfl) (Has.cI 1 rfl) (by first | omega | assumption) (by first | omega | assumption)) rfl ?_
   refine st (.as (.t rfl)) rfl ?_
   refine nl ?_
   refine .thn ?_
   have hkC : k = r.2.length := by omega
   subst hkC
   refine hK5 (⟨(i + 1, rs'.set i (r.1, clrL r0.2 r.2 col last)), by show ps.length < i + 1; omega, by show i + 1 ≤ _; omega, hcl.step hti hr⟩) _ _ ?_ (Cv.trans (Cv.drop ((.cons _ (.cons_cons _ (.cons_cons _ (.cons_cons _ (List.Sublist.refl _))))))) (Cv.mem (.cons (t := 6) (Has.t' rfl ?_) (.k 0 rfl (.k 1 rfl (.k 5 rfl .nil)))) ?_))
   ·show rs.length - (i + 1) < rs.length - i; omega
   ·exact isI_eq (by omega)
   ·exact wk_round hri
 ·have hc1 := BP.f hc1
  refine .exit ?_
  refine .the ?_
  refine .the ?_
  refine .blh ?_
  refine .thn (k3 _ _ ?_)
  refine .cv (Cv.wk (.k 0 rfl (.k 1 rfl (.k 5 rfl .nil)))) ?_
  refine .seq fun _ k18 => .region (st (.mv (.t rfl)) rfl ?_)
  refine st (.mv (.t rfl)) rfl (st (.mv (.t rfl)) rfl ?_)
  refine st (.ixGr sl22 ty30 (.t rfl) (.t rfl) ⟨by omega, by omega⟩) rfl ?_
  refine st (.loadGK zc_len (.t rfl) (i := 3 + ps.length) (wkAt (pre := [_, _, _]) h0') ty30 (getZ (i := col) (by omega))) rfl ?_
  refine st (.nilc (.t rfl)) rfl ?_
  refine st (.fieldAddr (.t rfl) fld102_3 ty30) rfl ?_
  refine .store (.t rfl) (.t rfl) (i := 0) rfl ty30 rfl rfl (Ss' := [_, _, _, _, _, _]) rfl (M' := ((some _, cellM [_, _, _, _, _, _]) :: _ :: _ :: _)) rfl ?_
  refine nl (.thn (k18 _ _ ?_))
  refine .cv (Cv.wk (.k 0 rfl (.k 1 rfl .nil))) ?_
  refine .region (st (.mv (.t rfl)) rfl ?_)
  refine st (.mv (.t rfl)) rfl (st (.nilc (.t rfl)) rfl ?_)
  refine st (.fieldAddr (.t rfl) fld102_2 ty63) rfl (st (.load1 (.t rfl) (i := 0) rfl ty63 rfl) rfl ?_)
  refine st (.mv (.t rfl)) rfl (st (.buildS [isI 0] sl63 ty3 zero3 (fun _ _ => ⟨⟨rfl, by decide, by decide⟩, trivial⟩) rfl rfl (.cons (.t rfl) rfl rfl rfl .nil) rfl (S := SlM isI [(col : Int)]) rfl) rfl ?_)
  refine .appendG (f := isI) (u := 0) sl63 ty3 zero3 (fun _ _ => ⟨⟨rfl, by decide, by decide⟩, trivial⟩) (fun _ => inferInstance) by3 (.t rfl) (i := 1) rfl (.t rfl) (by rw [hpv]; show ps.length + 1 ≤ _; omega) (by simp) rfl fun gr1 => ?_
  refine .memEq (M' := (_ :: grM _ _ _ :: _ :: _)) rfl ?_
  refine st (.nilc (.t rfl)) rfl ?_
  refine st (.fieldAddr (.t rfl) fld102_2 ty63) rfl ?_
  refine .store (.t rfl) (.t rfl) (i := 0) rfl ty63 rfl rfl (Ss' := [_, _, _, _, _, _]) rfl (M' := ((some _, cellM [_, _, _, _, _, _]) :: _ :: _ :: _)) rfl ?_
  refine nl ?_
  refine rtX0 (.inr rfl) Try.results114 rfl ?_
  exact ⟨gr1, gt, rs', rfl, wk_clr hlen.symm rfl, by obtain rfl : i = rs.length := (by omega); exact hcl⟩
theorem bareiss_run {bw C : Nat} {gp : Gr Int} {gt : Gr Row} {rs : List Row} {K : Nat} (hrow : ∀ r ∈ rs, r.2.length = C) (hb : ∀ r ∈ rs, Bd r.2 K) (hC : C ≤ 64) (hR : rs.length ≤ 64) (hK1 : 1 ≤ K) (hK : (K + 1) * 2 ^ rs.length ≤ 100000000) : CtrX Try.prog 99 [isPtr bw 0] (wkM bw gp gt rs C [] 1 false) (fun S M => ∃ gp' gt' rs' ps' last' odd', S = isTup [] ∧ M = wkM bw gp' gt' rs' C ps' last' odd' ∧ RunI ⟨rs.map Prod.snd, [], 1, false⟩ C K rs.length C rs' ps' last' odd') := by
 refine CtrX.intro Try.func99 rfl (by kernel_rfl) Try.ntmps99 rfl fun w0 F0 => ?_
 refine .cv (Cv.wk (.k 0 rfl .nil)) ?_
 refine .seq fun _ k1 => .region (st (.as (Has.cI 0 rfl)) rfl ?_)
 refine nl (.thn (k1 _ _ ?_))
 refine .block ?_
 refine .loopF [0] (fun (z : { z : Nat × Gr Int × Gr Row × List Row × List Nat × Int × Bool // RunI ⟨rs.map Prod.snd, [], 1, false⟩ C K rs.length z.1 z.2.2.2.1 z.2.2.2.2.1 z.2.2.2.2.2.1 z.2.2.2.2.2.2 }) => match z with | ⟨(c, gp1, gt1, rs1, ps1, last1, odd1), hI⟩ => [(2, isI (c : Int))]) (fun M => fun (z : { z : Nat × Gr Int × Gr Row × List Row × List Nat × Int × Bool // RunI ⟨rs.map Prod.snd, [], 1, false⟩ C K rs.length z.1 z.2.2.2.1 z.2.2.2.2.1 z.2.2.2.2.2.1 z.2.2.2.2.2.2 }) => match z with | ⟨(c, gp1, gt1, rs1, ps1, last1, odd1), hI⟩ => wkM bw gp1 gt1 rs1 C ps1 last1 odd1) (fun (z : { z : Nat × Gr Int × Gr Row × List Row × List Nat × Int × Bool // RunI ⟨rs.map Prod.snd, [], 1, false⟩ C K rs.length z.1 z.2.2.2.1 z.2.2.2.2.1 z.2.2.2.2.2.1 z.2.2.2.2.2.2 }) => match z with | ⟨(c, gp1, gt1, rs1, ps1, last1, odd1), hI⟩ => C - c) (⟨(0, gp, gt, rs, [], 1, false), Nat.zero_le _, rfl, hrow, Nat.zero_le _, fun r hr => (hb r hr).mono (by show K ≤ (K + 1) * 1 - 1; omega), (by show (List.length (words (1 : Int).natAbs)) ≤ (K + 1) * 1 - 1; rw [nz_one]; omega), .zero⟩) (Cv.mem (.cons (t := 2) (Has.t' rfl ?_) (.k 0 rfl .nil)) ?_) ?_
 ·rfl
 ·rfl
 rintro ⟨⟨c, gp1, gt1, rs1, ps1, last1, odd1⟩, hI⟩ K2 hK2
 refine .cv (Cv.wk (.k 2 rfl (.k 0 rfl .nil))) ?_
 refine .memEq (M' := wkM bw gp1 gt1 rs1 C ps1 last1 odd1) rfl ?_
 simp only [] at hI
 have hbn := hI.bnd
 have hpv := pv_len ps1
 have hlen1 := hI.hlen
 have hps1 := hI.hps
 have hcC := hI.hc
 refine .seq fun _ k3 => ?_
 refine .seq fun _ k4 => ?_
 refine .dr ?_
 refine .s [] rfl rfl rfl (.o rfl (.mv (.t rfl))) ?_
 refine .s [] rfl rfl rfl (.o rfl (.mv (.t rfl))) ?_
 refine .s [4] rfl rfl rfl (.o rfl (.nilc (.t rfl))) ?_
 refine .s [5] rfl rfl rfl (.o rfl (.fieldAddr (.t rfl) fld102_1 ty3)) ?_
 refine .s [6] rfl rfl rfl (.o rfl (.load1 (.t rfl) (i := 0) rfl ty3 rfl)) ?_
 refine .s [3, 7] rfl rfl rfl (.o rfl (.ltI (.t rfl) (.t rfl))) ?_
 refine .s [8] rfl rfl rfl (.o rfl (.mv (.t rfl))) ?_
 refine .s [9] rfl rfl rfl (.T rfl rfl rfl (fun hg => have hg' := BP.t hg; OK1.mv (.t rfl))) ?_
 refine .s [9, 10] rfl rfl rfl (.T rfl rfl rfl (fun hg => have hg' := BP.t hg; OK1.nilc (Has.g rfl hg))) ?_
 refine .s [9, 11] rfl rfl rfl (.T rfl rfl rfl (fun hg => have hg' := BP.t hg; OK1.fieldAddr (Has.g rfl hg) fld102_2 ty63)) ?_
 refine .s [9, 12] rfl rfl rfl (.T rfl rfl rfl (fun hg => have hg' := BP.t hg; OK1.load1 (Has.g rfl hg) (i := 0) rfl ty63 rfl)) ?_
 refine .s [9, 13] rfl rfl rfl (.T rfl rfl rfl (fun hg => have hg' := BP.t hg; OK1.len sl63 (Has.g rfl hg))) ?_
 refine .s [9] rfl rfl rfl (.T rfl rfl rfl (fun hg => have hg' := BP.t hg; OK1.mv (.t rfl))) ?_
 refine .s [9, 15] rfl rfl rfl (.T rfl rfl rfl (fun hg => have hg' := BP.t hg; OK1.nilc (Has.g rfl hg))) ?_
 refine .s [9, 16] rfl rfl rfl (.T rfl rfl rfl (fun hg => have hg' := BP.t hg; OK1.fieldAddr (Has.g rfl hg) fld102_0 ty59)) ?_
 refine .s [9, 17] rfl rfl rfl (.T rfl rfl rfl (fun hg => have hg' := BP.t hg; OK1.load1 (Has.g rfl hg) (i := 0) rfl ty59 rfl)) ?_
 refine .s [9, 18] rfl rfl rfl (.T rfl rfl rfl (fun hg => have hg' := BP.t hg; OK1.len sl59 (Has.g rfl hg))) ?_
 refine .fin (n := 17) mixed (by kernel_rfl) (by kernel_rfl) (by kernel_rfl) ?_
 refine .cv (Cv.wk (.k 0 rfl (.k 2 rfl (.k 3 rfl (.k 4 rfl (.k 5 rfl (.k 6 rfl (.k 7 rfl (.k 8 rfl (.k 9 rfl (.k 10 rfl (.k 11 rfl (.k 12 rfl (.k 13 rfl (.k 14 rfl (.k 15 rfl (.k 16 rfl (.k 17 rfl (.k 18 rfl (.k 19 rfl .nil)))))))))))))))))))) ?_
 refine stT rfl rfl (fun hg => have hg' := BP.t hg; OK1.ltI (Has.g rfl hg) (Has.g rfl hg)) rfl ?_
 refine st (.pickAnd (.t rfl) (fun h => Has.g rfl h)) rfl ?_
 refine nl (.thn (k4 _ _ ?_))
 refine .cond (.t rfl) (fun hc1 => ?_) (fun hc1 => ?_)
 ·have hc1 := BP.t hc1
  refine .skip ?_
  refine .thn (k3 _ _ ?_)
  refine .seq fun _ k5 => ?_
  refine .block ?_
  refine .seq fun _ k6 => .region (st (.mv (.t rfl)) rfl ?_)
  refine st (.mv (.t rfl)) rfl ?_
  refine .callX (bareiss_find (col := c) hI.hrow hI.hb hC (by omega) (by omega) (by omega) (by omega)) (perm0 _) (.cons (.t rfl) (.cons (.t rfl) .nil)) rfl ?_
  rintro _ _ ⟨rs2, odd2, ok, rfl, rfl, hF⟩
  refine .memEq (M' := wkM bw gp1 gt1 rs2 C ps1 last1 odd2) (List.append_nil _) ?_
  refine nl (.thn (k6 _ _ ?_))
  refine .cond (.t rfl) (fun hc2 => ?_) (fun hc2 => ?_)
  ·have hc2 := BP.t hc2
   subst hc2
   obtain ⟨r0, h0, hl2, htR, hrow2, hb2, hrun⟩ := hI.yes (by omega) hF
   refine .region (st (.mv (.t rfl)) rfl ?_)
   refine st (.mv (.t rfl)) rfl ?_
   refine .callX (bareiss_clear (col := c) (r0 := r0) hrow2 hb2 hC (by omega) (by omega) (by omega) (by omega) hI.hl h0) (perm0 _) (.cons (.t rfl) (.cons (.t rfl) .nil)) rfl ?_
   rintro _ _ ⟨gp3, gt3, rs3, rfl, rfl, hcl⟩
   refine .memEq (M' := wkM bw gp3 gt3 rs3 C (ps1 ++ [c]) (cf r0.2 c) odd2) (List.append_nil _) ?_
   refine nl ?_
   refine .bln ?_
   refine .thn (k5 _ _ ?_)
   refine .region (st (.mv (.t rfl)) rfl ?_)
   refine st (.addI (.t rfl) (Has.cI 1 rfl) (by first | omega | assumption) (by first | omega | assumption)) rfl ?_
   refine st (.as (.t rfl)) rfl ?_
   refine nl ?_
   refine .thn ?_
   refine hK2 (⟨(c + 1, gp3, gt3, rs3, ps1 ++ [c], cf r0.2 c, odd2), hrun rs3 hcl⟩) _ _ ?_ (Cv.mem (.cons (t := 2) (Has.t' rfl ?_) (.k 0 rfl .nil)) ?_)
   ·show C - (c + 1) < C - c; omega
   ·exact isI_eq (by omega)
   ·rfl
  ·have hc2 := BP.f hc2
   subst hc2
   have hno := hI.no (by omega) hF
   refine .skip ?_
   refine .bln ?_
   refine .thn (k5 _ _ ?_)
   refine .region (st (.mv (.t rfl)) rfl ?_)
   refine st (.addI (.t rfl) (Has.cI 1 rfl) (by first | omega | assumption) (by first | omega | assumption)) rfl ?_
   refine st (.as (.t rfl)) rfl ?_
   refine nl ?_
   refine .thn ?_
   refine hK2 (⟨(c + 1, gp1, gt1, rs2, ps1, last1, odd2), hno⟩) _ _ ?_ (Cv.mem (.cons (t := 2) (Has.t' rfl ?_) (.k 0 rfl .nil)) ?_)
   ·show C - (c + 1) < C - c; omega
   ·exact isI_eq (by omega)
   ·rfl
 ·have hc1 := BP.f hc1
  refine .exit ?_
  refine .the ?_
  refine .the ?_
  refine .blh ?_
  refine rtX0 (.inr rfl) Try.results99 rfl ?_
  exact ⟨gp1, gt1, rs1, ps1, last1, odd1, rfl, rfl, hI.fin (by omega)⟩
theorem bareiss_done {R C K : Nat} {xs : List (Bool × List Nat)} (hx : Bd (vals xs) K) (hK1 : 1 ≤ K) (hR : R ≤ 64) (hC : C ≤ 64) (hl : xs.length = R * C) (hK : (K + 1) * 2 ^ R ≤ 100000000) : CtrX Try.prog 66 [isM (R : Int) (C : Int) xs] ([]) (fun S M => ∃ rs ps last odd, S = isTup [wkF (rs.map Prod.snd) C ps last odd, isI 0] ∧ M = [] ∧ RunI ⟨rowsOf R C (vals xs), [], 1, false⟩ C K R C rs ps last odd) := by
 refine CtrX.intro Try.func66 rfl (by kernel_rfl) Try.ntmps66 rfl fun w0 F0 => ?_
 refine .cv (Cv.wk (.k 0 rfl .nil)) ?_
 have hfo := formB_true hR hC hl
 refine .seq fun _ k1 => .region (.box (.t rfl) rfl fun b1 => ?_)
 refine st (.as Has.cP) rfl ?_
 refine st (.as (Has.cI 0 rfl)) rfl ?_
 refine nl (.thn (k1 _ _ ?_))
 refine .seq fun _ k2 => ?_
 refine .seq fun _ k3 => .region (st (.load (.t rfl) (i := 0) rfl ty24 rfl (Ss' := [_, _, _]) rfl) rfl ?_)
 refine st (.eq (.call (zmat_Formed) (.cons (.t rfl) .nil)) ((show isB _ = isB true from isB_eq hfo))) rfl ?_
 refine st (.not (.t rfl)) rfl ?_
 refine nl (.thn (k3 _ _ ?_))
 refine .cond (.t rfl) (fun hc1 => ?_) (fun hc1 => ?_)
 ·have hc1 := BP.t hc1
  simp at hc1
 ·have hc1 := BP.f hc1
  refine .skip ?_
  refine .thn (k2 _ _ ?_)
  refine .seq fun _ k4 => .region (st (.load (.t rfl) (i := 0) rfl ty24 rfl (Ss' := [_, _, _]) rfl) rfl ?_)
  refine .cv (Cv.drop ((.cons _ .slnil))) ?_
  refine .cv (Cv.wk (.k 0 rfl (.k 2 rfl (.k 3 rfl (.k 5 rfl (.k 6 rfl (.k 7 rfl (.k 8 rfl .nil)))))))) ?_
  refine .callX (bareiss_begun hx (by have := Nat.mul_le_mul_left (K + 1) (Nat.one_le_pow R 2 (by decide)); omega) hR hC hl) (perm0 _) (.cons (.t rfl) .nil) rfl ?_
  rintro _ _ ⟨bw, gt, rs0, rfl, rfl, hrs0⟩
  have hl0 : rs0.length = R := by have := congrArg List.length hrs0; rwa [List.length_map, rowsOf_len] at this
  obtain ⟨hrow0, hb0⟩ := rowsOf_all hx hrs0
  refine .memEq (M' := wkM bw Gr.nil gt rs0 C [] 1 false) (List.append_nil _) ?_
  refine st (.as (.t rfl)) rfl ?_
  refine nl (.thn (k4 _ _ ?_))
  refine .cv (Cv.wk (.k 2 rfl (.k 3 rfl (.k 4 rfl .nil)))) ?_
  refine .seq fun _ k5 => .region (st (.mv (.t rfl)) rfl ?_)
  refine .callX (bareiss_run (rs := rs0) hrow0 hb0 hC (by omega) hK1 (by rw [hl0]; exact hK)) (perm0 _) (.cons (.t rfl) .nil) rfl ?_
  rintro _ _ ⟨gp, gt2, rs, ps, last, odd, rfl, rfl, hRun⟩
  rw [hrs0, hl0] at hRun
  refine .memEq (M' := wkM bw gp gt2 rs C ps last odd) (List.append_nil _) ?_
  refine nl (.thn (k5 _ _ ?_))
  refine .seq fun _ k6 => ?_
  refine .cv (Cv.freezeWk (t := 4) rfl rfl) ?_
  refine .region (st (.mv (.t rfl)) rfl ?_)
  refine st (.as (.t rfl)) rfl (st (.as (Has.cI 0 rfl)) rfl ?_)
  refine nl (.thn (k6 _ _ ?_))
  refine .ret ?_
  refine rtXN (.inl rfl) Try.results66 rfl rfl (.tmp (.t rfl) (.tmp (.t rfl) .nil)) ?_
  exact ⟨rs, ps, last, odd, rfl, rfl, hRun⟩
end Go.Proofs.Ythkdmhaafanjlaa
namespace Go.Proofs.Ythkdmhaafanjlaa
open Go.En Go.RowKit
set_option maxRecDepth 10000
set_option maxHeartbeats 4000000
open Go.Nt
open Go.Pz
open Go.Mz
open Go.Dt
theorem bareiss_matrix {rs : List (List Int)} {C : Nat} {ps : List Nat} {last : Int} {odd : Bool} (hrow : ∀ r ∈ rs, r.length ≤ 64) (hR : rs.length ≤ 64) : Ctr Try.prog 67 [wkF rs C ps last odd] (isMz rs.length C (fltn rs)) := by
 refine Ctr.intro Try.func67 rfl (by kernel_rfl) Try.ntmps67 rfl fun w0 F0 => ?_
 refine .cv (Cv.wk (.k 0 rfl .nil)) ?_
 have hmx : ∀ i, (fltn (rs.take i)).length ≤ 4096 := fun i => Nat.le_trans (fltn_len (W := 64) fun r hr => hrow r (List.mem_of_mem_take hr)) (by rw [List.length_take]; exact Nat.le_trans (Nat.mul_le_mul_right 64 (show min i rs.length ≤ 64 by omega)) (by decide))
 refine .seq fun _ k1 => .region (.alloc [isI 0, isI 0, nilS] zero24 (fun _ _ => ⟨⟨rfl, by decide, by decide⟩, ⟨rfl, by decide, by decide⟩, rfl, trivial⟩) rfl fun b1 => ?_)
 refine nl (.thn (k1 _ _ ?_))
 refine .seq fun _ k2 => ?_
 refine .drh [true] (Ms := [_]) rfl ?_
 refine .s [] rfl rfl rfl (.o rfl (.mv (.t rfl))) ?_
 refine .s [6] rfl rfl rfl (.o rfl (.nilcP (.t rfl))) ?_
 refine .s [7] rfl rfl rfl (.o rfl (.fieldAddrP (.t rfl) fld102_0 ty59 (Ss' := [_, _, _, _, _, _]) rfl)) ?_
 refine .s [8] rfl rfl rfl (.o rfl (.loadP1 (.t rfl) ty59)) ?_
 refine .s [9] rfl rfl rfl (.o rfl (.len sl59 (.t rfl))) ?_
 refine .s [] rfl rfl rfl (.o rfl (.mv (.t rfl))) ?_
 refine .s [11] rfl rfl rfl (.o rfl (.nilcP (.t rfl))) ?_
 refine .s [12] rfl rfl rfl (.o rfl (.fieldAddrP (.t rfl) fld102_1 ty3 (Ss' := [_, _, _, _, _]) rfl)) ?_
 refine .s [13] rfl rfl rfl (.o rfl (.loadP1 (.t rfl) ty3)) ?_
 refine .s [10, 14] rfl rfl rfl (.o rfl (.build [isI 0, isI 0, nilS] pl24 zero24 (fun _ _ => ⟨⟨rfl, by decide, by decide⟩, ⟨rfl, by decide, by decide⟩, rfl, trivial⟩) (.cons (.t rfl) rfl rfl rfl (.cons (.t rfl) rfl rfl rfl .nil)) (Z'' := [_, _, _]) rfl)) ?_
 refine .als (n1 := 11) (ds := [3]) (zs := [[isI 0, isI 0, nilS]]) rfl (.cons rfl rfl zero24 (fun _ _ => ⟨⟨rfl, by decide, by decide⟩, ⟨rfl, by decide, by decide⟩, rfl, trivial⟩) .nil) (.cons_cons _ .slnil) (Cs := [_]) rfl ?_
 refine .fin (n := 11) mixed rfl (by kernel_rfl) (by kernel_rfl) (by kernel_rfl) (fun bs hbs => ?_)
 obtain ⟨b2, rfl⟩ := len1 hbs
 refine .memEq (M' := [_, _]) rfl ?_
 refine .cv (Cv.wk (.k 0 rfl (.k 2 rfl (.k 15 rfl (.cons (t := 3) (Has.op rfl) .nil))))) ?_
 refine .store (.t rfl) (.t rfl) (i := 0) rfl ty24 rfl rfl (Ss' := [_, _, _]) rfl (M' := [(some _, cellM [_, _, _]), _]) rfl ?_
 refine nl (.thn (k2 _ _ ?_))
 refine .seq fun _ k3 => ?_
 refine .seq fun _ k4 => ?_
 refine .cv (Cv.growF (Bool × List Nat) (i := 0) (o := 2) rfl rfl rfl) ?_
 refine .memEq (M' := [grMK zc Gr.nil [], _, _]) rfl ?_
 refine .region (st (.mv (.t rfl)) rfl ?_)
 refine st (.nilcP (.t rfl)) rfl ?_
 refine st (.fieldAddrP (.t rfl) fld102_0 ty59 (Ss' := [_, _, _, _, _, _]) rfl) rfl ?_
 refine st (.loadP1 (.t rfl) ty59) rfl ?_
 refine st (.len sl59 (.t rfl)) rfl (st (.mv (Has.cI 0 rfl)) rfl ?_)
 refine nl (.thn (k4 _ _ ?_))
 refine .cv (Cv.wk (.k 2 rfl (.k 3 rfl (.k 19 rfl (.k 20 rfl (.k 21 rfl .nil)))))) ?_
 refine .block ?_
 refine .loopF [2, 3, 19, 20] (fun (z : { z : Nat × Gr (Bool × List Nat) // z.1 ≤ rs.length }) => match z with | ⟨(i, g), hI⟩ => [(21, isI (i : Int))]) (fun M => fun (z : { z : Nat × Gr (Bool × List Nat) // z.1 ≤ rs.length }) => match z with | ⟨(i, g), hI⟩ => [grMK zc g ((fltn (rs.take i)).map nz), (some b2, cellM [isI (rs.length : Int), isI (C : Int), isGr g ((fltn (rs.take i)).map nz).length]), (some b1, cellM [isI 0, isI 0, nilS])]) (fun (z : { z : Nat × Gr (Bool × List Nat) // z.1 ≤ rs.length }) => match z with | ⟨(i, g), hI⟩ => rs.length - i) (⟨(0, Gr.nil), Nat.zero_le _⟩) (Cv.mem (.cons (t := 21) (Has.t' rfl ?_) (.k 2 rfl (.k 3 rfl (.k 19 rfl (.k 20 rfl .nil))))) ?_) ?_
 ·rfl
 ·rfl
 rintro ⟨⟨i, g⟩, hI⟩ K5 hK5
 refine .cv (Cv.wk (.k 21 rfl (.k 2 rfl (.k 3 rfl (.k 19 rfl (.k 20 rfl .nil)))))) ?_
 refine .memEq (M' := [grMK zc g ((fltn (rs.take i)).map nz), (some b2, cellM [isI (rs.length : Int), isI (C : Int), isGr g ((fltn (rs.take i)).map nz).length]), (some b1, cellM [isI 0, isI 0, nilS])]) rfl ?_
 simp only [] at hI
 have hfl := hmx i
 refine .seq fun _ k6 => .region (st (.ltI (.t rfl) (.t rfl)) rfl ?_)
 refine nl (.thn (k6 _ _ ?_))
 refine .seq fun _ k7 => ?_
 refine .cond (.t rfl) (fun hc1 => ?_) (fun hc1 => ?_)
 ·have hc1 := BP.t hc1
  obtain ⟨r, hr⟩ : ∃ r, rs[i]? = some r := ⟨_, List.getElem?_eq_getElem (by omega)⟩
  have hrW := hrow r (List.mem_of_getElem? hr)
  refine .skip ?_
  refine .thn (k7 _ _ ?_)
  refine .seq fun _ k8 => ?_
  refine .block ?_
  refine .seq fun _ k9 => .region (st (.ixP sl59 ty22 (.t rfl) (.t rfl) ⟨by omega, by omega⟩ hr) rfl ?_)
  refine st (.loadP1 (.t rfl) ty22) rfl ?_
  refine st (.as (.t rfl)) rfl ?_
  refine nl (.thn (k9 _ _ ?_))
  refine .region (st (.fieldAddr (.t rfl) fld24_2 ty22) rfl ?_)
  refine st (.load1 (.t rfl) (i := 1) rfl ty22 rfl) rfl (st (.mv (.t rfl)) rfl ?_)
  refine .appendGK0 (fk := zc) (u := (false, [])) zc_len (by decide) (fun _ => inferInstance) sl22 ty30 zero30 (fun _ _ => ⟨rfl, nilM _ _, trivial⟩) by30 (.t rfl) (i := 0) rfl (.t rfl) (by rw [List.length_map, List.length_map]; omega) rfl fun gr1 => ?_
  refine .memEq (M' := [grMK _ _ _, _, _]) rfl ?_
  refine st (.fieldAddr (.t rfl) fld24_2 ty22) rfl ?_
  refine .store (.t rfl) (.t rfl) (i := 1) rfl ty22 rfl rfl (Ss' := [_, _, _]) rfl (M' := [_, (some _, cellM [_, _, _]), _]) rfl ?_
  refine nl ?_
  refine .bln ?_
  refine .thn (k8 _ _ ?_)
  refine .region (st (.addI (.t rfl) (Has.cI 1 rfl) (by first | omega | assumption) (by first | omega | assumption)) rfl ?_)
  refine st (.mv (.t rfl)) rfl ?_
  refine nl ?_
  refine .thn ?_
  refine hK5 (⟨(i + 1, gr1), by show i + 1 ≤ rs.length; omega⟩) _ _ ?_ (Cv.mem (.cons (t := 21) (Has.t' rfl ?_) (.k 2 rfl (.k 3 rfl (.k 19 rfl (.k 20 rfl .nil))))) ?_)
  ·show rs.length - (i + 1) < rs.length - i; omega
  ·exact isI_eq (by omega)
  ·exact grF_eq (by rw [fltn_snoc hr, List.map_append, List.length_append]) (by rw [fltn_snoc hr, List.map_append])
 ·have hc1 := BP.f hc1
  refine .exit ?_
  refine .the ?_
  refine .the ?_
  refine .blh ?_
  refine .thn (k3 _ _ ?_)
  refine .seq fun _ k10 => ?_
  refine .cv (Cv.freezeF (k := 2) (i := 0) (j := 0) (o := 2) rfl rfl rfl rfl (gr_lenK zc_len) (gr_takeK zc_len) (Ss' := [_, _, SlK 2 zc ((fltn (rs.take i)).map nz)]) rfl) ?_
  refine .memEq (M' := [(some _, cellM [_, _, SlK 2 zc ((fltn (rs.take i)).map nz)]), _]) rfl ?_
  refine .cv (Cv.wk (.k 2 rfl (.k 3 rfl (.k 19 rfl (.k 20 rfl (.k 21 rfl (.k 22 rfl .nil))))))) ?_
  refine .region (st (.load (.t rfl) (i := 0) rfl ty24 rfl (Ss' := [_, _, _]) rfl) rfl ?_)
  refine .store (.t rfl) (.t rfl) (i := 1) rfl ty24 rfl rfl (Ss' := [_, _, _]) rfl (M' := [_, (some _, cellM [_, _, _])]) rfl ?_
  refine nl (.thn (k10 _ _ ?_))
  refine .cv (Cv.wk (.k 2 rfl .nil)) ?_
  refine .ret ?_
  refine rt1 (.inl rfl) Try.results67 rfl (.cell rfl (i := 1) rfl ty24 rfl ?_ .nil)
  all_goals (exact isMz_eq (by rw [List.take_of_length_le (by omega)]))
end Go.Proofs.Ythkdmhaafanjlaa
namespace Go.Pz
open Go.Nt Go.En
def fewB (xs : List (Bool × List Nat)) (n w : Int) : Bool := (xs.take 100).all (fun p => decide ((p.2.length : Int) ≤ w)) && decide ((xs.length : Int) ≤ n)
theorem fewB_no {xs : List (Bool × List Nat)} {n w : Int} {i : Nat} (hi : i < xs.length) (h1 : i < 100) (h : ¬ ((xs.getD i (false, [])).2.length : Int) ≤ w) : fewB xs n w = false := by
 unfold fewB
 have hm : xs.getD i (false, []) ∈ xs.take 100 := by
  rw [List.getD, List.getElem?_eq_getElem hi]
  exact List.mem_take_iff_getElem.2 ⟨i, by omega, rfl⟩
 have : (xs.take 100).all (fun p => decide ((p.2.length : Int) ≤ w)) = false := by
  rw [List.all_eq_false]
  exact ⟨_, hm, by rw [decide_eq_true_eq]; exact h⟩
 rw [this]; rfl
theorem fewB_yes {xs : List (Bool × List Nat)} {n w : Int} {i : Nat} (hi : xs.length ≤ i ∨ 100 ≤ i) (h : ∀ j, j < i → ((xs.getD j (false, [])).2.length : Int) ≤ w) : fewB xs n w = decide ((xs.length : Int) ≤ n) := by
 unfold fewB
 have : (xs.take 100).all (fun p => decide ((p.2.length : Int) ≤ w)) = true := by
  rw [List.all_eq_true]
  intro p hp
  obtain ⟨j, hj, rfl⟩ := List.mem_take_iff_getElem.1 hp
  have := h j (by omega)
  rw [List.getD, List.getElem?_eq_getElem (by omega)] at this
  exact decide_eq_true this
 rw [this]; rfl
theorem fewB_bd {xs : List (Bool × List Nat)} {n w : Int} {N K : Nat} (ok : ∀ p ∈ xs, (∀ y ∈ p.2, y < 18446744073709551616) ∧ p.2.length ≤ 9223372036854775807) (h : fewB xs n w = true) (hn : n = (N : Int)) (hw : w = (K : Int)) (h1 : N ≤ 100) : xs.length ≤ N ∧ Bd (vals xs) K := by
 unfold fewB at h
 rw [Bool.and_eq_true, decide_eq_true_eq, List.all_eq_true] at h
 subst hn; subst hw
 refine ⟨by omega, fun i => ?_⟩
 rw [cf_vals, zv_nw]
 rcases Nat.lt_or_ge i xs.length with hi | hi
 ·rw [List.getD, List.getElem?_eq_getElem hi]
  have h2 := h.1 xs[i] (List.mem_take_iff_getElem.2 ⟨i, by omega, rfl⟩)
  rw [decide_eq_true_eq] at h2
  exact Nat.le_trans (nw_val (ok _ (List.getElem_mem hi)).1) (by show xs[i].2.length ≤ K; omega)
 ·rw [List.getD, List.getElem?_eq_none (by omega)]
  show (List.length (words (val []))) ≤ K
  rw [show val [] = 0 from rfl, words_zero]; exact Nat.zero_le _
end Go.Pz
namespace Go.Proofs.Ythkdmhaafanjlaa
open Go.En Go.RowKit
set_option maxRecDepth 10000
set_option maxHeartbeats 4000000
open Go.Nt
open Go.Pz
theorem ref10_Few {xs : List (Bool × List Nat)} {n w : Int} : Ctr Try.prog 27 [SlK 2 zc xs, isI n, isI w] (isB (fewB xs n w)) := by
 refine Ctr.intro Try.func27 rfl (by kernel_rfl) Try.ntmps27 rfl fun w0 F0 => ?_
 refine .cv (Cv.wk (.k 0 rfl (.k 1 rfl (.k 2 rfl .nil)))) ?_
 refine .fact (Has.lenLt (Has.t (t := 0) rfl)) fun lt0 => ?_
 refine .fact (Has.rngI (Has.t (t := 1) rfl)) fun lt1 => ?_
 refine .fact (Has.rngI (Has.t (t := 2) rfl)) fun lt2 => ?_
 refine .seq fun _ k1 => .region (st (.as (Has.cB false)) rfl ?_)
 refine nl (.thn (k1 _ _ ?_))
 refine .seq fun _ k2 => ?_
 refine .seq fun _ k3 => .region (st (.as (Has.cI 0 rfl)) rfl ?_)
 refine nl (.thn (k3 _ _ ?_))
 refine .block ?_
 refine .loopF [0, 1, 2] (fun (z : { i : Nat // i ≤ xs.length ∧ i ≤ 100 ∧ ∀ j, j < i → ((xs.getD j (false, [])).2.length : Int) ≤ w }) => match z with | ⟨i, hi⟩ => [(7, isI (i : Int))]) (fun M => fun (z : { i : Nat // i ≤ xs.length ∧ i ≤ 100 ∧ ∀ j, j < i → ((xs.getD j (false, [])).2.length : Int) ≤ w }) => match z with | ⟨i, hi⟩ => []) (fun (z : { i : Nat // i ≤ xs.length ∧ i ≤ 100 ∧ ∀ j, j < i → ((xs.getD j (false, [])).2.length : Int) ≤ w }) => match z with | ⟨i, hi⟩ => xs.length - i) (⟨0, Nat.zero_le _, by omega, fun j h => absurd h (Nat.not_lt_zero _)⟩) (Cv.mem (.cons (t := 7) (Has.t' rfl ?_) (.k 0 rfl (.k 1 rfl (.k 2 rfl .nil)))) ?_) ?_
 ·rfl
 ·rfl
 rintro ⟨i, hi, h1, hj⟩ K4 hK4
 refine .cv (Cv.wk (.k 7 rfl (.k 0 rfl (.k 1 rfl (.k 2 rfl .nil))))) ?_
 refine .memEq (M' := []) rfl ?_
 refine .seq fun _ k5 => ?_
 refine .seq fun _ k6 => .region (st (.mv (.t rfl)) rfl ?_)
 refine st (.mv (.t rfl)) rfl (st (.len sl22 (.t rfl)) rfl ?_)
 refine st (.ltI (.t rfl) (.t rfl)) rfl ?_
 refine st (.mv (.t rfl)) rfl ?_
 refine stT rfl rfl (fun hg => have hg' := BP.t hg; OK1.mv (.t rfl)) rfl ?_
 refine stT rfl rfl (fun hg => have hg' := BP.t hg; OK1.ltI (Has.g rfl hg) (Has.cI 100 rfl)) rfl ?_
 refine st (.pickAnd (.t rfl) (fun h => Has.g rfl h)) rfl ?_
 refine nl (.thn (k6 _ _ ?_))
 refine .cond (.t rfl) (fun hc1 => ?_) (fun hc1 => ?_)
 ·have hc1 := BP.t hc1
  refine .skip ?_
  refine .thn (k5 _ _ ?_)
  refine .seq fun _ k7 => ?_
  refine .block ?_
  refine .seq fun _ k8 => .region (st (.mv (.t rfl)) rfl ?_)
  refine st (.mv (.t rfl)) rfl (st (.ixK sl22 ty30 (.t rfl) (.t rfl) zc_len ⟨by omega, by omega⟩ (getD_some (d := (false, [])) (by first | omega | (simp only [Int.toNat_natCast, List.length_set]; omega)))) rfl ?_)
  refine st (.fieldAddrP (.t rfl) fld30_1 ty28 (Ss' := [_]) rfl) rfl ?_
  refine st (.loadP1 (.t rfl) ty28) rfl ?_
  refine st (.len sl28 (.t rfl)) rfl ?_
  refine st (.mv (.t rfl)) rfl (st (.gtI (.t rfl) (.t rfl)) rfl ?_)
  refine nl (.thn (k8 _ _ ?_))
  refine .cond (.t rfl) (fun hc2 => ?_) (fun hc2 => ?_)
  ·have hc2 := BP.t hc2
   have hNo : ¬ ((xs.getD i (false, [])).2.length : Int) ≤ w := (by simp only [Int.toNat_natCast] at hc2; omega)
   refine .seq fun _ k9 => .region (st (.as (Has.cB false)) rfl ?_)
   refine nl (.thn (k9 _ _ ?_))
   refine .ret ?_
   refine .blr ?_
   refine .thr ?_
   refine .thr ?_
   refine .blr ?_
   refine .thr ?_
   refine rt1 (.inl rfl) Try.results27 rfl (.tmp (Has.t' rfl ?_) .nil)
   all_goals (exact isB_eq (fewB_no (by omega) (by omega) hNo).symm)
  ·have hc2 := BP.f hc2
   have hLe : ((xs.getD i (false, [])).2.length : Int) ≤ w := (by simp only [Int.toNat_natCast] at hc2; omega)
   refine .skip ?_
   refine .bln ?_
   refine .thn (k7 _ _ ?_)
   refine .region (st (.mv (.t rfl)) rfl ?_)
   refine st (.addI (.t rfl) (Has.cI 1 rfl) (by first | omega | assumption) (by first | omega | assumption)) rfl ?_
   refine st (.as (.t rfl)) rfl ?_
   refine nl ?_
   refine .thn ?_
   refine hK4 (⟨i + 1, by omega, by omega, fun j h => by rcases Nat.lt_or_ge j i with h2 | h2; exact hj j h2; rw [show j = i by omega]; exact hLe⟩) _ _ ?_ (Cv.mem (.cons (t := 7) (Has.t' rfl ?_) (.k 0 rfl (.k 1 rfl (.k 2 rfl .nil)))) ?_)
   ·show xs.length - (i + 1) < xs.length - i; omega
   ·exact isI_eq (by omega)
   ·rfl
 ·have hc1 := BP.f hc1
  refine .exit ?_
  refine .the ?_
  refine .the ?_
  refine .blh ?_
  refine .thn (k2 _ _ ?_)
  refine .cv (Cv.wk (.k 0 rfl (.k 1 rfl .nil))) ?_
  refine .seq fun _ k10 => .region (st (.mv (.t rfl)) rfl ?_)
  refine st (.len sl22 (.t rfl)) rfl ?_
  refine st (.mv (.t rfl)) rfl (st (.leI (.t rfl) (.t rfl)) rfl ?_)
  refine st (.as (.t rfl)) rfl ?_
  refine nl (.thn (k10 _ _ ?_))
  refine .cv (Cv.wk (.k 6 rfl .nil)) ?_
  refine .ret ?_
  refine rt1 (.inl rfl) Try.results27 rfl (.tmp (Has.t' rfl ?_) .nil)
  all_goals (exact isB_eq (fewB_yes (by omega) hj).symm)
end Go.Proofs.Ythkdmhaafanjlaa
namespace Go.Proofs.Ythkdmhaafanjlaa
open Go.En Go.RowKit
set_option maxRecDepth 10000
set_option maxHeartbeats 4000000
open Go.Nt
open Go.Pz
open Go.Mz
open Go.Hn
open Go.Tr
open Go.Dt
theorem mulB0 {R K : Nat} {L : List Int} : MulB R 0 K L 1 := ⟨by decide, by
 show (words (1 : Int).natAbs).length ≤ _
 rw [nz_one]
 exact Nat.mul_le_mul (show 1 ≤ K + 1 by omega) (Nat.pow_pos (by decide)), Nat.zero_le _, [], rfl, by simp, List.nodup_nil, rfl⟩
theorem bareiss_EchelonT {R C K : Nat} {xs : List (Bool × List Nat)} (hx : Bd (vals xs) K) (hK1 : 1 ≤ K) (hR : R ≤ 64) (hC : C ≤ 64) (hl : xs.length = R * C) (hK : (K + 1) * 2 ^ R ≤ 30000000) : CtrX Try.prog 30 [isM (R : Int) (C : Int) xs] ([]) (fun S M => ∃ rs ps last odd, S = isTup [isMz rs.length C (fltn (rs.map Prod.snd)), SlM isI (pv ps), isI 0] ∧ M = [] ∧ RunI ⟨rowsOf R C (vals xs), [], 1, false⟩ C K R C rs ps last odd) := by
 refine CtrX.intro Try.func30 rfl (by kernel_rfl) Try.ntmps30 rfl fun w0 F0 => ?_
 refine .cv (Cv.wk (.k 0 rfl .nil)) ?_
 refine .seq fun _ k1 => .region (.box (.t rfl) rfl fun b1 => ?_)
 refine .alloc [isI 0, isI 0, nilS] zero24 (fun _ _ => ⟨⟨rfl, by decide, by decide⟩, ⟨rfl, by decide, by decide⟩, rfl, trivial⟩) rfl fun b2 => ?_
 refine st (.as (Has.cW (f := isI))) rfl ?_
 refine st (.as (Has.cI 0 rfl)) rfl ?_
 refine nl (.thn (k1 _ _ ?_))
 refine .seq fun _ k2 => .region (st (.load (.t rfl) (i := 1) rfl ty24 rfl (Ss' := [_, _, _]) rfl) rfl ?_)
 refine .callX (bareiss_done hx hK1 hR hC hl (by omega)) (List.Perm.refl _) (.cons (.t rfl) .nil) rfl ?_
 rintro _ _ ⟨rs, ps, last, odd, rfl, rfl, hRun⟩
 have hpv := pv_len ps
 have hps := hRun.hps
 refine st (.mv (.t rfl)) rfl (st (.ext (.t rfl) rfl) rfl ?_)
 refine st (.ext (.t rfl) rfl) rfl ?_
 refine st (.as (.t rfl)) rfl (st (.as (.t rfl)) rfl ?_)
 refine nl (.thn (k2 _ _ ?_))
 refine .cv (Cv.wk (.k 2 rfl (.k 3 rfl (.k 4 rfl (.k 5 rfl (.k 6 rfl .nil)))))) ?_
 refine .seq fun _ k3 => ?_
 refine .seq fun _ k4 => .region (st (.mv (.t rfl)) rfl ?_)
 refine st (.neI (.t rfl) (Has.cI 0 rfl)) rfl ?_
 refine nl (.thn (k4 _ _ ?_))
 refine .cond (.t rfl) (fun hc1 => ?_) (fun hc1 => ?_)
 ·have hc1 := BP.t hc1
  exact absurd rfl hc1
 ·have hc1 := BP.f hc1
  skip
  refine .skip ?_
  refine .thn (k3 _ _ ?_)
  refine .seq fun _ k5 => ?_
  refine .drh [false, true] (Ms := [_]) rfl ?_
  refine .s [] rfl rfl rfl (.o rfl (.mv (.t rfl))) ?_
  refine .s [16] rfl rfl rfl (.o rfl (.eq (.call (bareiss_matrix (fun r hr => by obtain ⟨q, hq, rfl⟩ := List.mem_map.1 hr; have := hRun.hrow q hq; omega) (by rw [List.length_map]; have := hRun.hlen; omega)) (.cons (.t rfl) .nil)) ((show _ = isMz rs.length C (fltn (rs.map Prod.snd)) from by rw [List.length_map])))) ?_
  refine .s [] rfl rfl rfl (.o rfl (.mv (.t rfl))) ?_
  refine .s [18] rfl rfl rfl (.o rfl (.nilcP (.t rfl))) ?_
  refine .s [19] rfl rfl rfl (.o rfl (.fieldAddrP (.t rfl) fld102_2 ty63 (Ss' := [_, _, _, _]) rfl)) ?_
  refine .s [20] rfl rfl rfl (.o rfl (.loadP1 (.t rfl) ty63)) ?_
  refine .mid (.cons _ (.cons_cons _ .slnil)) ?_
  refine .st [17] rfl rfl (by kernel_rfl) (by kernel_rfl) (StS.store (.t rfl) (.t rfl) (i := 0) rfl ty24 rfl rfl (Ss' := [_, _, _]) rfl (M' := [(some _, cellM [_, _, _]), _]) rfl) (.cons _ (.cons_cons _ .slnil)) ?_
  refine .fin (n := 7) mixed rfl (by kernel_rfl) (by kernel_rfl) (by kernel_rfl) ?_
  refine .cv (Cv.wk (.k 2 rfl (.k 3 rfl (.k 4 rfl (.k 21 rfl .nil))))) ?_
  refine st (.as (.t rfl)) rfl (st (.as (Has.cI 0 rfl)) rfl ?_)
  refine nl (.thn (k5 _ _ ?_))
  refine .ret ?_
  refine rtXND (.cons _ (.cons _ .slnil)) (.inl rfl) Try.results30 rfl rfl (.cell rfl (i := 0) rfl ty24 rfl rfl (.tmp (.t rfl) (.tmp (.t rfl) .nil))) ?_
  exact ⟨rs, ps, last, odd, rfl, rfl, hRun⟩
theorem modhnf_Multiple {R C K : Nat} {xs : List (Bool × List Nat)} (hx : Bd (vals xs) K) (hK1 : 1 ≤ K) (hR : R ≤ 64) (hC : C ≤ 64) (hl : xs.length = R * C) (hK : (K + 1) * 2 ^ R ≤ 30000000) (hp : (Go.Dt.pivs (mf C (vals xs)) R C).length = C) : CtrX Try.prog 9 [isM (R : Int) (C : Int) xs] ([]) (fun S M => ∃ b, S = isTup [isZ b, isI 0] ∧ M = [] ∧ MulB R C K (vals xs) b) := by
 refine CtrX.intro Try.func9 rfl (by kernel_rfl) Try.ntmps9 rfl fun w0 F0 => ?_
 refine .cv (Cv.wk (.k 0 rfl .nil)) ?_
 refine .seq fun _ k1 => .region (.box (.t rfl) rfl fun b1 => ?_)
 refine .alloc [isB false, SlM isU []] zero30 (fun _ _ => ⟨rfl, nilM _ _, trivial⟩) rfl fun b2 => ?_
 refine st (.as (Has.cI 0 rfl)) rfl ?_
 refine nl (.thn (k1 _ _ ?_))
 refine .seq fun _ k2 => .region (st (.load (.t rfl) (i := 1) rfl ty24 rfl (Ss' := [_, _, _]) rfl) rfl ?_)
 refine .callX (bareiss_EchelonT hx hK1 hR hC hl hK) (List.Perm.refl _) (.cons (.t rfl) .nil) rfl ?_
 rintro _ _ ⟨rs, ps, last, odd, rfl, rfl, hRun⟩
 have hpv := pv_len ps
 have hpp : ps.length = (Go.Dt.pivs (mf C (vals xs)) R C).length := by rw [run_pivs hRun]
 have hrl := hRun.hlen
 have hpl := hRun.hps
 refine st (.mv (.t rfl)) rfl (st (.ext (.t rfl) rfl) rfl ?_)
 refine st (.ext (.t rfl) rfl) rfl (st (.ext (.t rfl) rfl) rfl ?_)
 refine .alloc [isI 0, isI 0, nilS] zero24 (fun _ _ => ⟨⟨rfl, by decide, by decide⟩, ⟨rfl, by decide, by decide⟩, rfl, trivial⟩) rfl fun b3 => ?_
 refine .store (.t rfl) (.t rfl) (i := 0) rfl ty24 rfl rfl (Ss' := [_, _, _]) rfl (M' := [(some _, cellM [_, _, _]), _, _]) rfl ?_
 refine st (.as (.t rfl)) rfl (st (.as (.t rfl)) rfl ?_)
 refine nl (.thn (k2 _ _ ?_))
 refine .cv (Cv.wk (.k 1 rfl (.k 2 rfl (.k 3 rfl (.k 4 rfl (.k 5 rfl (.k 6 rfl .nil))))))) ?_
 refine .seq fun _ k3 => ?_
 refine .block ?_
 refine .seq fun _ k4 => .region (st (.mv (.t rfl)) rfl ?_)
 refine st (.neI (.t rfl) (Has.cI 0 rfl)) rfl ?_
 refine st (.as (.t rfl)) rfl ?_
 refine nl (.thn (k4 _ _ ?_))
 refine .cond (.t rfl) (fun hc1 => ?_) (fun hc1 => ?_)
 ·have hc1 := BP.t hc1
  exfalso; simp at hc1
 ·have hc1 := BP.f hc1
  skip
  refine .seq fun _ k5 => .region (st (.mv (.t rfl)) rfl ?_)
  refine st (.len sl63 (.t rfl)) rfl (st (.fieldAddr (.t rfl) fld24_1 ty3) rfl ?_)
  refine st (.load1 (.t rfl) (i := 2) rfl ty3 rfl) rfl (st (.ltI (.t rfl) (.t rfl)) rfl ?_)
  refine st (.as (.t rfl)) rfl ?_
  refine nl (.thn (k5 _ _ ?_))
  refine .cv (Cv.wk (.k 1 rfl (.k 2 rfl (.k 3 rfl (.k 4 rfl (.k 18 rfl .nil)))))) ?_
  refine .cond (.t rfl) (fun hc2 => ?_) (fun hc2 => ?_)
  ·have hc2 := BP.t hc2
   exfalso; omega
  ·have hc2 := BP.f hc2
   obtain ⟨hMB, hlast⟩ := run_mul hRun (by omega)
   have hrow : ∀ r ∈ rs.map Prod.snd, r.length = C := fun r hr => by obtain ⟨q, hq, rfl⟩ := List.mem_map.1 hr; exact hRun.hrow q hq
   have hbA : ∀ r ∈ rs.map Prod.snd, Bd r ((K + 1) * 2 ^ R) := fun r hr => by obtain ⟨q, hq, rfl⟩ := List.mem_map.1 hr; exact (hRun.hb q hq).mono (by have := Nat.mul_le_mul_left (K + 1) (Nat.pow_le_pow_right (show 0 < 2 by decide) hpl); omega)
   have hll := hRun.hl
   have hp2 := Nat.mul_le_mul_left (K + 1) (Nat.pow_le_pow_right (show 0 < 2 by decide) hpl)
   refine .seq fun _ k6 => .region (st (.fieldAddr (.t rfl) fld24_1 ty3) rfl ?_)
   refine st (.load1 (.t rfl) (i := 2) rfl ty3 rfl) rfl (st (.eqI (.t rfl) (Has.cI 0 rfl)) rfl ?_)
   refine st (.as (.t rfl)) rfl ?_
   refine nl (.thn (k6 _ _ ?_))
   refine .cond (.t rfl) (fun hc3 => ?_) (fun hc3 => ?_)
   ·have hc3 := BP.t hc3
    obtain rfl : C = 0 := by omega
    refine .seq fun _ k7 => .region (st (.call (zint_Of) (.cons (Has.cI 1 rfl) .nil)) rfl ?_)
    refine .store (.t rfl) (.t rfl) (i := 1) rfl ty30 rfl rfl (Ss' := [_, _]) rfl (M' := [_, (some _, cellM [_, _]), _]) rfl ?_
    refine st (.as (Has.cI 0 rfl)) rfl ?_
    refine nl (.thn (k7 _ _ ?_))
    refine .cv (Cv.wk (.k 1 rfl (.k 2 rfl (.k 3 rfl (.k 4 rfl .nil))))) ?_
    refine .ret ?_
    refine .blr ?_
    refine .thr ?_
    refine rtXND (.cons _ (.cons _ (.cons _ .slnil))) (.inl rfl) Try.results9 rfl rfl (.cell rfl (i := 1) rfl ty30 rfl rfl (.tmp (.t rfl) .nil)) ?_
    exact ⟨1, rfl, rfl, mulB0⟩
   ·have hc3 := BP.f hc3
    have hC0 : 0 < C := by omega
    obtain ⟨rl, hrl1, hrl2⟩ := hlast hC0
    refine .skip ?_
    refine .bln ?_
    refine .thn (k3 _ _ ?_)
    refine .cv (Cv.wk (.k 1 rfl (.k 2 rfl (.k 3 rfl (.k 4 rfl .nil))))) ?_
    refine .seq fun _ k8 => .region (st (.load (.t rfl) (i := 0) rfl ty24 rfl (Ss' := [_, _, _]) rfl) rfl ?_)
    refine st (.fieldAddr (.t rfl) fld24_1 ty3) rfl (st (.load1 (.t rfl) (i := 2) rfl ty3 rfl) rfl ?_)
    refine st (.eq (.subI (.t rfl) (Has.cI 1 rfl) (by first | omega | assumption) (by first | omega | assumption)) ((show isI _ = isI ((C - 1 : Nat) : Int) from isI_eq (by omega)))) rfl ?_
    refine st (.fieldAddr (.t rfl) fld24_1 ty3) rfl (st (.load1 (.t rfl) (i := 2) rfl ty3 rfl) rfl ?_)
    refine st (.eq (.subI (.t rfl) (Has.cI 1 rfl) (by first | omega | assumption) (by first | omega | assumption)) ((show isI _ = isI ((C - 1 : Nat) : Int) from isI_eq (by omega)))) rfl ?_
    refine st (.eq (.call (zmat_At (R := rs.length) (i := C - 1) (k := C - 1) (K := (K + 1) * 2 ^ R) (by rw [vals_nz]; exact fltn_bd hrow hbA) (by omega) (by omega) hC (by rw [List.length_map, fltn_tab hrow, tab_len, List.length_map]) (by omega) (by omega)) (.cons (.t rfl) (.cons (.t rfl) (.cons (.t rfl) .nil)))) ((show _ = isZ last from isZ_eq (by rw [vals_nz]; exact (fltn_at hrow (r := rl.2) (by rw [List.getElem?_map, hrl1]; rfl) (by omega)).trans hrl2)))) rfl ?_
    refine st (.eq (.call (zint_Abs (by rw [val_words]; omega)) (.cons (.t rfl) .nil)) ((show _ = isZ ((last.natAbs : Nat) : Int) from isZ_eq (by rw [zv_nf])))) rfl ?_
    refine .store (.t rfl) (.t rfl) (i := 1) rfl ty30 rfl rfl (Ss' := [_, _]) rfl (M' := [_, (some _, cellM [_, _]), _]) rfl ?_
    refine st (.as (Has.cI 0 rfl)) rfl ?_
    refine nl (.thn (k8 _ _ ?_))
    refine .cv (Cv.wk (.k 2 rfl (.k 3 rfl .nil))) ?_
    refine .ret ?_
    refine rtXND (.cons _ (.cons _ (.cons _ .slnil))) (.inl rfl) Try.results9 rfl rfl (.cell rfl (i := 1) rfl ty30 rfl rfl (.tmp (.t rfl) .nil)) ?_
    exact ⟨_, rfl, rfl, hMB⟩
theorem tri_mem {n0 : Nat} {gt : Gr Row} {rs : List Row} {ls : List (List Int)} {M : Mem} (h : rs.map Prod.snd = ls) : (grM (tN n0) (gN gt) (rs.map fun r => some r.2) :: M : Mem) = grM (tN n0) (gN gt) (ls.map some) :: M := by
 subst h; rw [List.map_map]; rfl
theorem modhnf_filled {R C K : Nat} {xs : List (Bool × List Nat)} (hx : Bd (vals xs) K) (hK1 : 1 ≤ K) (hR : R ≤ 64) (hC : C ≤ 64) (hl : xs.length = R * C) (hK : (((K + 1) * 2 ^ R) + 2) * 2 ^ C ≤ 80000000) (hKm : ((K + 1) * 2 ^ R) ≤ 30000000) (hp : (Go.Dt.pivs (mf C (vals xs)) R C).length = C) : CtrX Try.prog 28 [isM (R : Int) (C : Int) xs] ([]) (fun S M => ∃ b, S = isTup [PtrL [SlM isP (filT b R C (vals xs)), isB (decide (b < 0)), SlM isU (words b.natAbs)], isI 0] ∧ M = [] ∧ MulB R C K (vals xs) b) := by
 refine CtrX.introF Try.func28 rfl (by kernel_rfl) Try.ntmps28 rfl fun w0 F0 hF0 => ?_
 refine .cv (Cv.wk (.k 0 rfl .nil)) ?_
 have hKb : K + 1 ≤ ((K + 1) * 2 ^ R) := Nat.le_mul_of_pos_right _ (Nat.pow_pos (by decide))
 refine .seq fun _ k1 => .region (.box (.t rfl) rfl fun b1 => ?_)
 refine st (.as Has.cP) rfl ?_
 refine st (.as (Has.cI 0 rfl)) rfl ?_
 refine nl (.thn (k1 _ _ ?_))
 refine .seq fun _ k2 => .region (st (.load (.t rfl) (i := 0) rfl ty24 rfl (Ss' := [_, _, _]) rfl) rfl ?_)
 refine .callX (modhnf_Multiple hx hK1 hR hC hl hKm hp) (List.Perm.refl _) (.cons (.t rfl) .nil) rfl ?_
 rintro _ _ ⟨b, rfl, rfl, hMB⟩
 have hb0 := hMB.1
 have hbK := hMB.2.1
 refine st (.mv (.t rfl)) rfl (st (.ext (.t rfl) rfl) rfl ?_)
 refine st (.ext (.t rfl) rfl) rfl ?_
 refine .alloc [isB false, SlM isU []] zero30 (fun _ _ => ⟨rfl, nilM _ _, trivial⟩) rfl fun b2 => ?_
 refine .store (.t rfl) (.t rfl) (i := 0) rfl ty30 rfl rfl (Ss' := [_, _]) rfl (M' := [(some _, cellM [_, _]), _]) rfl ?_
 refine st (.as (.t rfl)) rfl ?_
 refine nl (.thn (k2 _ _ ?_))
 refine .cv (Cv.wk (.k 1 rfl (.k 2 rfl (.k 3 rfl (.k 4 rfl (.k 5 rfl .nil)))))) ?_
 refine .seq fun _ k3 => ?_
 refine .seq fun _ k4 => .region (st (.mv (.t rfl)) rfl ?_)
 refine st (.neI (.t rfl) (Has.cI 0 rfl)) rfl ?_
 refine nl (.thn (k4 _ _ ?_))
 refine .cond (.t rfl) (fun hc1 => ?_) (fun hc1 => ?_)
 ·have hc1 := BP.t hc1
  exfalso; simp at hc1
 ·have hc1 := BP.f hc1
  skip
  refine .skip ?_
  refine .thn (k3 _ _ ?_)
  refine .seq fun _ k5 => .region (st (.fieldAddr (.t rfl) fld24_1 ty3) rfl ?_)
  refine st (.load1 (.t rfl) (i := 1) rfl ty3 rfl) rfl (st (.load (.t rfl) (i := 0) rfl ty30 rfl (Ss' := [_, _]) rfl) rfl ?_)
  refine .callX (modhnf_begun (n := C) (b := b) hC) (List.Perm.refl _) (.cons (.t rfl) (.cons (.t rfl) .nil)) rfl ?_
  rintro _ _ ⟨bt, gt0, rs0, rfl, rfl, hrs0⟩
  have hl0 : rs0.length = C := by have := congrArg List.length hrs0; rwa [List.length_map, tri0_len] at this
  refine .cv (Cv.triN (t := 23) (n' := C) rfl rfl hl0 rfl) ?_
  refine st (.as (.t rfl)) rfl ?_
  refine nl (.thn (k5 _ _ ?_))
  refine .cv (Cv.wk (.k 1 rfl (.k 2 rfl (.k 3 rfl (.k 4 rfl (.k 6 rfl .nil)))))) ?_
  refine .seq fun _ k6 => ?_
  refine .seq fun _ k7 => .region (st (.fieldAddr (.t rfl) fld24_0 ty3) rfl ?_)
  refine st (.load1 (.t rfl) (i := 2) rfl ty3 rfl) rfl (st (.mv (Has.cI 0 rfl)) rfl ?_)
  refine nl (.thn (k7 _ _ ?_))
  refine .block ?_
  refine .loopF [1, 2, 3, 4, 6, 25] (fun (z : { i : Nat // i ≤ R }) => match z with | ⟨i, hi⟩ => [(26, isI (i : Int))]) (fun M => fun (z : { i : Nat // i ≤ R }) => match z with | ⟨i, hi⟩ => (grM (tN w0.heap.size) (gN gt0) ((fil b C (vals xs) i).map some) :: zM b2 b :: (some b1, cellM [isI (R : Int), isI (C : Int), SlK 2 zc xs]) :: [])) (fun (z : { i : Nat // i ≤ R }) => match z with | ⟨i, hi⟩ => R - i) (⟨0, Nat.zero_le _⟩) (Cv.mem (.cons (t := 26) (Has.t' rfl ?_) (.k 1 rfl (.k 2 rfl (.k 3 rfl (.k 4 rfl (.k 6 rfl (.k 25 rfl .nil))))))) ?_) ?_
  ·rfl
  ·exact tri_mem hrs0
  rintro ⟨i, hi⟩ K8 hK8
  refine .cv (Cv.wk (.k 26 rfl (.k 1 rfl (.k 2 rfl (.k 3 rfl (.k 4 rfl (.k 6 rfl (.k 25 rfl .nil)))))))) ?_
  refine .memEq (M' := (grM (tN w0.heap.size) (gN gt0) ((fil b C (vals xs) i).map some) :: zM b2 b :: (some b1, cellM [isI (R : Int), isI (C : Int), SlK 2 zc xs]) :: [])) rfl ?_
  refine .seq fun _ k9 => .region (st (.ltI (.t rfl) (.t rfl)) rfl ?_)
  refine nl (.thn (k9 _ _ ?_))
  refine .seq fun _ k10 => ?_
  refine .cond (.t rfl) (fun hc2 => ?_) (fun hc2 => ?_)
  ·have hc2 := BP.t hc2
   refine .skip ?_
   refine .thn (k10 _ _ ?_)
   refine .seq fun _ k11 => ?_
   refine .block ?_
   refine .seq fun _ k12 => .region (st (.mv (.t rfl)) rfl ?_)
   refine st (.as (.t rfl)) rfl ?_
   refine nl (.thn (k12 _ _ ?_))
   refine .seq fun _ k13 => .region (.cv (Cv.grow0K (α := Bool × List Nat) zc) ?_)
   refine st (.as (Has.cGr (α := Bool × List Nat))) rfl ?_
   refine nl (.thn (k13 _ _ ?_))
   refine .seq fun _ k14 => ?_
   refine .seq fun _ k15 => .region (st (.fieldAddr (.t rfl) fld24_1 ty3) rfl ?_)
   refine st (.load1 (.t rfl) (i := 3) rfl ty3 rfl) rfl (st (.mv (Has.cI 0 rfl)) rfl ?_)
   refine nl (.thn (k15 _ _ ?_))
   refine .block ?_
   refine .loopF [1, 2, 3, 4, 6, 25, 26, 27, 28, 7, 29, 30] (fun (z : { z : Nat × Gr (Bool × List Nat) // z.1 ≤ C }) => match z with | ⟨(k, g), hK3⟩ => [(31, isI (k : Int)), (8, isGr g ((vrow b C (vals xs) i k).map nz).length)]) (fun M => fun (z : { z : Nat × Gr (Bool × List Nat) // z.1 ≤ C }) => match z with | ⟨(k, g), hK3⟩ => (grMK zc g ((vrow b C (vals xs) i k).map nz) :: grM (tN w0.heap.size) (gN gt0) ((fil b C (vals xs) i).map some) :: zM b2 b :: (some b1, cellM [isI (R : Int), isI (C : Int), SlK 2 zc xs]) :: [])) (fun (z : { z : Nat × Gr (Bool × List Nat) // z.1 ≤ C }) => match z with | ⟨(k, g), hK3⟩ => C - k) (⟨(0, Gr.nil), Nat.zero_le _⟩) (Cv.mem (.cons (t := 31) (Has.t' rfl ?_) (.cons (t := 8) (Has.t' rfl ?_) (.k 1 rfl (.k 2 rfl (.k 3 rfl (.k 4 rfl (.k 6 rfl (.k 25 rfl (.k 26 rfl (.k 27 rfl (.k 28 rfl (.k 7 rfl (.k 29 rfl (.k 30 rfl .nil)))))))))))))) ?_) ?_
   ·rfl
   ·rfl
   ·rfl
   rintro ⟨⟨k, g⟩, hK3⟩ K16 hK16
   refine .cv (Cv.wk (.k 31 rfl (.k 8 rfl (.k 1 rfl (.k 2 rfl (.k 3 rfl (.k 4 rfl (.k 6 rfl (.k 25 rfl (.k 26 rfl (.k 27 rfl (.k 28 rfl (.k 7 rfl (.k 29 rfl (.k 30 rfl .nil))))))))))))))) ?_
   refine .memEq (M' := (grMK zc g ((vrow b C (vals xs) i k).map nz) :: grM (tN w0.heap.size) (gN gt0) ((fil b C (vals xs) i).map some) :: zM b2 b :: (some b1, cellM [isI (R : Int), isI (C : Int), SlK 2 zc xs]) :: [])) rfl ?_
   simp only [] at hK3
   have hvk : ((vrow b C (vals xs) i k).map nz).length = k := by rw [List.length_map, vrow_len]
   refine .seq fun _ k17 => .region (st (.ltI (.t rfl) (.t rfl)) rfl ?_)
   refine nl (.thn (k17 _ _ ?_))
   refine .seq fun _ k18 => ?_
   refine .cond (.t rfl) (fun hc3 => ?_) (fun hc3 => ?_)
   ·have hc3 := BP.t hc3
    refine .skip ?_
    refine .thn (k18 _ _ ?_)
    refine .seq fun _ k19 => ?_
    refine .block ?_
    refine .seq fun _ k20 => .region (st (.mv (.t rfl)) rfl ?_)
    refine st (.as (.t rfl)) rfl ?_
    refine nl (.thn (k20 _ _ ?_))
    refine .seq fun _ k21 => ?_
    refine .drh [true, true, true, true] (Ms := [_, _, _, _]) rfl ?_
    refine .s [] rfl rfl rfl (.o rfl (.load (.t rfl) (i := 3) rfl ty24 rfl (Ss' := [_, _, _]) rfl)) ?_
    refine .s [] rfl rfl rfl (.o rfl (.mv (.t rfl))) ?_
    refine .s [] rfl rfl rfl (.o rfl (.mv (.t rfl))) ?_
    refine .s [35, 36, 37] rfl rfl rfl (.o rfl (.call (zmat_At hx (by omega) hR hC hl (i := i) (k := k) (by omega) (by omega)) (.cons (.t rfl) (.cons (.t rfl) (.cons (.t rfl) .nil))))) ?_
    refine .s [] rfl rfl rfl (.o rfl (.load (.t rfl) (i := 2) rfl ty30 rfl (Ss' := [_, _]) rfl)) ?_
    refine .s [38, 39] rfl rfl rfl (.o rfl (.eq (.call (modn_Mod (by rw [val_words]; have := hx (i * C + k); omega) (by rw [val_words]; omega)) (.cons (.t rfl) (.cons (.t rfl) .nil))) ((show _ = isTup [isZ (cf (vals xs) (i * C + k) % b), isB true] from by simp only [zv_nf, zv_nz]; rw [if_pos hb0, decide_eq_true hb0])))) ?_
    refine .s [40] rfl rfl rfl (.o rfl (.mv (.t rfl))) ?_
    refine .s [34] rfl rfl rfl (.o rfl (.ext (.t rfl) rfl)) ?_
    refine .s [34] rfl rfl rfl (.o rfl (.ext (.t rfl) rfl)) ?_
    refine .als (n1 := 10) (ds := [10]) (zs := [[isB false, SlM isU []]]) rfl (.cons rfl rfl zero30 (fun _ _ => ⟨rfl, nilM _ _, trivial⟩) .nil) (.cons_cons _ (.cons_cons _ (.cons_cons _ (.cons_cons _ .slnil)))) (Cs := [_]) rfl ?_
    refine .new [41] 0 (Ss' := [_, _]) (Cs' := [cellM [_, _]]) rfl (by kernel_rfl) (by kernel_rfl) rfl rfl rfl (by kernel_rfl) rfl (.t rfl) ty30 rfl rfl rfl rfl ?_
    refine .fin (n := 11) mixed rfl (by kernel_rfl) (by kernel_rfl) (by kernel_rfl) (fun bs hbs => ?_)
    obtain ⟨b3, rfl⟩ := len1 hbs
    refine .memEq (M' := [_, _, _, _, _]) rfl ?_
    refine .cv (Cv.wk (.k 1 rfl (.k 2 rfl (.k 3 rfl (.k 4 rfl (.k 6 rfl (.k 25 rfl (.k 26 rfl (.k 27 rfl (.k 28 rfl (.k 7 rfl (.k 29 rfl (.k 30 rfl (.k 31 rfl (.k 8 rfl (.k 32 rfl (.k 33 rfl (.k 9 rfl (.k 35 rfl (.k 36 rfl (.k 37 rfl (.k 38 rfl (.k 39 rfl (.k 40 rfl (.k 34 rfl (.k 41 rfl (.k 42 rfl (.cons (t := 10) (Has.op rfl) .nil)))))))))))))))))))))))))))) ?_
    refine st (.as (.t rfl)) rfl ?_
    refine nl (.thn (k21 _ _ ?_))
    refine .region (st (.mv (.t rfl)) rfl ?_)
    refine st (.load (.t rfl) (i := 0) rfl ty30 rfl (Ss' := [_, _]) rfl) rfl (st (.buildS [isB false, SlM isU []] sl22 ty30 zero30 (fun _ _ => ⟨rfl, nilM _ _, trivial⟩) rfl rfl (.cons (.t rfl) rfl rfl rfl .nil) rfl (S := SlK 2 zc [nz (cf (vals xs) (i * C + k) % b)]) rfl) rfl ?_)
    refine .appendGK (fk := zc) (u := (false, [])) zc_len (by decide) (fun _ => inferInstance) sl22 ty30 zero30 (fun _ _ => ⟨rfl, nilM _ _, trivial⟩) by30 (.t rfl) (i := 1) rfl (.t rfl) (by rw [hvk]; show k + 1 ≤ _; omega) (by simp) rfl fun gr1 => ?_
    refine .memEq (M' := [_, grMK _ _ _, _, _, _]) rfl ?_
    refine st (.as (.t rfl)) rfl ?_
    refine nl ?_
    refine .bln ?_
    refine .thn (k19 _ _ ?_)
    refine .region (st (.addI (.t rfl) (Has.cI 1 rfl) (by first | omega | assumption) (by first | omega | assumption)) rfl ?_)
    refine st (.mv (.t rfl)) rfl ?_
    refine nl ?_
    refine .thn ?_
    refine hK16 (⟨(k + 1, gr1), by show k + 1 ≤ C; omega⟩) _ _ ?_ (Cv.trans (Cv.drop ((.cons _ (.cons_cons _ (.cons_cons _ (.cons_cons _ (.cons_cons _ .slnil))))))) (Cv.mem (.cons (t := 31) (Has.t' rfl ?_) (.cons (t := 8) (Has.t' rfl ?_) (.k 1 rfl (.k 2 rfl (.k 3 rfl (.k 4 rfl (.k 6 rfl (.k 25 rfl (.k 26 rfl (.k 27 rfl (.k 28 rfl (.k 7 rfl (.k 29 rfl (.k 30 rfl .nil)))))))))))))) ?_))
    ·show C - (k + 1) < C - k; omega
    ·exact isI_eq (by omega)
    ·exact isGr_eq (by rw [← vrow_succ, List.map_append, List.length_append]; rfl)
    ·exact grMK_eq (by rw [← vrow_succ, List.map_append]; rfl)
   ·have hc3 := BP.f hc3
    refine .exit ?_
    refine .the ?_
    refine .the ?_
    refine .blh ?_
    refine .thn (k14 _ _ ?_)
    refine .cv (Cv.freezeGK (t := 8) (i := 0) (ys := (vrow b C (vals xs) i k).map nz) zc_len rfl rfl rfl) ?_
    refine .memEq (M' := [_, _, _]) rfl ?_
    refine .cv (Cv.wk (.k 1 rfl (.k 2 rfl (.k 3 rfl (.k 4 rfl (.k 6 rfl (.k 25 rfl (.k 26 rfl (.k 27 rfl (.k 28 rfl (.k 7 rfl (.k 29 rfl (.k 30 rfl (.k 31 rfl (.k 8 rfl (.k 32 rfl .nil)))))))))))))))) ?_
    refine .region (st (.mv (.t rfl)) rfl ?_)
    refine st (.mv (.t rfl)) rfl ?_
    refine .callX (modhnf_put (n0 := w0.heap.size) (gt := gN gt0) (rows := fil b C (vals xs) i) (v0 := vrow b C (vals xs) i k) (K := ((K + 1) * 2 ^ R)) hb0 hC hKm hbK (fil_ok hb0 _ _ i) (by rw [show k = C by omega]; exact vrow_ok hb0 _ _ i)) (List.Perm.refl _) (.cons (.t rfl) (.cons (.t rfl) .nil)) rfl ?_
    rintro _ _ ⟨rfl, rfl⟩
    refine .memEq (M' := (grM (tN w0.heap.size) (gN gt0) ((fil b C (vals xs) (i + 1)).map some) :: zM b2 b :: (some b1, cellM [isI (R : Int), isI (C : Int), SlK 2 zc xs]) :: [])) (by rw [show k = C by omega]; rfl) ?_
    refine nl ?_
    refine .bln ?_
    refine .thn (k11 _ _ ?_)
    refine .region (st (.addI (.t rfl) (Has.cI 1 rfl) (by first | omega | assumption) (by first | omega | assumption)) rfl ?_)
    refine st (.mv (.t rfl)) rfl ?_
    refine nl ?_
    refine .thn ?_
    have hkC : C = k := by omega
    subst hkC
    refine hK8 (⟨i + 1, by omega⟩) _ _ ?_ (Cv.mem (.cons (t := 26) (Has.t' rfl ?_) (.k 1 rfl (.k 2 rfl (.k 3 rfl (.k 4 rfl (.k 6 rfl (.k 25 rfl .nil))))))) ?_)
    ·show R - (i + 1) < R - i; omega
    ·exact isI_eq (by omega)
    ·rfl
  ·have hc2 := BP.f hc2
   refine .exit ?_
   refine .the ?_
   refine .the ?_
   refine .blh ?_
   refine .thn (k6 _ _ ?_)
   refine .cv (Cv.wk (.k 2 rfl (.k 3 rfl (.k 6 rfl .nil)))) ?_
   refine .seq fun _ k22 => ?_
   refine .thaw (t := 6) rfl hF0 rfl (fil_ok hb0 C (vals xs) i).len.symm (fil_ok hb0 C (vals xs) i).differ fun gt3 rs3 hrs3 => ?_
   refine .region (st (.mv (.t rfl)) rfl ?_)
   refine .callX (modhnf_reduce (b := b) (n := C) (K := ((K + 1) * 2 ^ R)) hC hbK (by rw [hrs3]; exact fil_ok hb0 _ _ i) hK) (perm0 _) (.cons (.t rfl) .nil) rfl ?_
   rintro _ _ ⟨rs4, rfl, rfl, hrs4⟩
   have hl4 : rs4.length = C := by have := congrArg List.length hrs4; rwa [List.length_map, rdT_len, hrs3, (fil_ok hb0 C (vals xs) i).len] at this
   refine .memEq (M' := (grM rowV gt3 rs4 :: rs4.map rowM)) (List.append_nil _) ?_
   refine nl (.thn (k22 _ _ ?_))
   refine .seq fun _ k23 => ?_
   refine .cv (Cv.freezeTri (t := 6) (n := C) rfl hl4.symm rfl) ?_
   refine .region (st (.mv (.t rfl)) rfl ?_)
   refine st (.as (.t rfl)) rfl (st (.as (Has.cI 0 rfl)) rfl ?_)
   refine nl (.thn (k23 _ _ ?_))
   refine .ret ?_
   refine rtXND .slnil (.inl rfl) Try.results28 rfl rfl (.tmp (.t rfl) (.tmp (.t rfl) .nil)) ?_
   exact ⟨b, by rw [hrs4, hrs3, show i = R by omega]; rfl, rfl, hMB⟩
end Go.Proofs.Ythkdmhaafanjlaa
namespace Go.Hp
open Go.Dt Go.Hn Go.Pz Go.Nt Go.Mz Go.En
def fir (C : Nat) (f : Nat → Int) : Int := if fc C f < C then ((fc C f : Nat) : Int) else -1
theorem fir_at {C i : Nat} {f : Nat → Int} (hi : i < C) (h0 : ∀ j, j < i → f j = 0) (h : f i ≠ 0) : fir C f = (i : Int) := by
 have := fc_at hi h0 h
 unfold fir
 rw [this, if_pos hi]
theorem fir_all {C : Nat} {f : Nat → Int} (h : ∀ j, j < C → f j = 0) : fir C f = -1 := by
 unfold fir
 rw [fc_all h, if_neg (Nat.lt_irrefl _)]
theorem fir_congr {C : Nat} {f g : Nat → Int} (h : ∀ k, k < C → f k = g k) : fir C f = fir C g := by unfold fir; rw [fc_congr h]
theorem fir_lt {C : Nat} {f : Nat → Int} (h : 0 ≤ fir C f) : fc C f < C := by
 unfold fir at h
 split at h
 ·assumption
 ·omega
theorem fir_no {C : Nat} {f : Nat → Int} (h : fir C f < 0) : ¬ fc C f < C := fun h2 => by
 unfold fir at h
 rw [if_pos h2] at h; omega
theorem vals_drop (xs : List (Bool × List Nat)) (n : Nat) : vals (xs.drop n) = (vals xs).drop n := List.map_drop
theorem vals_take (xs : List (Bool × List Nat)) (n : Nat) : vals (xs.take n) = (vals xs).take n := List.map_take
theorem cf_part_row {xs : List (Bool × List Nat)} {a b k : Nat} (h : a + k < b) : cf (vals ((xs.take b).drop a)) k = cf (vals xs) (a + k) := by
 rw [vals_drop, vals_take]
 unfold cf
 rw [List.getD, List.getElem?_drop, List.getElem?_take_of_lt h]; rfl
def pivL (C : Nat) (A : MatF) : Nat → List Nat
 | 0 => []
 | n + 1 => if fc C (A n) < C then pivL C A n ++ [fc C (A n)] else pivL C A n
theorem pivL_yes {C n : Nat} {A : MatF} (h : fc C (A n) < C) : pivL C A (n + 1) = pivL C A n ++ [fc C (A n)] := if_pos h
theorem pivL_no {C n : Nat} {A : MatF} (h : ¬ fc C (A n) < C) : pivL C A (n + 1) = pivL C A n := if_neg h
theorem pivL_len (C : Nat) (A : MatF) : ∀ n, (pivL C A n).length ≤ n
  | 0 => Nat.le_refl _
  | n + 1 => by
    have := pivL_len C A n
    by_cases h : fc C (A n) < C
    · rw [pivL_yes h, List.length_append]; show _ + 1 ≤ _; omega
    · rw [pivL_no h]; omega
theorem pv_app (l : List Nat) (n : Nat) : pv (l ++ [n]) = pv l ++ [(n : Int)] := by unfold pv; rw [List.map_append]; rfl
theorem ext_cf {a b : List Int} (hl : a.length = b.length) (h : ∀ j, j < a.length → cf a j = cf b j) : a = b := by
 refine List.ext_getElem? fun j => ?_
 rcases Nat.lt_or_ge j a.length with h1 | h1
 ·rw [getElem_cf h1, getElem_cf (by omega), h j h1]
 ·rw [List.getElem?_eq_none h1, List.getElem?_eq_none (by omega)]
theorem is_dead131 {R C i : Nat} {A : MatF} {last : Int} {ended : Bool} (hi : i < R) (hfk : fc C (A i) < C) (hh : HermF R C A) (hE1 : ended = true → 0 < i ∧ fc C (A (i - 1)) = C) (hE2 : ended = false → last = if i = 0 then -1 else ((fc C (A (i - 1)) : Nat) : Int))
    (h : ended = true ∨ ((fc C (A i) : Nat) : Int) ≤ last ∨ sgn (A i (fc C (A i))) < 0) : False := by
  obtain ⟨h1, h2, _⟩ := hh i hi hfk
  have hs := sgn_lt (A i (fc C (A i)))
  cases he : ended with
  | true =>
    obtain ⟨h3, h4⟩ := hE1 he
    have := h1 h3; omega
  | false =>
    have h5 := hE2 he
    rcases h with h | h | h
    · rw [he] at h; cases h
    · by_cases h0 : i = 0
      · rw [if_pos h0] at h5; omega
      · rw [if_neg h0] at h5
        have := h1 (by omega); omega
    · omega
end Go.Hp
namespace Go.Hp
open Go.Dt Go.Hn Go.Pz Go.Nt Go.Mz Go.En
def rowL (C : Nat) (L : List Int) (i : Nat) : List Int := (List.range C).map fun k => cf L (i * C + k)
theorem rowL_len (C : Nat) (L : List Int) (i : Nat) : (rowL C L i).length = C := by unfold rowL; rw [List.length_map, List.length_range]
theorem cf_rowL {C i k : Nat} {L : List Int} (h : k < C) : cf (rowL C L i) k = mf C L i k := by unfold rowL; rw [cf_tab, if_pos h]; rfl
theorem rowL_of {C i : Nat} {xs : List (Bool × List Nat)} (h : (i + 1) * C ≤ xs.length) : vals ((xs.take ((i + 1) * C)).drop (i * C)) = rowL C (vals xs) i := by
 have h2 : (i + 1) * C = i * C + C := Nat.succ_mul _ _
 have hl : (vals ((xs.take ((i + 1) * C)).drop (i * C))).length = C := by rw [vals_len, List.length_drop, List.length_take]; omega
 refine ext_cf (by rw [hl, rowL_len]) fun j hj => ?_
 rw [hl] at hj
 rw [cf_part_row (by omega), cf_rowL hj]; rfl
theorem HermF.sub {R C n : Nat} {A : MatF} (h : HermF R C A) (hn : n ≤ R) : HermF n C A := fun i hi hc => h i (by omega) hc
theorem herm_piv {C : Nat} {A : MatF} : ∀ {R : Nat}, HermF R C A → ∃ P, P ≤ R ∧ (∀ i, i < P → fc C (A i) < C) ∧ (∀ i, P ≤ i → i < R → ¬ fc C (A i) < C) ∧ pivL C A R = (List.range P).map fun i => fc C (A i)
  | 0, _ => ⟨0, Nat.le_refl _, fun i h => absurd h (Nat.not_lt_zero _), fun i _ h => absurd h (Nat.not_lt_zero _), rfl⟩
  | n + 1, h => by
    obtain ⟨P, h1, h2, h3, h4⟩ := herm_piv (h.sub (Nat.le_succ n))
    by_cases hf : fc C (A n) < C
    · have hP : P = n := by
        rcases Nat.lt_or_ge P n with h5 | h5
        · have h6 := (h n (by omega) hf).1 (by omega)
          exact absurd (by omega) (h3 (n - 1) (by omega) (by omega))
        · omega
      subst hP
      refine ⟨P + 1, Nat.le_refl _, fun i hi => ?_, fun i g1 g2 => by omega, ?_⟩
      · rcases Nat.lt_or_ge i P with h5 | h5
        · exact h2 i h5
        · rw [show i = P by omega]; exact hf
      · rw [pivL_yes hf, h4, List.range_succ, List.map_append]; rfl
    · refine ⟨P, by omega, h2, fun i g1 g2 => ?_, by rw [pivL_no hf]; exact h4⟩
      rcases Nat.lt_or_ge i n with h5 | h5
      · exact h3 i g1 h5
      · rw [show i = n by omega]; exact hf
/-! ### rows within others -/
def latL (R C : Nat) (L : List Int) : List Int := tab ((pivL C (mf C (hL R C L)) R).length * C) C fun i k => cf (hL R C L) ((0 + i) * C + k)
theorem latL_at {R C i k : Nat} {L : List Int} (hi : i < (pivL C (mf C (hL R C L)) R).length) (hk : k < C) : mf C (latL R C L) i k = mf C (hL R C L) i k := by
 show cf _ (i * C + k) = _
 unfold latL
 rw [cf_tab' _ hk (place_lt hi hk), Nat.zero_add]; rfl
theorem latL_eqv {R C K : Nat} {L : List Int} (hb : Bd L K) : Eqv R (pivL C (mf C (hL R C L)) R).length C (mf C L) (mf C (latL R C L)) := by
 obtain ⟨P, h1, h2, h3, h4⟩ := herm_piv (hL_form (R := R) (C := C) hb)
 have hP : (pivL C (mf C (hL R C L)) R).length = P := by rw [h4, List.length_map, List.length_range]
 have hat : ∀ i k, i < P → k < C → mf C (latL R C L) i k = mf C (hL R C L) i k := fun i k hi hk => latL_at (by omega) hk
 refine (hL_eqv hb).trans ⟨fun i hi => ?_, fun i hi => ?_⟩
 ·rcases Nat.lt_or_ge i P with h5 | h5
  ·exact (SpZ.row (mf C (latL R C L)) (by omega)).congr fun k hk => (hat i k h5 hk).symm
  ·refine (SpZ.zero _).congr fun k hk => fc_zero (f := mf C (hL R C L) i) (C := C) ?_
   have := h3 i h5 hi
   omega
 ·exact (SpZ.row (mf C (hL R C L)) (by omega)).congr fun k hk => hat i k (by omega) hk
theorem lat_same {R R' C K K' : Nat} {L L' : List Int} (hb : Bd L K) (hb' : Bd L' K') :
  ((pivL C (mf C (hL R C L)) R).length = (pivL C (mf C (hL R' C L')) R').length ∧ latL R C L = latL R' C L') ↔ Eqv R R' C (mf C L) (mf C L') := by
 constructor
 ·rintro ⟨h1, h2⟩
  have e1 := latL_eqv (R := R) (C := C) hb
  have e2 := latL_eqv (R := R') (C := C) hb'
  rw [h1, h2] at e1
  exact e1.trans e2.symm
 ·intro h
  have he : Eqv R R' C (mf C (hL R C L)) (mf C (hL R' C L')) := (hL_eqv hb).symm.trans (h.trans (hL_eqv hb'))
  have f1 := hL_form (R := R) (C := C) hb
  have f2 := hL_form (R := R') (C := C) hb'
  obtain ⟨P, h1, h2, h3, h4⟩ := herm_piv f1
  obtain ⟨P', h1', h2', h3', h4'⟩ := herm_piv f2
  have hP : (pivL C (mf C (hL R C L)) R).length = P := by rw [h4, List.length_map, List.length_range]
  have hP' : (pivL C (mf C (hL R' C L')) R').length = P' := by rw [h4', List.length_map, List.length_range]
  have hPP : P = P' := by
   rcases Nat.lt_trichotomy P P' with g | g | g
   ·have := (form_fc f1 f2 he P).2 (by omega) (h2' P g)
    exact absurd (by rw [this.2]; exact h2' P g) (h3 P (Nat.le_refl _) this.1)
   ·exact g
   ·have := (form_fc f1 f2 he P').1 (by omega) (h2 P' g)
    exact absurd (by rw [this.2]; exact h2 P' g) (h3' P' (Nat.le_refl _) this.1)
  refine ⟨by omega, ext_cf (by unfold latL; rw [tab_len, tab_len, hP, hP', hPP]) fun j hj => ?_⟩
  have hj2 : j < P * C := by unfold latL at hj; rwa [tab_len, hP] at hj
  obtain ⟨i, k, hi, hk, rfl⟩ := place_of hj2
  have e1 : mf C (latL R C L) i k = _ := latL_at (by omega) hk
  have e2 : mf C (latL R' C L') i k = _ := latL_at (by omega) hk
  have e3 := form_row f1 f2 he (show i < R by omega) (h2 i hi) k hk
  show mf C (latL R C L) i k = mf C (latL R' C L') i k
  rw [e1, e2, e3]
def stkL (R R' C : Nat) (L L' : List Int) : List Int := tab ((R + R') * C) C fun i k => if i < R then cf L (i * C + k) else cf L' ((i - R) * C + k)
end Go.Hp
namespace Go.Hp
open Go.Dt Go.Hn Go.Pz Go.Nt Go.Mz Go.En
end Go.Hp
namespace Go.Tr
open Go.Nt Go.Pz Go.Mz Go.En Go.Hn Go.Hp Go.Dt
theorem TriR.e {b : Int} {n : Nat} {rows : List (List Int)} (h : TriR b n rows) {i : Nat} (hi : i < n) : (∀ j, j < i → E rows i j = 0) ∧ 0 < E rows i i ∧ E rows i i ≤ b ∧ (∀ j, i < j → 0 ≤ E rows i j ∧ E rows i j < b) ∧ ∀ j, n ≤ j → E rows i j = 0 := by
 obtain ⟨p, hp⟩ : ∃ p, rows[i]? = some p := ⟨_, List.getElem?_eq_getElem (by rw [h.len]; exact hi)⟩
 rw [E_of hp]
 exact ⟨h.low i p hp, (h.dia i p hp).1, (h.dia i p hp).2, h.hi i p hp, fun j hj => cf_high (by rw [h.row i p hp]; exact hj)⟩
theorem E_out {rows : List (List Int)} {i : Nat} (h : rows.length ≤ i) (j : Nat) : E rows i j = 0 := by
 unfold E; rw [List.getD, List.getElem?_eq_none h]; rfl
theorem rdT_low {b : Int} {n : Nat} {rows : List (List Int)} (h : TriR b n rows) : ∀ k, k ≤ n → ∀ i j, i < n → j ≤ i → E (rdT rows k) i j = E rows i j
  | 0, _, i, j, _, _ => rfl
  | k + 1, hk, i, j, hi, hj => by
    have ih := rdT_low h k (by omega)
    show E (rds (rdT rows k) k k k) i j = _
    rw [rds_at (rdT_row h k (by omega)) (by rw [rdT_len, h.len]; exact hk) k (Nat.le_refl _)]
    split
    · next hik =>
      rw [ih i j hi hj, ih k j (by omega) (by omega), (h.e (show k < n by omega)).1 j (by omega)]
      omega
    · exact ih i j hi hj
theorem rdT_red {b : Int} {n : Nat} {rows : List (List Int)} (h : TriR b n rows) : ∀ k, k ≤ n → ∀ i j, i < j → j < k → 0 ≤ E (rdT rows k) i j ∧ E (rdT rows k) i j < E rows j j
  | 0, _, i, j, _, hj => absurd hj (Nat.not_lt_zero _)
  | k + 1, hk, i, j, hij, hj => by
    have ih := rdT_red h k (by omega)
    have lo := rdT_low h k (by omega)
    show 0 ≤ E (rds (rdT rows k) k k k) i j ∧ E (rds (rdT rows k) k k k) i j < _
    rw [rds_at (rdT_row h k (by omega)) (by rw [rdT_len, h.len]; exact hk) k (Nat.le_refl _), if_pos (show i < k by omega)]
    rcases Nat.lt_or_ge j k with h1 | h1
    · rw [lo k j (by omega) (by omega), (h.e (show k < n by omega)).1 j h1, Int.mul_zero, Int.sub_zero]
      exact ih i j hij h1
    · obtain rfl : j = k := by omega
      have hd := (h.e (show j < n by omega)).2.1
      rw [lo j j (by omega) (Nat.le_refl _)]
      have e := Int.emod_def (E (rdT rows j) i j) (E rows j j)
      rw [Int.mul_comm] at e
      rw [← e]
      exact ⟨Int.emod_nonneg _ (by omega), Int.emod_lt_of_pos _ hd⟩
def trF (b : Int) (R C : Nat) (L : List Int) : MatF := E (filT b R C L)
theorem filT_len (b : Int) (R C : Nat) (L : List Int) (hb : 0 < b) : (filT b R C L).length = C := by unfold filT; rw [rdT_len, (fil_ok hb C L R).len]
theorem filT_row {b : Int} {R C : Nat} {L : List Int} (hb : 0 < b) : ∀ r ∈ filT b R C L, r.length = C := rdT_row (fil_ok hb C L R) C (Nat.le_refl _)
theorem trF_low {b : Int} {R C : Nat} {L : List Int} (hb : 0 < b) {i j : Nat} (hj : j < i) : trF b R C L i j = 0 := by
 rcases Nat.lt_or_ge i C with h | h
 ·have ht := fil_ok hb C L R
  show E (rdT _ C) i j = 0
  rw [rdT_low ht C (Nat.le_refl _) i j h (by omega)]
  exact (ht.e h).1 j hj
 ·exact E_out (by rw [filT_len _ _ _ _ hb]; exact h) j
theorem trF_dia {b : Int} {R C : Nat} {L : List Int} (hb : 0 < b) {i : Nat} (hi : i < C) : 0 < trF b R C L i i ∧ trF b R C L i i ≤ b := by
 have ht := fil_ok hb C L R
 show 0 < E (rdT _ C) i i ∧ E (rdT _ C) i i ≤ b
 rw [rdT_low ht C (Nat.le_refl _) i i hi (Nat.le_refl _)]
 exact ⟨(ht.e hi).2.1, (ht.e hi).2.2.1⟩
theorem trF_up {b : Int} {R C : Nat} {L : List Int} (hb : 0 < b) {i j : Nat} (hij : i < j) (hj : j < C) : 0 ≤ trF b R C L i j ∧ trF b R C L i j < trF b R C L j j := by
 have ht := fil_ok hb C L R
 have h1 := rdT_red ht C (Nat.le_refl _) i j hij hj
 have h2 := rdT_low ht C (Nat.le_refl _) j j hj (Nat.le_refl _)
 exact ⟨h1.1, by show _ < E (rdT _ C) j j; rw [h2]; exact h1.2⟩
theorem trF_out {b : Int} {R C : Nat} {L : List Int} (hb : 0 < b) {i j : Nat} (hi : C ≤ i) : trF b R C L i j = 0 := E_out (by rw [filT_len _ _ _ _ hb]; exact hi) j
theorem trF_all {b : Int} {R C : Nat} {L : List Int} (hb : 0 < b) (i j : Nat) : 0 ≤ trF b R C L i j ∧ trF b R C L i j ≤ b := by
 rcases Nat.lt_or_ge i C with hi | hi
 ·rcases Nat.lt_or_ge j C with hj | hj
  ·rcases Nat.lt_trichotomy i j with h | h | h
   ·have h1 := trF_up (R := R) (L := L) hb h hj
    have h2 := trF_dia (R := R) (L := L) hb hj
    omega
   ·subst h
    have h2 := trF_dia (R := R) (L := L) hb hj
    omega
   ·rw [trF_low hb h]; omega
  ·have : trF b R C L i j = 0 := by
    obtain ⟨p, hp⟩ : ∃ p, (filT b R C L)[i]? = some p := ⟨_, List.getElem?_eq_getElem (by rw [filT_len _ _ _ _ hb]; exact hi)⟩
    unfold trF
    rw [E_of hp]
    exact cf_high (by rw [filT_row hb p (List.mem_of_getElem? hp)]; exact hj)
   omega
 ·rw [trF_out hb hi]; omega
theorem trF_fc {b : Int} {R C : Nat} {L : List Int} (hb : 0 < b) {i : Nat} (hi : i < C) : fc C (trF b R C L i) = i := fc_at hi (fun k hk => trF_low hb hk) (by have := (trF_dia (R := R) (L := L) hb hi).1; omega)
theorem trF_form {b : Int} {R C : Nat} {L : List Int} (hb : 0 < b) : HermF R C (trF b R C L) := fun i hi hc => by
 have hiC : i < C := by
  rcases Nat.lt_or_ge i C with h | h
  ·exact h
  ·rw [fc_all fun k _ => trF_out hb h] at hc; omega
 rw [trF_fc hb hiC]
 refine ⟨fun h0 => by rw [trF_fc hb (by omega)]; omega, (trF_dia hb hiC).1, fun r hr => trF_up hb hr hiC⟩
def hmL (b : Int) (R C : Nat) (L : List Int) : List Int := tab (R * C) C (trF b R C L)
theorem hmL_len (b : Int) (R C : Nat) (L : List Int) : (hmL b R C L).length = R * C := tab_len _ _ _
def ixv (b : Int) (R C : Nat) (L : List Int) : Nat → Int
 | 0 => 1
 | k + 1 => ixv b R C L k * trF b R C L k k
theorem ixv_nw {b : Int} {R C K : Nat} {L : List Int} (hb : 0 < b) (hK : (List.length (words b.natAbs)) ≤ K) : ∀ k, (List.length (words (ixv b R C L k).natAbs)) ≤ 1 + k * K
  | 0 => Nat.le_trans (show (words (1 : Int).natAbs).length ≤ 1 from nw_small' (by decide)) (by omega)
  | k + 1 => by
    have ih := ixv_nw (R := R) (C := C) (L := L) hb hK k
    have h1 := nz_mul (ixv b R C L k) (trF b R C L k k)
    have h2 := nw_le_b (trF_all (R := R) (C := C) (L := L) hb k k).1 (trF_all (R := R) (C := C) (L := L) hb k k).2 hK
    show (words (ixv b R C L k * trF b R C L k k).natAbs).length ≤ _
    rw [Nat.succ_mul]
    omega
end Go.Tr
namespace Go.Proofs.Ythkdmhaafanjlaa
open Go.En Go.RowKit
set_option maxRecDepth 10000
set_option maxHeartbeats 4000000
open Go.Nt
open Go.Pz
open Go.Mz
open Go.Hn
open Go.Tr
open Go.Dt
theorem modhnf_Hermite {R C K : Nat} {xs : List (Bool × List Nat)} (hx : Bd (vals xs) K) (hK1 : 1 ≤ K) (hR : R ≤ 64) (hC : C ≤ 64) (hl : xs.length = R * C) (hK : (((K + 1) * 2 ^ R) + 2) * 2 ^ C ≤ 80000000) (hKm : ((K + 1) * 2 ^ R) ≤ 30000000) (hp : (Go.Dt.pivs (mf C (vals xs)) R C).length = C) : CtrX Try.prog 25 [isM (R : Int) (C : Int) xs] ([]) (fun S M => ∃ b, S = isTup [isMz R C (hmL b R C (vals xs)), isI 0] ∧ M = [] ∧ MulB R C K (vals xs) b) := by
 refine CtrX.intro Try.func25 rfl (by kernel_rfl) Try.ntmps25 rfl fun w0 F0 => ?_
 refine .cv (Cv.wk (.k 0 rfl .nil)) ?_
 have hRC := side_le hR hC
 refine .seq fun _ k1 => .region (.box (.t rfl) rfl fun b1 => ?_)
 refine .alloc [isI 0, isI 0, nilS] zero24 (fun _ _ => ⟨⟨rfl, by decide, by decide⟩, ⟨rfl, by decide, by decide⟩, rfl, trivial⟩) rfl fun b2 => ?_
 refine st (.as (Has.cI 0 rfl)) rfl ?_
 refine nl (.thn (k1 _ _ ?_))
 refine .seq fun _ k2 => .region (st (.load (.t rfl) (i := 1) rfl ty24 rfl (Ss' := [_, _, _]) rfl) rfl ?_)
 refine .callX (modhnf_filled hx hK1 hR hC hl hK hKm hp) (List.Perm.refl _) (.cons (.t rfl) .nil) rfl ?_
 rintro _ _ ⟨b, rfl, rfl, hMB⟩
 have hb0 := hMB.1
 have hbK := hMB.2.1
 have hTl := filT_len b R C (vals xs) hb0
 refine st (.mv (.t rfl)) rfl (st (.ext (.t rfl) rfl) rfl ?_)
 refine st (.ext (.t rfl) rfl) rfl ?_
 refine st (.as (.t rfl)) rfl (st (.as (.t rfl)) rfl ?_)
 refine nl (.thn (k2 _ _ ?_))
 refine .cv (Cv.wk (.k 1 rfl (.k 2 rfl (.k 3 rfl (.k 4 rfl (.k 5 rfl .nil)))))) ?_
 refine .seq fun _ k3 => ?_
 refine .seq fun _ k4 => .region (st (.mv (.t rfl)) rfl ?_)
 refine st (.neI (.t rfl) (Has.cI 0 rfl)) rfl ?_
 refine nl (.thn (k4 _ _ ?_))
 refine .cond (.t rfl) (fun hc1 => ?_) (fun hc1 => ?_)
 ·have hc1 := BP.t hc1
  exfalso; simp at hc1
 ·have hc1 := BP.f hc1
  skip
  refine .skip ?_
  refine .thn (k3 _ _ ?_)
  refine .seq fun _ k5 => .region (st (.fieldAddr (.t rfl) fld24_0 ty3) rfl ?_)
  refine st (.load1 (.t rfl) (i := 1) rfl ty3 rfl) rfl (st (.fieldAddr (.t rfl) fld24_1 ty3) rfl ?_)
  refine st (.load1 (.t rfl) (i := 1) rfl ty3 rfl) rfl (st (.build [isI 0, isI 0, nilS] pl24 zero24 (fun _ _ => ⟨⟨rfl, by decide, by decide⟩, ⟨rfl, by decide, by decide⟩, rfl, trivial⟩) (.cons (.t rfl) rfl rfl rfl (.cons (.t rfl) rfl rfl rfl .nil)) (Z'' := [_, _, _]) rfl) rfl ?_)
  refine .alloc [isI 0, isI 0, nilS] zero24 (fun _ _ => ⟨⟨rfl, by decide, by decide⟩, ⟨rfl, by decide, by decide⟩, rfl, trivial⟩) rfl fun b3 => ?_
  refine .store (.t rfl) (.t rfl) (i := 0) rfl ty24 rfl rfl (Ss' := [_, _, _]) rfl (M' := [(some _, cellM [_, _, _]), _, _]) rfl ?_
  refine nl (.thn (k5 _ _ ?_))
  refine .cv (Cv.wk (.k 1 rfl (.k 2 rfl (.k 3 rfl (.k 4 rfl (.k 6 rfl .nil)))))) ?_
  refine .seq fun _ k6 => ?_
  refine .seq fun _ k7 => ?_
  refine .cv (Cv.growF (Bool × List Nat) (i := 0) (o := 2) rfl rfl rfl) ?_
  refine .memEq (M' := [grMK zc Gr.nil [], _, _, _]) rfl ?_
  refine .region (st (.fieldAddr (.t rfl) fld24_0 ty3) rfl ?_)
  refine st (.load1 (.t rfl) (i := 3) rfl ty3 rfl) rfl (st (.mv (Has.cI 0 rfl)) rfl ?_)
  refine nl (.thn (k7 _ _ ?_))
  refine .block ?_
  refine .loopF [1, 2, 3, 4, 6, 25] (fun (z : { z : Nat × Gr (Bool × List Nat) // z.1 ≤ R }) => match z with | ⟨(i, g), hI⟩ => [(26, isI (i : Int))]) (fun M => fun (z : { z : Nat × Gr (Bool × List Nat) // z.1 ≤ R }) => match z with | ⟨(i, g), hI⟩ => [grMK zc g ((tab (i * C + 0) C (trF b R C (vals xs))).map nz), (some b3, cellM [isI (R : Int), isI (C : Int), isGr g ((tab (i * C + 0) C (trF b R C (vals xs))).map nz).length]), (some b2, cellM [isI 0, isI 0, nilS]), (some b1, cellM [isI (R : Int), isI (C : Int), SlK 2 zc xs])]) (fun (z : { z : Nat × Gr (Bool × List Nat) // z.1 ≤ R }) => match z with | ⟨(i, g), hI⟩ => R - i) (⟨(0, Gr.nil), Nat.zero_le _⟩) (Cv.mem (.cons (t := 26) (Has.t' rfl ?_) (.k 1 rfl (.k 2 rfl (.k 3 rfl (.k 4 rfl (.k 6 rfl (.k 25 rfl .nil))))))) ?_) ?_
  ·rfl
  ·exact grF_eq (n := 0) (ys := []) (by rw [List.length_map, tab_len, Nat.zero_mul]) (show [] = (tab (0 * C + 0) _ _).map nz by rw [Nat.zero_mul]; rfl)
  rintro ⟨⟨i, g⟩, hI⟩ K8 hK8
  refine .cv (Cv.wk (.k 26 rfl (.k 1 rfl (.k 2 rfl (.k 3 rfl (.k 4 rfl (.k 6 rfl (.k 25 rfl .nil)))))))) ?_
  refine .memEq (M' := [grMK zc g ((tab (i * C + 0) C (trF b R C (vals xs))).map nz), (some b3, cellM [isI (R : Int), isI (C : Int), isGr g ((tab (i * C + 0) C (trF b R C (vals xs))).map nz).length]), (some b2, cellM [isI 0, isI 0, nilS]), (some b1, cellM [isI (R : Int), isI (C : Int), SlK 2 zc xs])]) rfl ?_
  simp only [] at hI
  refine .seq fun _ k9 => .region (st (.ltI (.t rfl) (.t rfl)) rfl ?_)
  refine nl (.thn (k9 _ _ ?_))
  refine .seq fun _ k10 => ?_
  refine .cond (.t rfl) (fun hc2 => ?_) (fun hc2 => ?_)
  ·have hc2 := BP.t hc2
   refine .skip ?_
   refine .thn (k10 _ _ ?_)
   refine .seq fun _ k11 => ?_
   refine .block ?_
   refine .seq fun _ k12 => .region (st (.mv (.t rfl)) rfl ?_)
   refine st (.as (.t rfl)) rfl ?_
   refine nl (.thn (k12 _ _ ?_))
   refine .seq fun _ k13 => .region (st (.fieldAddr (.t rfl) fld24_1 ty3) rfl ?_)
   refine st (.load1 (.t rfl) (i := 3) rfl ty3 rfl) rfl (st (.mv (Has.cI 0 rfl)) rfl ?_)
   refine nl (.thn (k13 _ _ ?_))
   refine .block ?_
   refine .loopF [1, 2, 3, 4, 6, 25, 26, 27, 28, 7, 29, 30] (fun (z : { z : Nat × Gr (Bool × List Nat) // z.1 ≤ C }) => match z with | ⟨(k, g2), hK3⟩ => [(31, isI (k : Int))]) (fun M => fun (z : { z : Nat × Gr (Bool × List Nat) // z.1 ≤ C }) => match z with | ⟨(k, g2), hK3⟩ => [grMK zc g2 ((tab (i * C + k) C (trF b R C (vals xs))).map nz), (some b3, cellM [isI (R : Int), isI (C : Int), isGr g2 ((tab (i * C + k) C (trF b R C (vals xs))).map nz).length]), (some b2, cellM [isI 0, isI 0, nilS]), (some b1, cellM [isI (R : Int), isI (C : Int), SlK 2 zc xs])]) (fun (z : { z : Nat × Gr (Bool × List Nat) // z.1 ≤ C }) => match z with | ⟨(k, g2), hK3⟩ => C - k) (⟨(0, g), Nat.zero_le _⟩) (Cv.mem (.cons (t := 31) (Has.t' rfl ?_) (.k 1 rfl (.k 2 rfl (.k 3 rfl (.k 4 rfl (.k 6 rfl (.k 25 rfl (.k 26 rfl (.k 27 rfl (.k 28 rfl (.k 7 rfl (.k 29 rfl (.k 30 rfl .nil))))))))))))) ?_) ?_
   ·rfl
   ·rfl
   rintro ⟨⟨k, g2⟩, hK3⟩ K14 hK14
   refine .cv (Cv.wk (.k 31 rfl (.k 1 rfl (.k 2 rfl (.k 3 rfl (.k 4 rfl (.k 6 rfl (.k 25 rfl (.k 26 rfl (.k 27 rfl (.k 28 rfl (.k 7 rfl (.k 29 rfl (.k 30 rfl .nil)))))))))))))) ?_
   refine .memEq (M' := [grMK zc g2 ((tab (i * C + k) C (trF b R C (vals xs))).map nz), (some b3, cellM [isI (R : Int), isI (C : Int), isGr g2 ((tab (i * C + k) C (trF b R C (vals xs))).map nz).length]), (some b2, cellM [isI 0, isI 0, nilS]), (some b1, cellM [isI (R : Int), isI (C : Int), SlK 2 zc xs])]) rfl ?_
   simp only [] at hK3
   refine .seq fun _ k15 => .region (st (.ltI (.t rfl) (.t rfl)) rfl ?_)
   refine nl (.thn (k15 _ _ ?_))
   refine .seq fun _ k16 => ?_
   refine .cond (.t rfl) (fun hc3 => ?_) (fun hc3 => ?_)
   ·have hc3 := BP.t hc3
    refine .skip ?_
    refine .thn (k16 _ _ ?_)
    refine .seq fun _ k17 => ?_
    refine .block ?_
    refine .seq fun _ k18 => .region (st (.mv (.t rfl)) rfl ?_)
    refine st (.as (.t rfl)) rfl ?_
    refine nl (.thn (k18 _ _ ?_))
    refine .seq fun _ k19 => .region (st (.build [isB false, SlM isU []] pl30 zero30 (fun _ _ => ⟨rfl, nilM _ _, trivial⟩) .nil (Z'' := [_, _]) rfl) rfl ?_)
    refine .alloc [isB false, SlM isU []] zero30 (fun _ _ => ⟨rfl, nilM _ _, trivial⟩) rfl fun b4 => ?_
    refine .store (.t rfl) (.t rfl) (i := 0) rfl ty30 rfl rfl (Ss' := [_, _]) rfl (M' := [(some _, cellM [_, _]), _, _, _, _]) rfl ?_
    refine nl (.thn (k19 _ _ ?_))
    refine .seq fun _ k20 => ?_
    refine .seq fun _ k21 => .region (st (.mv (.t rfl)) rfl ?_)
    refine st (.mv (.t rfl)) rfl (st (.nilcP (.t rfl)) rfl ?_)
    refine st (.fieldAddrP (.t rfl) fld61_0 ty59 (Ss' := [_, _, _]) rfl) rfl ?_
    refine st (.loadP1 (.t rfl) ty59) rfl ?_
    refine st (.len sl59 (.t rfl)) rfl (st (.ltI (.t rfl) (.t rfl)) rfl ?_)
    refine nl (.thn (k21 _ _ ?_))
    refine .cond (.t rfl) (fun hc4 => ?_) (fun hc4 => ?_)
    ·have hc4 := BP.t hc4
     obtain ⟨p, hp1⟩ : ∃ p, (filT b R C (vals xs))[i]? = some p := ⟨_, List.getElem?_eq_getElem (by omega)⟩
     have hpl := filT_row hb0 p (List.mem_of_getElem? hp1)
     have hpm : (p.map nz).length = C := by rw [List.length_map, hpl]
     have hGt : cf p k = (trF b R C (vals xs)) i k := by unfold trF; rw [Go.Hp.E_of hp1]
     refine .region (st (.mv (.t rfl)) rfl ?_)
     refine st (.nilcP (.t rfl)) rfl ?_
     refine st (.fieldAddrP (.t rfl) fld61_0 ty59 (Ss' := [_, _, _]) rfl) rfl ?_
     refine st (.loadP1 (.t rfl) ty59) rfl ?_
     refine st (.mv (.t rfl)) rfl (st (.ixP sl59 ty22 (.t rfl) (.t rfl) ⟨by omega, by omega⟩ hp1) rfl ?_)
     refine st (.loadP1 (.t rfl) ty22) rfl ?_
     refine st (.mv (.t rfl)) rfl (st (.ixK sl22 ty30 (.t rfl) (.t rfl) zc_len ⟨by omega, by omega⟩ (getZ (i := k) (by omega))) rfl ?_)
     refine st (.loadP (.t rfl) ty30 rfl (Ss' := [_, _]) rfl) rfl ?_
     refine .store (.t rfl) (.t rfl) (i := 0) rfl ty30 rfl rfl (Ss' := [_, _]) rfl (M' := [(some _, cellM [_, _]), _, _, _, _]) rfl ?_
     refine nl (.thn (k20 _ _ ?_))
     refine .region (st (.fieldAddr (.t rfl) fld24_2 ty22) rfl ?_)
     refine st (.load1 (.t rfl) (i := 2) rfl ty22 rfl) rfl (st (.eq (.load (.t rfl) (i := 0) rfl ty30 rfl (Ss' := [_, _]) rfl) ((show _ = Flat (zc (nz ((trF b R C (vals xs)) i k))) from by first | (rw [← hGt]; done) | (rw [← hGf]; exact isZ0)))) rfl ?_)
     refine st (.buildS [isB false, SlM isU []] sl22 ty30 zero30 (fun _ _ => ⟨rfl, nilM _ _, trivial⟩) rfl rfl (.cons (.t rfl) rfl rfl rfl .nil) rfl (S := SlK 2 zc [nz ((trF b R C (vals xs)) i k)]) rfl) rfl ?_
     refine .appendGK (fk := zc) (u := (false, [])) zc_len (by decide) (fun _ => inferInstance) sl22 ty30 zero30 (fun _ _ => ⟨rfl, nilM _ _, trivial⟩) by30 (.t rfl) (i := 1) rfl (.t rfl) (by have hpl3 := place_lt (show i < R by omega) (show k < C by omega); rw [List.length_map, tab_len, List.length_singleton]; omega) (by simp) rfl fun gr1 => ?_
     refine .memEq (M' := [_, grMK _ _ _, _, _, _]) rfl ?_
     refine st (.fieldAddr (.t rfl) fld24_2 ty22) rfl ?_
     refine .store (.t rfl) (.t rfl) (i := 2) rfl ty22 rfl rfl (Ss' := [_, _, _]) rfl (M' := [_, _, (some _, cellM [_, _, _]), _, _]) rfl ?_
     refine nl ?_
     refine .bln ?_
     refine .thn (k17 _ _ ?_)
     refine .region (st (.addI (.t rfl) (Has.cI 1 rfl) (by first | omega | assumption) (by first | omega | assumption)) rfl ?_)
     refine st (.mv (.t rfl)) rfl ?_
     refine nl ?_
     refine .thn ?_
     refine hK14 (⟨(k + 1, gr1), by show k + 1 ≤ C; omega⟩) _ _ ?_ (Cv.trans (Cv.drop ((.cons _ (.cons_cons _ (.cons_cons _ (.cons_cons _ (.cons_cons _ .slnil))))))) (Cv.mem (.cons (t := 31) (Has.t' rfl ?_) (.k 1 rfl (.k 2 rfl (.k 3 rfl (.k 4 rfl (.k 6 rfl (.k 25 rfl (.k 26 rfl (.k 27 rfl (.k 28 rfl (.k 7 rfl (.k 29 rfl (.k 30 rfl .nil))))))))))))) ?_))
     ·show C - (k + 1) < C - k; omega
     ·exact isI_eq (by omega)
     ·exact grF_eq (by rw [← tab_succ _ (show k < C by omega), List.map_append, List.length_append]; rfl) (by rw [← tab_succ _ (show k < C by omega), List.map_append]; rfl)
    ·have hc4 := BP.f hc4
     have hGf : (0 : Int) = (trF b R C (vals xs)) i k := (trF_out hb0 (by omega)).symm
     refine .skip ?_
     refine .thn (k20 _ _ ?_)
     refine .region (st (.fieldAddr (.t rfl) fld24_2 ty22) rfl ?_)
     refine st (.load1 (.t rfl) (i := 2) rfl ty22 rfl) rfl (st (.eq (.load (.t rfl) (i := 0) rfl ty30 rfl (Ss' := [_, _]) rfl) ((show _ = Flat (zc (nz ((trF b R C (vals xs)) i k))) from by first | (rw [← hGt]; done) | (rw [← hGf]; exact isZ0)))) rfl ?_)
     refine st (.buildS [isB false, SlM isU []] sl22 ty30 zero30 (fun _ _ => ⟨rfl, nilM _ _, trivial⟩) rfl rfl (.cons (.t rfl) rfl rfl rfl .nil) rfl (S := SlK 2 zc [nz ((trF b R C (vals xs)) i k)]) rfl) rfl ?_
     refine .appendGK (fk := zc) (u := (false, [])) zc_len (by decide) (fun _ => inferInstance) sl22 ty30 zero30 (fun _ _ => ⟨rfl, nilM _ _, trivial⟩) by30 (.t rfl) (i := 1) rfl (.t rfl) (by have hpl3 := place_lt (show i < R by omega) (show k < C by omega); rw [List.length_map, tab_len, List.length_singleton]; omega) (by simp) rfl fun gr1 => ?_
     refine .memEq (M' := [_, grMK _ _ _, _, _, _]) rfl ?_
     refine st (.fieldAddr (.t rfl) fld24_2 ty22) rfl ?_
     refine .store (.t rfl) (.t rfl) (i := 2) rfl ty22 rfl rfl (Ss' := [_, _, _]) rfl (M' := [_, _, (some _, cellM [_, _, _]), _, _]) rfl ?_
     refine nl ?_
     refine .bln ?_
     refine .thn (k17 _ _ ?_)
     refine .region (st (.addI (.t rfl) (Has.cI 1 rfl) (by first | omega | assumption) (by first | omega | assumption)) rfl ?_)
     refine st (.mv (.t rfl)) rfl ?_
     refine nl ?_
     refine .thn ?_
     refine hK14 (⟨(k + 1, gr1), by show k + 1 ≤ C; omega⟩) _ _ ?_ (Cv.trans (Cv.drop ((.cons _ (.cons_cons _ (.cons_cons _ (.cons_cons _ (.cons_cons _ .slnil))))))) (Cv.mem (.cons (t := 31) (Has.t' rfl ?_) (.k 1 rfl (.k 2 rfl (.k 3 rfl (.k 4 rfl (.k 6 rfl (.k 25 rfl (.k 26 rfl (.k 27 rfl (.k 28 rfl (.k 7 rfl (.k 29 rfl (.k 30 rfl .nil))))))))))))) ?_))
     ·show C - (k + 1) < C - k; omega
     ·exact isI_eq (by omega)
     ·exact grF_eq (by rw [← tab_succ _ (show k < C by omega), List.map_append, List.length_append]; rfl) (by rw [← tab_succ _ (show k < C by omega), List.map_append]; rfl)
   ·have hc3 := BP.f hc3
    refine .exit ?_
    refine .the ?_
    refine .the ?_
    refine .blh ?_
    refine .bln ?_
    refine .thn (k11 _ _ ?_)
    refine .region (st (.addI (.t rfl) (Has.cI 1 rfl) (by first | omega | assumption) (by first | omega | assumption)) rfl ?_)
    refine st (.mv (.t rfl)) rfl ?_
    refine nl ?_
    refine .thn ?_
    have hkC : k = C := by omega
    subst hkC
    refine hK8 (⟨(i + 1, g2), by show i + 1 ≤ R; omega⟩) _ _ ?_ (Cv.mem (.cons (t := 26) (Has.t' rfl ?_) (.k 1 rfl (.k 2 rfl (.k 3 rfl (.k 4 rfl (.k 6 rfl (.k 25 rfl .nil))))))) ?_)
    ·show R - (i + 1) < R - i; omega
    ·exact isI_eq (by omega)
    ·exact grF_eq (by rw [tab_next]) (by rw [tab_next])
  ·have hc2 := BP.f hc2
   refine .exit ?_
   refine .the ?_
   refine .the ?_
   refine .blh ?_
   refine .thn (k6 _ _ ?_)
   refine .cv (Cv.wk (.k 2 rfl (.k 3 rfl (.k 6 rfl .nil)))) ?_
   refine .seq fun _ k22 => ?_
   refine .cv (Cv.freezeF (k := 2) (i := 0) (j := 0) (o := 2) rfl rfl rfl rfl (gr_lenK zc_len) (gr_takeK zc_len) (Ss' := [_, _, SlK 2 zc ((tab (i * C + 0) C (trF b R C (vals xs))).map nz)]) rfl) ?_
   refine .memEq (M' := [(some _, cellM [_, _, SlK 2 zc ((tab (i * C + 0) C (trF b R C (vals xs))).map nz)]), _, _]) rfl ?_
   refine .cv (Cv.wk (.k 2 rfl (.k 3 rfl (.k 6 rfl .nil)))) ?_
   refine .region (st (.load (.t rfl) (i := 0) rfl ty24 rfl (Ss' := [_, _, _]) rfl) rfl ?_)
   refine .store (.t rfl) (.t rfl) (i := 1) rfl ty24 rfl rfl (Ss' := [_, _, _]) rfl (M' := [_, (some _, cellM [_, _, _]), _]) rfl ?_
   refine st (.as (Has.cI 0 rfl)) rfl ?_
   refine nl (.thn (k22 _ _ ?_))
   refine .ret ?_
   refine rtXND (.cons _ (.cons _ (.cons _ .slnil))) (.inl rfl) Try.results25 rfl rfl (.cell rfl (i := 1) rfl ty24 rfl rfl (.tmp (.t rfl) .nil)) ?_
   exact ⟨b, by rw [Nat.add_zero, show i = R by omega]; rfl, rfl, hMB⟩
theorem ix_small {K R C k : Nat} (h : ((K + 1) * 2 ^ R + 2) * 2 ^ C ≤ 80000000) (hk : k ≤ C) : k * ((K + 1) * 2 ^ R) ≤ 80000000 := by
 have h1 : k ≤ 2 ^ C := Nat.le_trans hk (Nat.le_of_lt Nat.lt_two_pow_self)
 have h2 : ((K + 1) * 2 ^ R) * k ≤ ((K + 1) * 2 ^ R + 2) * 2 ^ C := Nat.mul_le_mul (by omega) h1
 rw [Nat.mul_comm]; omega
theorem modhnf_Index {R C K : Nat} {xs : List (Bool × List Nat)} (hx : Bd (vals xs) K) (hK1 : 1 ≤ K) (hR : R ≤ 64) (hC : C ≤ 64) (hl : xs.length = R * C) (hK : (((K + 1) * 2 ^ R) + 2) * 2 ^ C ≤ 80000000) (hKm : ((K + 1) * 2 ^ R) ≤ 30000000) (hp : (Go.Dt.pivs (mf C (vals xs)) R C).length = C) : CtrX Try.prog 8 [isM (R : Int) (C : Int) xs] ([]) (fun S M => ∃ b, S = isTup [isZ (ixv b R C (vals xs) C), isI 0] ∧ M = [] ∧ MulB R C K (vals xs) b) := by
 refine CtrX.intro Try.func8 rfl (by kernel_rfl) Try.ntmps8 rfl fun w0 F0 => ?_
 refine .cv (Cv.wk (.k 0 rfl .nil)) ?_
 refine .seq fun _ k1 => .region (.box (.t rfl) rfl fun b1 => ?_)
 refine .alloc [isB false, SlM isU []] zero30 (fun _ _ => ⟨rfl, nilM _ _, trivial⟩) rfl fun b2 => ?_
 refine st (.as (Has.cI 0 rfl)) rfl ?_
 refine nl (.thn (k1 _ _ ?_))
 refine .seq fun _ k2 => .region (st (.load (.t rfl) (i := 1) rfl ty24 rfl (Ss' := [_, _, _]) rfl) rfl ?_)
 refine .callX (modhnf_filled hx hK1 hR hC hl hK hKm hp) (List.Perm.refl _) (.cons (.t rfl) .nil) rfl ?_
 rintro _ _ ⟨b, rfl, rfl, hMB⟩
 have hb0 := hMB.1
 have hbK := hMB.2.1
 have hTl := filT_len b R C (vals xs) hb0
 refine st (.mv (.t rfl)) rfl (st (.ext (.t rfl) rfl) rfl ?_)
 refine st (.ext (.t rfl) rfl) rfl ?_
 refine st (.as (.t rfl)) rfl (st (.as (.t rfl)) rfl ?_)
 refine nl (.thn (k2 _ _ ?_))
 refine .cv (Cv.wk (.k 2 rfl (.k 3 rfl (.k 4 rfl (.k 5 rfl .nil))))) ?_
 refine .seq fun _ k3 => ?_
 refine .seq fun _ k4 => .region (st (.mv (.t rfl)) rfl ?_)
 refine st (.neI (.t rfl) (Has.cI 0 rfl)) rfl ?_
 refine nl (.thn (k4 _ _ ?_))
 refine .cond (.t rfl) (fun hc1 => ?_) (fun hc1 => ?_)
 ·have hc1 := BP.t hc1
  exfalso; simp at hc1
 ·have hc1 := BP.f hc1
  skip
  refine .skip ?_
  refine .thn (k3 _ _ ?_)
  refine .seq fun _ k5 => .region (st (.call (zint_Of) (.cons (Has.cI 1 rfl) .nil)) rfl ?_)
  refine .alloc [isB false, SlM isU []] zero30 (fun _ _ => ⟨rfl, nilM _ _, trivial⟩) rfl fun b3 => ?_
  refine .store (.t rfl) (.t rfl) (i := 0) rfl ty30 rfl rfl (Ss' := [_, _]) rfl (M' := [(some _, cellM [_, _]), _, _]) rfl ?_
  refine nl (.thn (k5 _ _ ?_))
  refine .seq fun _ k6 => ?_
  refine .seq fun _ k7 => .region (st (.mv (.t rfl)) rfl ?_)
  refine st (.nilcP (.t rfl)) rfl ?_
  refine st (.fieldAddrP (.t rfl) fld61_0 ty59 (Ss' := [_, _, _]) rfl) rfl ?_
  refine st (.loadP1 (.t rfl) ty59) rfl ?_
  refine st (.len sl59 (.t rfl)) rfl (st (.mv (Has.cI 0 rfl)) rfl ?_)
  refine nl (.thn (k7 _ _ ?_))
  refine .cv (Cv.wk (.k 2 rfl (.k 3 rfl (.k 6 rfl (.k 22 rfl (.k 23 rfl (.k 24 rfl .nil))))))) ?_
  refine .block ?_
  refine .loopF [2, 3, 6, 22, 23] (fun (z : { k : Nat // k ≤ C }) => match z with | ⟨k, hk⟩ => [(24, isI (k : Int))]) (fun M => fun (z : { k : Nat // k ≤ C }) => match z with | ⟨k, hk⟩ => [zM b3 (ixv b R C (vals xs) k), (some b2, cellM [isB false, SlM isU []]), (some b1, cellM [isI (R : Int), isI (C : Int), SlK 2 zc xs])]) (fun (z : { k : Nat // k ≤ C }) => match z with | ⟨k, hk⟩ => C - k) (⟨0, Nat.zero_le _⟩) (Cv.mem (.cons (t := 24) (Has.t' rfl ?_) (.k 2 rfl (.k 3 rfl (.k 6 rfl (.k 22 rfl (.k 23 rfl .nil)))))) ?_) ?_
  ·rfl
  ·exact zM_eq rfl rfl
  rintro ⟨k, hk⟩ K8 hK8
  refine .cv (Cv.wk (.k 24 rfl (.k 2 rfl (.k 3 rfl (.k 6 rfl (.k 22 rfl (.k 23 rfl .nil))))))) ?_
  refine .memEq (M' := [zM b3 (ixv b R C (vals xs) k), (some b2, cellM [isB false, SlM isU []]), (some b1, cellM [isI (R : Int), isI (C : Int), SlK 2 zc xs])]) rfl ?_
  refine .seq fun _ k9 => .region (st (.ltI (.t rfl) (.t rfl)) rfl ?_)
  refine nl (.thn (k9 _ _ ?_))
  refine .seq fun _ k10 => ?_
  refine .cond (.t rfl) (fun hc2 => ?_) (fun hc2 => ?_)
  ·have hc2 := BP.t hc2
   obtain ⟨p, hp1⟩ : ∃ p, (filT b R C (vals xs))[k]? = some p := ⟨_, List.getElem?_eq_getElem (by omega)⟩
   have hpl := filT_row hb0 p (List.mem_of_getElem? hp1)
   have hpm : (p.map nz).length = C := by rw [List.length_map, hpl]
   have hGt : cf p k = (trF b R C (vals xs)) k k := by unfold trF; rw [Go.Hp.E_of hp1]
   have hwk := ixv_nw (R := R) (C := C) (L := vals xs) hb0 hbK k
   have hwp : (List.length (words (cf p k).natAbs)) ≤ ((K + 1) * 2 ^ R) := by rw [hGt]; exact nw_le_b (trF_all hb0 k k).1 (trF_all hb0 k k).2 hbK
   have hkb := ix_small hK (show k ≤ C by omega)
   refine .skip ?_
   refine .thn (k10 _ _ ?_)
   refine .seq fun _ k11 => ?_
   refine .block ?_
   refine .seq fun _ k12 => .region (st (.mv (.t rfl)) rfl ?_)
   refine st (.ixP sl59 ty22 (.t rfl) (.t rfl) ⟨by omega, by omega⟩ hp1) rfl ?_
   refine st (.loadP1 (.t rfl) ty22) rfl ?_
   refine st (.as (.t rfl)) rfl (st (.as (.t rfl)) rfl ?_)
   refine nl (.thn (k12 _ _ ?_))
   refine .dr ?_
   refine .s [] rfl rfl rfl (.o rfl (.load (.t rfl) (i := 0) rfl ty30 rfl (Ss' := [_, _]) rfl)) ?_
   refine .s [] rfl rfl rfl (.o rfl (.mv (.t rfl))) ?_
   refine .s [] rfl rfl rfl (.o rfl (.mv (.t rfl))) ?_
   refine .s [30, 31] rfl rfl rfl (.o rfl (.ixK sl22 ty30 (.t rfl) (.t rfl) zc_len ⟨by omega, by omega⟩ (getZ (i := k) (by omega)))) ?_
   refine .s [32] rfl rfl rfl (.o rfl (.loadP (.t rfl) ty30 rfl (Ss' := [_, _]) rfl)) ?_
   refine .fin (n := 5) mixed (by kernel_rfl) (by kernel_rfl) (by kernel_rfl) ?_
   refine .cv (Cv.wk (.k 2 rfl (.k 3 rfl (.k 6 rfl (.k 22 rfl (.k 23 rfl (.k 24 rfl (.k 25 rfl (.k 26 rfl (.k 27 rfl (.k 28 rfl (.k 7 rfl (.k 8 rfl (.k 29 rfl (.k 30 rfl (.k 31 rfl (.k 32 rfl (.k 33 rfl .nil)))))))))))))))))) ?_
   refine st (.eq (.call (zint_Mul (by rw [val_words]; omega) (by rw [val_words]; omega)) (.cons (.t rfl) (.cons (.t rfl) .nil))) ((show _ = isZ (ixv b R C (vals xs) k * cf p k) from isZ_eq (by simp only [zv_nz, zv_nf])))) rfl ?_
   refine .store (.t rfl) (.t rfl) (i := 0) rfl ty30 rfl rfl (Ss' := [_, _]) rfl (M' := [(some _, cellM [_, _]), _, _]) rfl ?_
   refine nl ?_
   refine .bln ?_
   refine .thn (k11 _ _ ?_)
   refine .region (st (.addI (.t rfl) (Has.cI 1 rfl) (by first | omega | assumption) (by first | omega | assumption)) rfl ?_)
   refine st (.mv (.t rfl)) rfl ?_
   refine nl ?_
   refine .thn ?_
   refine hK8 (⟨k + 1, by omega⟩) _ _ ?_ (Cv.mem (.cons (t := 24) (Has.t' rfl ?_) (.k 2 rfl (.k 3 rfl (.k 6 rfl (.k 22 rfl (.k 23 rfl .nil)))))) ?_)
   ·show C - (k + 1) < C - k; omega
   ·exact isI_eq (by omega)
   ·exact zM_eq (by show _ = ixv b R C (vals xs) k * (trF b R C (vals xs)) k k; rw [← hGt]) rfl
  ·have hc2 := BP.f hc2
   refine .exit ?_
   refine .the ?_
   refine .the ?_
   refine .blh ?_
   refine .thn (k6 _ _ ?_)
   refine .seq fun _ k13 => .region (st (.load (.t rfl) (i := 0) rfl ty30 rfl (Ss' := [_, _]) rfl) rfl ?_)
   refine .store (.t rfl) (.t rfl) (i := 1) rfl ty30 rfl rfl (Ss' := [_, _]) rfl (M' := [_, (some _, cellM [_, _]), _]) rfl ?_
   refine st (.as (Has.cI 0 rfl)) rfl ?_
   refine nl (.thn (k13 _ _ ?_))
   refine .cv (Cv.wk (.k 2 rfl (.k 3 rfl .nil))) ?_
   refine .ret ?_
   refine rtXND (.cons _ (.cons _ (.cons _ .slnil))) (.inl rfl) Try.results8 rfl rfl (.cell rfl (i := 1) rfl ty30 rfl rfl (.tmp (.t rfl) .nil)) ?_
   exact ⟨b, by rw [show k = C by omega], rfl, hMB⟩
end Go.Proofs.Ythkdmhaafanjlaa
namespace Go.Tr
open Go.Nt Go.Pz Go.Mz Go.En Go.Hn Go.Hp Go.Dt
abbrev un (b : Int) (j : Nat) : Nat → Int := fun k => if k = j then b else 0
theorem eqv_mod {rs : List (List Int)} {W i : Nat} {x : List Int} (hi : i < rs.length) (h : SpZ rs.length W (E (rs.set i [])) fun k => cf x k - E rs i k) : Eqv rs.length rs.length W (E rs) (E (rs.set i x)) := by
 have hz : ∀ (y : List Int) (j : Nat), j < rs.length → SpZ rs.length W (E (rs.set i y)) (E (rs.set i []) j) := fun y j hj => by
  rw [E_set hi]
  split
  ·exact (SpZ.zero _).congr fun k _ => rfl
  ·next hne =>
   have := SpZ.row (W := W) (E (rs.set i y)) hj
   rwa [E_set hi, if_neg hne] at this
 have hself : rs.set i (rs.getD i []) = rs := by
  rw [List.getD, List.getElem?_eq_getElem hi]; exact List.set_getElem_self hi
 refine ⟨fun j hj => ?_, fun j hj => ?_⟩
 ·by_cases e : j = i
  ·subst e
   have h1 := SpZ.row (W := W) (E (rs.set j x)) hj
   rw [E_set hi, if_pos rfl] at h1
   exact (h1.comb 1 (-1) (h.trans (hz x))).congr fun k _ => by omega
  ·have := SpZ.row (W := W) (E (rs.set i x)) hj
   rwa [E_set hi, if_neg e] at this
 ·rw [E_set hi]
  split
  ·next e =>
   have hz2 := hz (rs.getD i [])
   rw [hself] at hz2
   exact ((SpZ.row (W := W) (E rs) hi).comb 1 1 (h.trans hz2)).congr fun k _ => by omega
  ·exact SpZ.row (W := W) (E rs) hj
theorem sp_units {R W : Nat} {B : MatF} {b : Int} {z : Nat → Int} (h : ∀ j, j < W → z j = 0 ∨ SpZ R W B (un b j)) : SpZ R W B fun k => z k * b := by
 have h1 : SpZ R W B fun k => sm W fun j => z j * un b j k := by
  have : SpZ R W B fun k => sm W fun j => 1 * (z j * un b j k) := SpZ.sum (fun _ => 1) (fun j k => z j * un b j k) W fun j hj => by
   rcases h j hj with h0 | h0
   ·exact (SpZ.zero B).congr fun k _ => by rw [h0, Int.zero_mul]
   ·exact (h0.comb (z j) 0 h0).congr fun k _ => by omega
  exact this.congr fun k _ => sm_congr fun j _ => by rw [Int.one_mul]
 exact h1.congr fun k hk => by
  rw [sm_one hk fun j hj hne => by show z j * (if k = j then b else 0) = 0; rw [if_neg (fun e => hne e.symm), Int.mul_zero]]
  show z k * b = z k * (if k = k then b else 0)
  rw [if_pos rfl]
def HasB (b : Int) (n : Nat) (rows : List (List Int)) : Prop := ∀ j, j < n → SpZ n n (E rows) (un b j)
theorem tail_of {b : Int} {n : Nat} {rows : List (List Int)} (h : TriR b n rows) (hB : HasB b n rows) {j : Nat} (hj : j < n) : ∃ c : Nat → Int, (∀ i, i < j → c i = 0) ∧ ∀ k, k < n → un b j k = sm n fun i => c i * E rows i k := by
  obtain ⟨c, hc⟩ := hB j hj
  refine ⟨c, fun i => ?_, hc⟩
  induction i using Nat.strongRecOn with
  | ind i ih =>
    intro hij
    have h1 := hc i (by omega)
    rw [show un b j i = 0 from if_neg (by omega), sm_one (c := i) (by omega) fun l hl hne => by
      rcases Nat.lt_or_ge l i with h2 | h2
      · rw [ih l h2 (by omega), Int.zero_mul]
      · rw [(h.e hl).1 i (by omega), Int.mul_zero]] at h1
    have hd := (h.e (show i < n by omega)).2.1
    rcases Int.mul_eq_zero.1 h1.symm with h2 | h2
    · exact h2
    · omega
theorem tail_sp {b : Int} {n : Nat} {rows L : List (List Int)} (h : TriR b n rows) (hB : HasB b n rows) {j : Nat} (hj : j < n) (hL : ∀ l, j ≤ l → l < n → E L l = E rows l) : SpZ (n + 1) n (E L) (un b j) := by
 obtain ⟨c, h0, hc⟩ := tail_of h hB hj
 refine ⟨fun l => if l < n then c l else 0, fun k hk => ?_⟩
 rw [hc k hk]
 show _ = (sm n fun i => (if i < n then c i else 0) * E L i k) + (if n < n then c n else 0) * E L n k
 rw [if_neg (Nat.lt_irrefl n), Int.zero_mul, Int.add_zero]
 refine sm_congr fun i hi => ?_
 rw [if_pos hi]
 rcases Nat.lt_or_ge i j with h1 | h1
 ·rw [h0 i h1, Int.zero_mul, Int.zero_mul]
 ·rw [hL i h1 hi]
theorem mxT_mod {b : Int} {place n : Nat} {x y : Int} {p q : List Int} (hq : q.length = p.length) (k : Nat) : ∃ z, cf (mxT b place x p y q) k = cf (mx2 x p y q) k + z * b ∧ (k ≤ place → z = 0) := by
 rw [cf_mxT hq, cf_mx2 hq]
 unfold mxv
 split
 ·next h =>
  refine ⟨-((x * cf p k + y * cf q k) / b), ?_, fun h2 => by omega⟩
  rw [Int.emod_def, Int.neg_mul, Int.mul_comm b]; omega
 ·exact ⟨0, by rw [Int.zero_mul]; omega, fun _ => rfl⟩
theorem mod_eqv {b : Int} {n k i : Nat} {rows L : List (List Int)} (h : TriR b n rows) (hB : HasB b n rows) (hl : L.length = n + 1) (hi : i < n + 1) (hik : i ≤ k ∨ i = n) (hL : ∀ l, k < l → l < n → E L l = E rows l) {x : List Int} (hx : ∀ j, ∃ z, cf x j = E L i j + z * b ∧ (j ≤ k → z = 0)) :
  Eqv (n + 1) (n + 1) n (E L) (E (L.set i x)) := by
 have hz : ∀ j, ∃ z, cf x j = E L i j + z * b ∧ (j ≤ k → z = 0) := hx
 have := eqv_mod (W := n) (rs := L) (i := i) (x := x) (by omega) (by
  rw [hl]
  have h1 : SpZ (n + 1) n (E (L.set i [])) fun j => (Classical.choose (hz j)) * b := sp_units fun j hj => by
   rcases Nat.lt_or_ge k j with h1 | h1
   ·refine .inr (tail_sp h hB hj fun l h2 h3 => ?_)
    rw [E_set (by omega), if_neg (by omega)]
    exact hL l (by omega) h3
   ·exact .inl ((Classical.choose_spec (hz j)).2 h1)
  exact h1.congr fun j _ => by have := (Classical.choose_spec (hz j)).1; omega)
 rwa [hl] at this
theorem E_app {rs : List (List Int)} {w : List Int} {n : Nat} (h : rs.length = n) : (∀ i, i < n → E (rs ++ [w]) i = E rs i) ∧ E (rs ++ [w]) n = cf w := by
 subst h
 refine ⟨fun i hi => E_same (List.getElem?_append_left hi), ?_⟩
 rw [E_of (x := w) (by rw [List.getElem?_append_right (Nat.le_refl _), Nat.sub_self]; rfl)]
theorem pst_eqv {b : Int} {n k : Nat} {rows : List (List Int)} {s : List (List Int) × List Int} (h : TriR b n rows) (hB : HasB b n rows) (ht : TriR b n s.1) (hv : VR b n k s.2) (hk : k < n) (hoff : ∀ j, k ≤ j → s.1[j]? = rows[j]?) :
  Eqv (n + 1) (n + 1) n (E (s.1 ++ [s.2])) (E ((pst b s k).1 ++ [(pst b s k).2])) ∧ ∀ j, k + 1 ≤ j → (pst b s k).1[j]? = rows[j]? := by
 by_cases h0 : cf s.2 k = 0
 ·rw [pst_no h0]
  exact ⟨Eqv.refl _ _ _, fun j hj => hoff j (by omega)⟩
 ·obtain ⟨p, hp⟩ : ∃ p, s.1[k]? = some p := ⟨_, List.getElem?_eq_getElem (by rw [ht.len]; exact hk)⟩
  have hpl := ht.row k p hp
  have hql : s.2.length = p.length := by rw [hv.len, hpl]
  have hpd := ht.dia k p hp
  have hg := xgg_pos (b := cf s.2 k) hpd.1
  rw [pst_go hp h0]
  refine ⟨?_, fun j hj => by show (s.1.set k _)[j]? = _; rw [List.getElem?_set_ne (by omega)]; exact hoff j (by omega)⟩
  obtain ⟨L, hL⟩ : ∃ L, L = s.1 ++ [s.2] := ⟨_, rfl⟩
  have hLl : L.length = n + 1 := by rw [hL, List.length_append, ht.len]; rfl
  have hLk : L[k]? = some p := by rw [hL, List.getElem?_append_left (by rw [ht.len]; exact hk)]; exact hp
  have hLn : L[n]? = some s.2 := by rw [hL, List.getElem?_append_right (by rw [ht.len]; exact Nat.le_refl _), ht.len, Nat.sub_self]; rfl
  have hrow : ∀ r ∈ L, r.length = n := fun r hr => by
   rw [hL] at hr
   rcases List.mem_append.1 hr with h1 | h1
   ·obtain ⟨i, hi⟩ := List.mem_iff_getElem?.1 h1; exact ht.row i r hi
   ·rw [List.mem_singleton.1 h1]; exact hv.len
  have e1 := jn_eqv (V := n) (col := k) hrow (show k ≠ n by omega) (by omega) (show n < L.length by omega)
  rw [jn_go hLk hLn (by omega), hLl] at e1
  obtain ⟨a1, ha1⟩ : ∃ a1, a1 = mx2 (xgx (cf p k) (cf s.2 k)) p (xgy (cf p k) (cf s.2 k)) s.2 := ⟨_, rfl⟩
  obtain ⟨a2, ha2⟩ : ∃ a2, a2 = mx2 (-((cf s.2 k).tdiv (xgg (cf p k) (cf s.2 k)))) p ((cf p k).tdiv (xgg (cf p k) (cf s.2 k))) s.2 := ⟨_, rfl⟩
  rw [← ha1, ← ha2] at e1
  obtain ⟨b1, hb1⟩ : ∃ b1, b1 = mxT b k (xgx (cf p k) (cf s.2 k)) p (xgy (cf p k) (cf s.2 k)) s.2 := ⟨_, rfl⟩
  obtain ⟨b2, hb2⟩ : ∃ b2, b2 = mxT b k (-((cf s.2 k).tdiv (xgg (cf p k) (cf s.2 k)))) p ((cf p k).tdiv (xgg (cf p k) (cf s.2 k))) s.2 := ⟨_, rfl⟩
  rw [← hb1, ← hb2]
  have hLoff : ∀ l, k < l → l < n → E L l = E rows l := fun l h1 h2 => by
   rw [hL, (E_app ht.len).1 l h2]; exact E_same (hoff l (by omega))
  have s1 : ((L.set k a1).set n a2).length = n + 1 := by rw [List.length_set, List.length_set, hLl]
  have o1 : ∀ l, k < l → l < n → E ((L.set k a1).set n a2) l = E rows l := fun l h1 h2 => by
   rw [E_set (by rw [List.length_set]; omega), if_neg (by omega), E_set (by omega), if_neg (by omega)]; exact hLoff l h1 h2
  have e2 := mod_eqv (i := k) (x := b1) h hB s1 (by omega) (.inl (Nat.le_refl _)) o1 fun j => by
   rw [E_set (by rw [List.length_set]; omega), if_neg (by omega), E_set (by omega), if_pos rfl, hb1, ha1]
   exact mxT_mod (n := n) hql j
  have s2 : (((L.set k a1).set n a2).set k b1).length = n + 1 := by rw [List.length_set, s1]
  have o2 : ∀ l, k < l → l < n → E (((L.set k a1).set n a2).set k b1) l = E rows l := fun l h1 h2 => by
   rw [E_set (by omega), if_neg (by omega)]; exact o1 l h1 h2
  have e3 := mod_eqv (i := n) (x := b2) h hB s2 (by omega) (.inr rfl) o2 fun j => by
   rw [E_set (by omega), if_neg (by omega), E_set (by rw [List.length_set]; omega), if_pos rfl, hb2, ha2]
   exact mxT_mod (n := n) hql j
  have hend : (((L.set k a1).set n a2).set k b1).set n b2 = s.1.set k b1 ++ [b2] := by
   rw [List.set_comm _ _ (show n ≠ k by omega), List.set_set, List.set_set, hL, List.set_append_left _ _ (by rw [ht.len]; exact hk), List.set_append_right _ _ (by rw [List.length_set, ht.len]; exact Nat.le_refl _), List.length_set, ht.len, Nat.sub_self]
   rfl
  rw [hend] at e3
  have e4 := e1.trans (e2.trans e3)
  rw [hL] at e4
  exact e4
theorem pss_eqv {b : Int} {n : Nat} {rows : List (List Int)} {v : List Int} (hb : 0 < b) (h : TriR b n rows) (hB : HasB b n rows) (hv : VR b n 0 v) : ∀ k, k ≤ n → Eqv (n + 1) (n + 1) n (E (rows ++ [v])) (E ((pss b (rows, v) k).1 ++ [(pss b (rows, v) k).2])) ∧ ∀ j, k ≤ j → (pss b (rows, v) k).1[j]? = rows[j]?
  | 0, _ => ⟨Eqv.refl _ _ _, fun _ _ => rfl⟩
  | k + 1, hk => by
    obtain ⟨h1, h2⟩ := pss_eqv hb h hB hv k (by omega)
    obtain ⟨h3, h4⟩ := pss_ok hb h hv k (by omega)
    obtain ⟨h5, h6⟩ := pst_eqv h hB h3 h4 hk h2
    exact ⟨h1.trans h5, h6⟩
theorem putT_sp {b : Int} {n : Nat} {rows : List (List Int)} {v : List Int} (hb : 0 < b) (h : TriR b n rows) (hB : HasB b n rows) (hv : VR b n 0 v) :
  (∀ i, i < n → SpZ n n (E (putT b rows v)) (E rows i)) ∧ SpZ n n (E (putT b rows v)) (cf v) ∧ ∀ i, i < n → SpZ (n + 1) n (E (rows ++ [v])) (E (putT b rows v) i) := by
 obtain ⟨h1, _⟩ := pss_eqv hb h hB hv n (Nat.le_refl _)
 obtain ⟨h3, h4⟩ := pss_ok hb h hv n (Nat.le_refl _)
 have hput : putT b rows v = (pss b (rows, v) n).1 := by unfold putT; rw [h.len]
 rw [hput]
 obtain ⟨a1, a2⟩ := E_app (w := (pss b (rows, v) n).2) h3.len
 obtain ⟨c1, c2⟩ := E_app (w := v) h.len
 have hin : ∀ i, i < n + 1 → SpZ n n (E (pss b (rows, v) n).1) (E ((pss b (rows, v) n).1 ++ [(pss b (rows, v) n).2]) i) := fun i hi => by
  rcases Nat.lt_or_ge i n with h5 | h5
  ·rw [a1 i h5]; exact SpZ.row _ h5
  ·rw [show i = n by omega, a2]; exact (SpZ.zero _).congr fun k hk => h4.low k hk
 refine ⟨fun i hi => ?_, ?_, fun i hi => ?_⟩
 ·rw [← c1 i hi]; exact (h1.1 i (by omega)).trans hin
 ·rw [← c2]; exact (h1.1 n (by omega)).trans hin
 ·rw [← a1 i hi]; exact h1.2 i (by omega)
theorem vrow_sp {b : Int} {C R' i : Nat} {L : List Int} {B : MatF} (hu : ∀ j, j < C → SpZ R' C B (un b j)) : SpZ R' C B (cf (vrow b C L i C)) ↔ SpZ R' C B (mf C L i) := by
 have hz : SpZ R' C B fun k => (mf C L i k / b) * b := sp_units fun j hj => .inr (hu j hj)
 have e : ∀ k, k < C → cf (vrow b C L i C) k = mf C L i k - (mf C L i k / b) * b := fun k hk => by
  unfold vrow
  rw [cf_tab, if_pos hk]
  show mf C L i k % b = _
  rw [Int.emod_def, Int.mul_comm b]
 exact ⟨fun h => (h.comb 1 1 hz).congr fun k hk => by rw [e k hk]; omega, fun h => (h.comb 1 (-1) hz).congr fun k hk => by rw [e k hk]; omega⟩
theorem fil_sp {b : Int} (hb : 0 < b) (C : Nat) (L : List Int) : ∀ R, HasB b C (fil b C L R) ∧ (∀ r, r < R → SpZ C C (E (fil b C L R)) (mf C L r)) ∧
    ∀ (R' : Nat) (B : MatF), (∀ j, j < C → SpZ R' C B (un b j)) → (∀ r, r < R → SpZ R' C B (mf C L r)) → ∀ t, t < C → SpZ R' C B (E (fil b C L R) t)
  | 0 => by
    have e : ∀ t, t < C → E (fil b C L 0) t = cf (tr0 b C t) := fun t ht => E_of (by
      show (tri0 b C C)[t]? = _
      unfold tri0; rw [List.getElem?_map, List.getElem?_range ht]; rfl)
    refine ⟨fun j hj => ?_, fun r hr => absurd hr (Nat.not_lt_zero _), fun R' B hu _ t ht => ?_⟩
    · have := SpZ.row (W := C) (E (fil b C L 0)) hj
      rw [e j hj] at this
      exact this.congr fun k _ => by rw [cf_tr0 hj]
    · rw [e t ht]; exact (hu t ht).congr fun k _ => by rw [cf_tr0 ht]
  | R + 1 => by
    obtain ⟨h1, h2, h3⟩ := fil_sp hb C L R
    have hok := fil_ok hb C L R
    have hv := vrow_ok hb C L R
    obtain ⟨p1, p2, p3⟩ := putT_sp hb hok h1 hv
    have hB : HasB b C (fil b C L (R + 1)) := fun j hj => (h1 j hj).trans p1
    refine ⟨hB, fun r hr => ?_, fun R' B hu hA t ht => ?_⟩
    · rcases Nat.lt_or_ge r R with h | h
      · exact (h2 r h).trans p1
      · rw [show r = R by omega]; exact (vrow_sp hB).1 p2
    · refine (p3 t ht).trans fun i hi => ?_
      obtain ⟨c1, c2⟩ := E_app (w := vrow b C L R C) hok.len
      rcases Nat.lt_or_ge i C with h | h
      · rw [c1 i h]; exact h3 R' B hu (fun r hr => hA r (by omega)) i h
      · rw [show i = C by omega, c2]; exact (vrow_sp hu).2 (hA R (by omega))
theorem rdT_eqv {b : Int} {n : Nat} {rows : List (List Int)} (h : TriR b n rows) : ∀ k, k ≤ n → Eqv n n n (E rows) (E (rdT rows k))
  | 0, _ => Eqv.refl _ _ _
  | k + 1, hk => by
    have ih := rdT_eqv h k (by omega)
    have hl : (rdT rows k).length = n := by rw [rdT_len, h.len]
    have := rds_eqv (V := n) (col := k) (rdT_row h k (by omega)) (show k < (rdT rows k).length by omega) k (Nat.le_refl _)
    rw [hl] at this
    exact ih.trans this
theorem trF_eqv {R C K : Nat} {L : List Int} {b : Int} (hM : MulB R C K L b) : Eqv R R C (mf C L) (trF b R C L) := by
 obtain ⟨hb, _, hCR, q, hq, hqR, _, hbe⟩ := hM
 obtain ⟨h1, h2, h3⟩ := fil_sp hb C L R
 have hr := rdT_eqv (fil_ok hb C L R) C (Nat.le_refl _)
 have hin : ∀ t, t < C → SpZ R C (trF b R C L) (trF b R C L t) := fun t ht => SpZ.row _ (by omega)
 refine ⟨fun i hi => ((h2 i hi).trans hr.1).trans hin, fun t ht => ?_⟩
 rcases Nat.lt_or_ge t C with h | h
 ·refine (hr.2 t h).trans fun i hi => h3 R (mf C L) (fun j hj => ?_) (fun r hr => SpZ.row _ hr) i hi
  have := mul_span (A := mf C L) hq hqR hj
  rw [← hbe] at this
  exact this
 ·exact (SpZ.zero _).congr fun k _ => trF_out hb h
theorem aw15_b : Bd [2, 0, 0, 3, 1, 1] 1 := bd64 (by decide)
theorem aw15 {K : Nat} {b : Int} (hM : MulB 3 2 K [2, 0, 0, 3, 1, 1] b) : ixv b 3 2 [2, 0, 0, 3, 1, 1] 2 = 1 := by
 have hb := hM.1
 have hf := trF_form (R := 3) (C := 2) (L := [2, 0, 0, 3, 1, 1]) hb
 have he := trF_eqv hM
 have key : ∀ (c : Nat) (v : Nat → Int), c < 2 → SpZ 3 2 (mf 2 [2, 0, 0, 3, 1, 1]) v → (∀ l, l < c → v l = 0) → v c = 1 → trF b 3 2 [2, 0, 0, 3, 1, 1] c c = 1 := fun c v hc hv h0 h1 => by
  obtain ⟨r, hr, e1, e2⟩ := hf.key (hv.trans he.1) hc h0 (by omega)
  have hrC : r < 2 := by
   rcases Nat.lt_or_ge r 2 with h | h
   ·exact h
   ·rw [fc_all fun l _ => trF_out hb h] at e1; omega
  rw [trF_fc hb hrC] at e1
  subst e1
  rw [h1] at e2
  have hp := (trF_dia (R := 3) (L := [2, 0, 0, 3, 1, 1]) hb hrC).1
  have := Int.le_of_dvd (by decide) e2
  omega
 have d0 := key 0 (mf 2 [2, 0, 0, 3, 1, 1] 2) (by decide) (SpZ.row _ (by decide)) (fun l hl => absurd hl (Nat.not_lt_zero _)) rfl
 have d1 := key 1 (fun k => if k = 1 then 1 else 0) (by decide) ⟨fun i => if i = 2 then -2 else 1, by decide⟩ (fun l hl => if_neg (by omega)) rfl
 show 1 * trF b 3 2 [2, 0, 0, 3, 1, 1] 0 0 * trF b 3 2 [2, 0, 0, 3, 1, 1] 1 1 = 1
 rw [d0, d1]; rfl
theorem aw15_p : (pivs (mf 2 [2, 0, 0, 3, 1, 1]) 3 2).length = 2 := by decide
theorem aw15_tab : tab (3 * 2) 2 (fun i k => cf [2, 0, 0, 3, 1, 1] (i * 2 + k)) = [2, 0, 0, 3, 1, 1] := by decide
end Go.Tr
namespace Go.Proofs.Ythkdmhaafanjlaa
open Go.En Go.RowKit
set_option maxRecDepth 10000
set_option maxHeartbeats 4000000
open Go.Nt
open Go.Pz
open Go.Mz
open Go.Dt
theorem ref11_Formed {r c : Int} {xs : List (Bool × List Nat)} : Ctr Try.prog 10 [isM r c xs] (isB (formB r c xs.length)) := by
 refine Ctr.intro Try.func10 rfl (by kernel_rfl) Try.ntmps10 rfl fun w0 F0 => ?_
 refine .cv (Cv.wk (.k 0 rfl .nil)) ?_
 refine .seq fun _ k1 => .region (.box (.t rfl) rfl fun b1 => ?_)
 refine st (.as (Has.cB false)) rfl ?_
 refine nl (.thn (k1 _ _ ?_))
 refine .seq fun _ k2 => .region (st (.fieldAddr (.t rfl) fld24_0 ty3) rfl ?_)
 refine st (.load1 (.t rfl) (i := 0) rfl ty3 rfl) rfl (st (.geI (.t rfl) (Has.cI 0 rfl)) rfl ?_)
 refine st (.mv (.t rfl)) rfl ?_
 refine stT rfl rfl (fun hg => have hg' := BP.t hg; OK1.fieldAddr (.t rfl) fld24_0 ty3) rfl ?_
 refine stT rfl rfl (fun hg => have hg' := BP.t hg; OK1.load1 (Has.g rfl hg) (i := 0) rfl ty3 rfl) rfl ?_
 refine stT rfl rfl (fun hg => have hg' := BP.t hg; OK1.leI (Has.g rfl hg) (Has.cI 64 rfl)) rfl ?_
 refine st (.pickAnd (.t rfl) (fun h => Has.g rfl h)) rfl ?_
 refine st (.mv (.t rfl)) rfl ?_
 refine stT rfl rfl (fun hg => have hg' := BP.t hg; OK1.fieldAddr (.t rfl) fld24_1 ty3) rfl ?_
 refine stT rfl rfl (fun hg => have hg' := BP.t hg; OK1.load1 (Has.g rfl hg) (i := 0) rfl ty3 rfl) rfl ?_
 refine stT rfl rfl (fun hg => have hg' := BP.t hg; OK1.geI (Has.g rfl hg) (Has.cI 0 rfl)) rfl ?_
 refine st (.pickAnd (.t rfl) (fun h => Has.g rfl h)) rfl ?_
 refine st (.mv (.t rfl)) rfl ?_
 refine stT rfl rfl (fun hg => have hg' := BP.t hg; OK1.fieldAddr (.t rfl) fld24_1 ty3) rfl ?_
 refine stT rfl rfl (fun hg => have hg' := BP.t hg; OK1.load1 (Has.g rfl hg) (i := 0) rfl ty3 rfl) rfl ?_
 refine stT rfl rfl (fun hg => have hg' := BP.t hg; OK1.leI (Has.g rfl hg) (Has.cI 64 rfl)) rfl ?_
 refine st (.pickAnd (.t rfl) (fun h => Has.g rfl h)) rfl ?_
 refine st (.mv (.t rfl)) rfl ?_
 refine stT rfl rfl (fun hg => have hg' := BP.t hg; OK1.fieldAddr (.t rfl) fld24_2 ty22) rfl ?_
 refine stT rfl rfl (fun hg => have hg' := BP.t hg; OK1.load1 (Has.g rfl hg) (i := 0) rfl ty22 rfl) rfl ?_
 refine stT rfl rfl (fun hg => have hg' := BP.t hg; OK1.len sl22 (Has.g rfl hg)) rfl ?_
 refine stT rfl rfl (fun hg => have hg' := BP.t hg; OK1.fieldAddr (.t rfl) fld24_0 ty3) rfl ?_
 refine stT rfl rfl (fun hg => have hg' := BP.t hg; OK1.load1 (Has.g rfl hg) (i := 0) rfl ty3 rfl) rfl ?_
 refine stT rfl rfl (fun hg => have hg' := BP.t hg; OK1.fieldAddr (.t rfl) fld24_1 ty3) rfl ?_
 refine stT rfl rfl (fun hg => have hg' := BP.t hg; OK1.load1 (Has.g rfl hg) (i := 0) rfl ty3 rfl) rfl ?_
 refine stT rfl rfl (fun hg => have hg' := BP.t hg; OK1.mulI (Has.g rfl hg) (Has.g rfl hg) (by have := mul_bnd ⟨⟨hg'.1.1.1, hg'.1.1.2⟩, hg'.1.2, hg'.2⟩; omega) (by have := mul_bnd ⟨⟨hg'.1.1.1, hg'.1.1.2⟩, hg'.1.2, hg'.2⟩; omega)) rfl ?_
 refine stT rfl rfl (fun hg => have hg' := BP.t hg; OK1.eqI (Has.g rfl hg) (Has.g rfl hg)) rfl ?_
 refine st (.pickAnd (.t rfl) (fun h => Has.g rfl h)) rfl ?_
 refine st (.as (.t rfl)) rfl ?_
 refine nl (.thn (k2 _ _ ?_))
 refine .cv (Cv.wk (.k 2 rfl .nil)) ?_
 refine .ret ?_
 refine rt1 (.inl rfl) Try.results10 rfl (.tmp (Has.t' rfl ?_) .nil)
 all_goals (exact isB_eq (by unfold formB; simp only [Bool.and_assoc]))
theorem ref11_Few {r c n w : Int} {xs : List (Bool × List Nat)} : Ctr Try.prog 7 [isM r c xs, isI n, isI w] (isB (decide (r ≤ n) && decide (c ≤ n) && fewB xs 100 w)) := by
 refine Ctr.intro Try.func7 rfl (by kernel_rfl) Try.ntmps7 rfl fun w0 F0 => ?_
 refine .cv (Cv.wk (.k 0 rfl (.k 1 rfl (.k 2 rfl .nil)))) ?_
 refine .fact (Has.rngI (Has.t (t := 1) rfl)) fun lt1 => ?_
 refine .fact (Has.rngI (Has.t (t := 2) rfl)) fun lt2 => ?_
 refine .seq fun _ k1 => .region (.box (.t rfl) rfl fun b1 => ?_)
 refine st (.as (Has.cB false)) rfl ?_
 refine nl (.thn (k1 _ _ ?_))
 refine .seq fun _ k2 => .region (st (.fieldAddr (.t rfl) fld24_0 ty3) rfl ?_)
 refine st (.load1 (.t rfl) (i := 0) rfl ty3 rfl) rfl ?_
 refine st (.mv (.t rfl)) rfl (st (.leI (.t rfl) (.t rfl)) rfl ?_)
 refine st (.mv (.t rfl)) rfl ?_
 refine stT rfl rfl (fun hg => have hg' := BP.t hg; OK1.fieldAddr (.t rfl) fld24_1 ty3) rfl ?_
 refine stT rfl rfl (fun hg => have hg' := BP.t hg; OK1.load1 (Has.g rfl hg) (i := 0) rfl ty3 rfl) rfl ?_
 refine stT rfl rfl (fun hg => have hg' := BP.t hg; OK1.mv (.t rfl)) rfl ?_
 refine stT rfl rfl (fun hg => have hg' := BP.t hg; OK1.leI (Has.g rfl hg) (Has.g rfl hg)) rfl ?_
 refine st (.pickAnd (.t rfl) (fun h => Has.g rfl h)) rfl ?_
 refine st (.mv (.t rfl)) rfl ?_
 refine stT rfl rfl (fun hg => have hg' := BP.t hg; OK1.fieldAddr (.t rfl) fld24_2 ty22) rfl ?_
 refine stT rfl rfl (fun hg => have hg' := BP.t hg; OK1.load1 (Has.g rfl hg) (i := 0) rfl ty22 rfl) rfl ?_
 refine stT rfl rfl (fun hg => have hg' := BP.t hg; OK1.mv (.t rfl)) rfl ?_
 refine stT rfl rfl (fun hg => have hg' := BP.t hg; OK1.call (ref10_Few) (.cons (Has.g rfl hg) (.cons (Has.cI 100 rfl) (.cons (Has.g rfl hg) .nil)))) rfl ?_
 refine st (.pickAnd (.t rfl) (fun h => Has.g rfl h)) rfl ?_
 refine st (.as (.t rfl)) rfl ?_
 refine nl (.thn (k2 _ _ ?_))
 refine .cv (Cv.wk (.k 6 rfl .nil)) ?_
 refine .ret ?_
 refine rt1 (.inl rfl) Try.results7 rfl (.tmp (Has.t' rfl ?_) .nil)
 all_goals (rfl)
end Go.Proofs.Ythkdmhaafanjlaa
namespace Go.Proofs.Ythkdmhaafanjlaa
open Go.En Go.RowKit
set_option maxRecDepth 10000
set_option maxHeartbeats 4000000
open Go.Nt
open Go.Pz
open Go.Mz
open Go.Hn
open Go.Hp
open Go.Tr
open Go.Dt
theorem law15_awakeX  : CtrX Try.prog 6 [] ([]) (fun S M => S = isB true) := by
 refine CtrX.intro Try.func6 rfl (by kernel_rfl) Try.ntmps6 rfl fun w0 F0 => ?_
 refine .cv (Cv.wk .nil) ?_
 have h1 : (List.length (words (1 : Int).natAbs)) ≤ 1 := nw_small' (by decide)
 refine .seq fun _ k1 => .region (st (.as (Has.cB false)) rfl ?_)
 refine nl (.thn (k1 _ _ ?_))
 refine .seq fun _ k2 => .region (st (.buildS [isI 0, isI 0, isI 0, isI 0, isI 0, isI 0] sl90 ty2 zero2 (fun _ _ => ⟨⟨rfl, by decide, by decide⟩, ⟨rfl, by decide, by decide⟩, ⟨rfl, by decide, by decide⟩, ⟨rfl, by decide, by decide⟩, ⟨rfl, by decide, by decide⟩, ⟨rfl, by decide, by decide⟩, trivial⟩) rfl rfl (.cons (Has.cI 2 rfl) rfl rfl rfl (.cons (Has.cI 0 rfl) rfl rfl rfl (.cons (Has.cI 0 rfl) rfl rfl rfl (.cons (Has.cI 3 rfl) rfl rfl rfl (.cons (Has.cI 1 rfl) rfl rfl rfl (.cons (Has.cI 1 rfl) rfl rfl rfl .nil)))))) rfl (S := SlM isI [_, _, _, _, _, _]) rfl) rfl ?_)
 refine st (.eq (.call (zmat_Of (R := 3) (C := 2) (l := [2, 0, 0, 3, 1, 1]) (by decide) (by decide) rfl (by decide)) (.cons (Has.cI 3 rfl) (.cons (Has.cI 2 rfl) (.cons (.t rfl) .nil)))) ((show isTup [isMz 3 2 _, isI 0] = isTup [isMz 3 2 [2, 0, 0, 3, 1, 1], isI 0] from by rw [aw15_tab]))) rfl ?_
 refine st (.mv (.t rfl)) rfl (st (.ext (.t rfl) rfl) rfl ?_)
 refine st (.ext (.t rfl) rfl) rfl ?_
 refine .alloc [isI 0, isI 0, nilS] zero24 (fun _ _ => ⟨⟨rfl, by decide, by decide⟩, ⟨rfl, by decide, by decide⟩, rfl, trivial⟩) rfl fun b1 => ?_
 refine .store (.t rfl) (.t rfl) (i := 0) rfl ty24 rfl rfl (Ss' := [_, _, _]) rfl (M' := [(some _, cellM [_, _, _])]) rfl ?_
 refine st (.as (.t rfl)) rfl ?_
 refine nl (.thn (k2 _ _ ?_))
 refine .cv (Cv.wk (.k 0 rfl (.k 1 rfl .nil))) ?_
 refine .seq fun _ k3 => .region (st (.load (.t rfl) (i := 0) rfl ty24 rfl (Ss' := [_, _, _]) rfl) rfl ?_)
 refine .callX (modhnf_Index (R := 3) (C := 2) (K := 1) (xs := [2, 0, 0, 3, 1, 1].map nz) (by rw [vals_nz]; exact aw15_b) (by decide) (by decide) (by decide) rfl (by decide) (by decide) (by rw [vals_nz]; exact aw15_p)) (List.Perm.refl _) (.cons (.t rfl) .nil) rfl ?_
 rintro _ _ ⟨b, rfl, rfl, hMB⟩
 rw [vals_nz] at hMB
 have hix := aw15 hMB
 refine st (.mv (.t rfl)) rfl (st (.eq (.ext (.t rfl) rfl) ((show _ = isZ 1 from isZ_eq (by rw [vals_nz, hix])))) rfl ?_)
 refine st (.ext (.t rfl) rfl) rfl ?_
 refine .alloc [isB false, SlM isU []] zero30 (fun _ _ => ⟨rfl, nilM _ _, trivial⟩) rfl fun b2 => ?_
 refine .store (.t rfl) (.t rfl) (i := 0) rfl ty30 rfl rfl (Ss' := [_, _]) rfl (M' := [(some _, cellM [_, _]), _]) rfl ?_
 refine st (.as (.t rfl)) rfl ?_
 refine nl (.thn (k3 _ _ ?_))
 refine .cv (Cv.wk (.k 0 rfl (.k 1 rfl (.k 3 rfl (.k 4 rfl .nil))))) ?_
 refine .seq fun _ k4 => .region (st (.load (.t rfl) (i := 1) rfl ty24 rfl (Ss' := [_, _, _]) rfl) rfl ?_)
 refine .callX (modhnf_Hermite (R := 3) (C := 2) (K := 1) (xs := [2, 0, 0, 3, 1, 1].map nz) (by rw [vals_nz]; exact aw15_b) (by decide) (by decide) (by decide) rfl (by decide) (by decide) (by rw [vals_nz]; exact aw15_p)) (List.Perm.refl _) (.cons (.t rfl) .nil) rfl ?_
 rintro _ _ ⟨b', rfl, rfl, hMB2⟩
 have hll : ((hmL b' 3 2 (vals ([2, 0, 0, 3, 1, 1].map nz))).map nz).length = 6 := by rw [List.length_map, hmL_len]
 refine st (.mv (.t rfl)) rfl (st (.ext (.t rfl) rfl) rfl ?_)
 refine st (.ext (.t rfl) rfl) rfl ?_
 refine .alloc [isI 0, isI 0, nilS] zero24 (fun _ _ => ⟨⟨rfl, by decide, by decide⟩, ⟨rfl, by decide, by decide⟩, rfl, trivial⟩) rfl fun b3 => ?_
 refine .store (.t rfl) (.t rfl) (i := 0) rfl ty24 rfl rfl (Ss' := [_, _, _]) rfl (M' := [(some _, cellM [_, _, _]), _, _]) rfl ?_
 refine st (.as (.t rfl)) rfl ?_
 refine nl (.thn (k4 _ _ ?_))
 refine .cv (Cv.wk (.k 0 rfl (.k 3 rfl (.k 4 rfl (.k 5 rfl (.k 6 rfl .nil)))))) ?_
 refine .seq fun _ k5 => ?_
 refine .dr ?_
 refine .s [] rfl rfl rfl (.o rfl (.mv (.t rfl))) ?_
 refine .s [22] rfl rfl rfl (.o rfl (.eqI (.t rfl) (Has.cI 0 rfl))) ?_
 refine .s [23] rfl rfl rfl (.o rfl (.mv (.t rfl))) ?_
 refine .s [24] rfl rfl rfl (.T rfl rfl rfl (fun hg => have hg' := BP.t hg; OK1.mv (.t rfl))) ?_
 refine .s [24, 25] rfl rfl rfl (.T rfl rfl rfl (fun hg => have hg' := BP.t hg; OK1.eqI (Has.g rfl hg) (Has.cI 0 rfl))) ?_
 refine .s [24, 26] rfl rfl rfl (.o rfl (.pickAnd (.t rfl) (fun h => Has.g rfl h))) ?_
 refine .s [27] rfl rfl rfl (.o rfl (.mv (.t rfl))) ?_
 refine .s [28] rfl rfl rfl (.T rfl rfl rfl (fun hg => have hg' := BP.t hg; OK1.load (.t rfl) (i := 1) rfl ty30 rfl (Ss' := [_, _]) rfl)) ?_
 refine .s [28] rfl rfl rfl (.T rfl rfl rfl (fun hg => have hg' := BP.t hg; OK1.call (zint_Of) (.cons (Has.cI 1 rfl) .nil))) ?_
 refine .fin (n := 9) mixed (by kernel_rfl) (by kernel_rfl) (by kernel_rfl) ?_
 refine .cv (Cv.wk (.k 0 rfl (.k 5 rfl (.k 28 rfl (.k 29 rfl (.k 30 rfl .nil)))))) ?_
 refine stT rfl rfl (fun hg => have hg' := BP.t hg; OK1.eq (.call (zint_Same (by rw [val_words]; omega) (by rw [val_words]; omega)) (.cons (Has.g rfl hg) (.cons (Has.g rfl hg) .nil))) ((show isB _ = isB true from isB_eq (decide_eq_true (by simp only [zv_nf]))))) rfl ?_
 refine st (.pickAnd (.t rfl) (fun h => Has.g rfl h)) rfl ?_
 refine st (.mv (.t rfl)) rfl ?_
 refine stT rfl rfl (fun hg => have hg' := BP.t hg; OK1.fieldAddr (.t rfl) fld24_0 ty3) rfl ?_
 refine stT rfl rfl (fun hg => have hg' := BP.t hg; OK1.load1 (Has.g rfl hg) (i := 0) rfl ty3 rfl) rfl ?_
 refine stT rfl rfl (fun hg => have hg' := BP.t hg; OK1.eqI (Has.g rfl hg) (Has.cI 3 rfl)) rfl ?_
 refine st (.pickAnd (.t rfl) (fun h => Has.g rfl h)) rfl ?_
 refine st (.mv (.t rfl)) rfl ?_
 refine stT rfl rfl (fun hg => have hg' := BP.t hg; OK1.fieldAddr (.t rfl) fld24_2 ty22) rfl ?_
 refine stT rfl rfl (fun hg => have hg' := BP.t hg; OK1.load1 (Has.g rfl hg) (i := 0) rfl ty22 rfl) rfl ?_
 refine stT rfl rfl (fun hg => have hg' := BP.t hg; OK1.len sl22 (Has.g rfl hg)) rfl ?_
 refine stT rfl rfl (fun hg => have hg' := BP.t hg; OK1.eqI (Has.g rfl hg) (Has.cI 6 rfl)) rfl ?_
 refine st (.pickAnd (.t rfl) (fun h => Has.g rfl h)) rfl ?_
 refine st (.as (.t rfl)) rfl ?_
 refine nl (.thn (k5 _ _ ?_))
 refine .cv (Cv.wk (.k 0 rfl .nil)) ?_
 refine .ret ?_
 refine rtX1 (.inl rfl) Try.results6 rfl (.tmp (.t rfl) .nil) ?_
 exact isB_eq (by rw [hll]; rfl)
theorem law15_awake : Ctr Try.prog 6 [] (isB true) := law15_awakeX.toCtr fun S' M' hh => hh
end Go.Proofs.Ythkdmhaafanjlaa
namespace Go.Proofs.Ythkdmhaafanjlaa
open Go.En Go.RowKit
set_option maxRecDepth 10000
set_option maxHeartbeats 4000000
open Go.Nt
open Go.Pz
open Go.Mz
open Go.Hn
theorem hnf_begun {R C K : Nat} {xs : List (Bool × List Nat)} (hx : Bd (vals xs) K) (hK : K ≤ 4000000000) (hR : R ≤ 64) (hC : C ≤ 64) (hl : xs.length = R * C) : CtrX Try.prog 78 [isM (R : Int) (C : Int) xs] ([]) (fun S M => ∃ bw gt, S = isPtr bw 0 ∧ M = hwM bw gt (rows0 C R (vals xs) R) C 0) := by
 refine CtrX.intro Try.func78 rfl (by kernel_rfl) Try.ntmps78 rfl fun w0 F0 => ?_
 refine .cv (Cv.wk (.k 0 rfl .nil)) ?_
 refine .seq fun _ k1 => .region (.box (.t rfl) rfl fun b1 => ?_)
 refine st (.as Has.cP) rfl ?_
 refine nl (.thn (k1 _ _ ?_))
 refine .seq fun _ k2 => .region (st (.fieldAddr (.t rfl) fld24_1 ty3) rfl ?_)
 refine st (.load1 (.t rfl) (i := 0) rfl ty3 rfl) rfl (st (.build [nilS, isI 0, isI 0] pl108 zero108 (fun _ _ => ⟨rfl, ⟨rfl, by decide, by decide⟩, ⟨rfl, by decide, by decide⟩, trivial⟩) (.cons (.t rfl) rfl rfl rfl .nil) (Z'' := [_, _, _]) rfl) rfl ?_)
 refine .box (.t rfl) rfl fun b2 => ?_
 refine st (.as (.t rfl)) rfl ?_
 refine nl (.thn (k2 _ _ ?_))
 refine .cv (Cv.wk (.k 1 rfl (.k 2 rfl (.k 3 rfl .nil)))) ?_
 refine .seq fun _ k3 => ?_
 refine .seq fun _ k4 => ?_
 refine .cv (Cv.growF (List Int) (i := 0) (o := 0) rfl rfl rfl) ?_
 refine .memEq (M' := [grM isP Gr.nil [], _, _]) rfl ?_
 refine .region (st (.fieldAddr (.t rfl) fld24_0 ty3) rfl ?_)
 refine st (.load1 (.t rfl) (i := 2) rfl ty3 rfl) rfl (st (.mv (Has.cI 0 rfl)) rfl ?_)
 refine nl (.thn (k4 _ _ ?_))
 refine .block ?_
 refine .loopF [1, 2, 3, 12] (fun (z : { z : Nat × Gr (List Int) // z.1 ≤ R }) => match z with | ⟨(i, gt), hI⟩ => [(13, isI (i : Int))]) (fun M => fun (z : { z : Nat × Gr (List Int) // z.1 ≤ R }) => match z with | ⟨(i, gt), hI⟩ => (grM isP gt (rows0 C R (vals xs) i) :: (some b2, cellM [isGr gt (rows0 C R (vals xs) i).length, isI (C : Int), isI 0]) :: (some b1, cellM [isI (R : Int), isI (C : Int), SlK 2 zc xs]) :: [])) (fun (z : { z : Nat × Gr (List Int) // z.1 ≤ R }) => match z with | ⟨(i, gt), hI⟩ => R - i) (⟨(0, Gr.nil), Nat.zero_le _⟩) (Cv.mem (.cons (t := 13) (Has.t' rfl ?_) (.k 1 rfl (.k 2 rfl (.k 3 rfl (.k 12 rfl .nil))))) ?_) ?_
 ·rfl
 ·rfl
 rintro ⟨⟨i, gt⟩, hI⟩ K5 hK5
 refine .cv (Cv.wk (.k 13 rfl (.k 1 rfl (.k 2 rfl (.k 3 rfl (.k 12 rfl .nil)))))) ?_
 refine .memEq (M' := (grM isP gt (rows0 C R (vals xs) i) :: (some b2, cellM [isGr gt (rows0 C R (vals xs) i).length, isI (C : Int), isI 0]) :: (some b1, cellM [isI (R : Int), isI (C : Int), SlK 2 zc xs]) :: [])) rfl ?_
 simp only [] at hI
 have hrl := rows0_len C R (vals xs) i
 refine .seq fun _ k6 => .region (st (.ltI (.t rfl) (.t rfl)) rfl ?_)
 refine nl (.thn (k6 _ _ ?_))
 refine .seq fun _ k7 => ?_
 refine .cond (.t rfl) (fun hc1 => ?_) (fun hc1 => ?_)
 ·have hc1 := BP.t hc1
  refine .skip ?_
  refine .thn (k7 _ _ ?_)
  refine .seq fun _ k8 => ?_
  refine .block ?_
  refine .seq fun _ k9 => .region (st (.mv (.t rfl)) rfl ?_)
  refine st (.as (.t rfl)) rfl ?_
  refine nl (.thn (k9 _ _ ?_))
  refine .seq fun _ k10 => .region (st (.fieldAddr (.t rfl) fld24_1 ty3) rfl ?_)
  refine st (.load1 (.t rfl) (i := 2) rfl ty3 rfl) rfl (st (.fieldAddr (.t rfl) fld24_0 ty3) rfl ?_)
  refine st (.load1 (.t rfl) (i := 2) rfl ty3 rfl) rfl (st (.eq (.addI (.t rfl) (.t rfl) (by first | omega | assumption) (by first | omega | assumption)) ((show isI _ = isI ((C + R : Nat) : Int) from isI_eq (by omega)))) rfl ?_)
  refine .makeK (fk := zc) (u := (false, [])) (n := (C + R)) (c := (C + R)) sl22 ty30 zero30 (fun _ _ => ⟨rfl, nilM _ _, trivial⟩) zc_len by30 (Has.t' rfl rfl) (Has.t' rfl rfl) ⟨by omega, by omega⟩ rfl fun b3 => ?_
  refine st (.as (.t rfl)) rfl ?_
  refine nl (.thn (k10 _ _ ?_))
  refine .seq fun _ k11 => ?_
  refine .seq fun _ k12 => .region (st (.fieldAddr (.t rfl) fld24_1 ty3) rfl ?_)
  refine st (.load1 (.t rfl) (i := 3) rfl ty3 rfl) rfl (st (.mv (Has.cI 0 rfl)) rfl ?_)
  refine nl (.thn (k12 _ _ ?_))
  refine .block ?_
  refine .loopF [1, 2, 3, 12, 13, 14, 15, 4, 16, 17, 18, 19, 20, 21, 5, 22, 23] (fun (z : { k : Nat // k ≤ C }) => match z with | ⟨k, hk⟩ => [(24, isI (k : Int))]) (fun M => fun (z : { k : Nat // k ≤ C }) => match z with | ⟨k, hk⟩ => ((some b3, cellM ((fill ((row0 C R (vals xs) i).map nz) k (false, [])).flatMap zc)) :: grM isP gt (rows0 C R (vals xs) i) :: (some b2, cellM [isGr gt (rows0 C R (vals xs) i).length, isI (C : Int), isI 0]) :: (some b1, cellM [isI (R : Int), isI (C : Int), SlK 2 zc xs]) :: [])) (fun (z : { k : Nat // k ≤ C }) => match z with | ⟨k, hk⟩ => C - k) (⟨0, Nat.zero_le _⟩) (Cv.mem (.cons (t := 24) (Has.t' rfl ?_) (.k 1 rfl (.k 2 rfl (.k 3 rfl (.k 12 rfl (.k 13 rfl (.k 14 rfl (.k 15 rfl (.k 4 rfl (.k 16 rfl (.k 17 rfl (.k 18 rfl (.k 19 rfl (.k 20 rfl (.k 21 rfl (.k 5 rfl (.k 22 rfl (.k 23 rfl .nil)))))))))))))))))) ?_) ?_
  ·rfl
  ·exact memZ_eq (by rw [fill_zero, List.length_map, row0_len])
  rintro ⟨k, hk⟩ K13 hK13
  refine .cv (Cv.wk (.k 24 rfl (.k 1 rfl (.k 2 rfl (.k 3 rfl (.k 12 rfl (.k 13 rfl (.k 14 rfl (.k 15 rfl (.k 4 rfl (.k 16 rfl (.k 17 rfl (.k 18 rfl (.k 19 rfl (.k 20 rfl (.k 21 rfl (.k 5 rfl (.k 22 rfl (.k 23 rfl .nil))))))))))))))))))) ?_
  refine .memEq (M' := ((some b3, cellM ((fill ((row0 C R (vals xs) i).map nz) k (false, [])).flatMap zc)) :: grM isP gt (rows0 C R (vals xs) i) :: (some b2, cellM [isGr gt (rows0 C R (vals xs) i).length, isI (C : Int), isI 0]) :: (some b1, cellM [isI (R : Int), isI (C : Int), SlK 2 zc xs]) :: [])) rfl ?_
  have hf := fill_len ((row0 C R (vals xs) i).map nz) k (false, []) (by rw [List.length_map, row0_len]; omega)
  rw [List.length_map, row0_len] at hf
  refine .seq fun _ k14 => .region (st (.ltI (.t rfl) (.t rfl)) rfl ?_)
  refine nl (.thn (k14 _ _ ?_))
  refine .seq fun _ k15 => ?_
  refine .cond (.t rfl) (fun hc2 => ?_) (fun hc2 => ?_)
  ·have hc2 := BP.t hc2
   refine .skip ?_
   refine .thn (k15 _ _ ?_)
   refine .seq fun _ k16 => ?_
   refine .block ?_
   refine .seq fun _ k17 => .region (st (.mv (.t rfl)) rfl ?_)
   refine st (.as (.t rfl)) rfl ?_
   refine nl (.thn (k17 _ _ ?_))
   refine .region (st (.mv (.t rfl)) rfl ?_)
   refine st (.mv (.t rfl)) rfl (st (.load (.t rfl) (i := 3) rfl ty24 rfl (Ss' := [_, _, _]) rfl) rfl ?_)
   refine st (.mv (.t rfl)) rfl (st (.mv (.t rfl)) rfl ?_)
   refine st (.call (zmat_At hx hK hR hC hl (i := i) (k := k) (by omega) (by omega)) (.cons (.t rfl) (.cons (.t rfl) (.cons (.t rfl) .nil)))) rfl ?_
   refine st (.eq (.ixWin sl22 ty30 (.t rfl) (.t rfl) ⟨by omega, by omega⟩) (isPtr_eq (by first | exact ixo0 | exact ixo2 | exact ixo1))) rfl ?_
   refine .storeK (z := nz (cf (vals xs) (i * C + k))) zc_len (.t rfl) (.t rfl) (i := 0) rfl ty30 (by simp only [Int.toNat_natCast]; omega) (M' := [(_, _), _, _, _]) rfl ?_
   refine nl ?_
   refine .bln ?_
   refine .thn (k16 _ _ ?_)
   refine .region (st (.addI (.t rfl) (Has.cI 1 rfl) (by first | omega | assumption) (by first | omega | assumption)) rfl ?_)
   refine st (.mv (.t rfl)) rfl ?_
   refine nl ?_
   refine .thn ?_
   refine hK13 (⟨k + 1, by omega⟩) _ _ ?_ (Cv.mem (.cons (t := 24) (Has.t' rfl ?_) (.k 1 rfl (.k 2 rfl (.k 3 rfl (.k 12 rfl (.k 13 rfl (.k 14 rfl (.k 15 rfl (.k 4 rfl (.k 16 rfl (.k 17 rfl (.k 18 rfl (.k 19 rfl (.k 20 rfl (.k 21 rfl (.k 5 rfl (.k 22 rfl (.k 23 rfl .nil)))))))))))))))))) ?_)
   ·show C - (k + 1) < C - k; omega
   ·exact isI_eq (by omega)
   ·exact memF_eq (row0_at (by omega))
  ·have hc2 := BP.f hc2
   refine .exit ?_
   refine .the ?_
   refine .the ?_
   refine .blh ?_
   refine .thn (k11 _ _ ?_)
   refine .seq fun _ k18 => ?_
   refine .dr ?_
   refine .s [] rfl rfl rfl (.o rfl (.mv (.t rfl))) ?_
   refine .s [] rfl rfl rfl (.o rfl (.fieldAddr (.t rfl) fld24_1 ty3)) ?_
   refine .s [36] rfl rfl rfl (.o rfl (.load1 (.t rfl) (i := 3) rfl ty3 rfl)) ?_
   refine .s [] rfl rfl rfl (.o rfl (.mv (.t rfl))) ?_
   refine .s [37, 38] rfl rfl rfl (.o rfl (.eq (.addI (.t rfl) (.t rfl) (by first | omega | assumption) (by first | omega | assumption)) ((show isI _ = isI ((C + i : Nat) : Int) from isI_eq (by omega))))) ?_
   refine .s [] rfl rfl rfl (.o rfl (.eq (.call (zint_Of) (.cons (Has.cI 1 rfl) .nil)) ((show isZ 1 = Flat (zc (nz 1)) from rfl)))) ?_
   refine .fin (n := 6) mixed (by kernel_rfl) (by kernel_rfl) (by kernel_rfl) ?_
   refine .cv (Cv.wk (.k 1 rfl (.k 2 rfl (.k 3 rfl (.k 12 rfl (.k 13 rfl (.k 14 rfl (.k 15 rfl (.k 4 rfl (.k 16 rfl (.k 17 rfl (.k 18 rfl (.k 19 rfl (.k 20 rfl (.k 21 rfl (.k 5 rfl (.k 22 rfl (.k 23 rfl (.k 24 rfl (.k 25 rfl (.k 35 rfl (.k 36 rfl (.k 37 rfl (.k 38 rfl (.k 39 rfl (.k 40 rfl .nil)))))))))))))))))))))))))) ?_
   refine st (.eq (.ixWin sl22 ty30 (.t rfl) (.t rfl) ⟨by omega, by omega⟩) (isPtr_eq (by first | exact ixo0 | exact ixo2 | exact ixo1))) rfl ?_
   refine .storeK (z := nz 1) zc_len (.t rfl) (.t rfl) (i := 0) rfl ty30 (by simp only [Int.toNat_natCast]; omega) (M' := [(_, _), _, _, _]) rfl ?_
   refine nl (.thn (k18 _ _ ?_))
   refine .cv (Cv.freezeK (t := 5) (i := 0) (ys := (row0 C R (vals xs) i).map nz) zc_len rfl rfl rfl (by rw [List.length_set]; omega) (row0_fill (by omega) (by omega) rfl)) ?_
   refine .memEq (M' := [_, _, _]) rfl ?_
   refine .cv (Cv.wk (.k 1 rfl (.k 2 rfl (.k 3 rfl (.k 12 rfl (.k 13 rfl (.k 14 rfl (.k 15 rfl (.k 4 rfl (.k 16 rfl (.k 17 rfl (.k 18 rfl (.k 19 rfl (.k 20 rfl (.k 5 rfl (.k 22 rfl (.k 23 rfl (.k 24 rfl (.k 25 rfl (.k 36 rfl (.k 37 rfl (.k 38 rfl (.k 39 rfl (.k 40 rfl .nil)))))))))))))))))))))))) ?_
   refine .region (st (.mv (.t rfl)) rfl ?_)
   refine st (.mv (.t rfl)) rfl (st (.nilc (.t rfl)) rfl ?_)
   refine st (.fieldAddr (.t rfl) fld108_0 ty59) rfl (st (.load1 (.t rfl) (i := 1) rfl ty59 rfl) rfl ?_)
   refine st (.mv (.t rfl)) rfl (st (.buildS [nilS] sl59 ty22 zero22 (fun _ _ => ⟨rfl, trivial⟩) rfl rfl (.cons (.t rfl) rfl rfl rfl .nil) rfl (S := SlM isP [row0 C R (vals xs) i]) rfl) rfl ?_)
   refine .appendG (f := isP) (u := ([] : List Int)) sl59 ty22 zero22 (fun _ _ => ⟨nilK, trivial⟩) (fun _ => inferInstance) by22 (.t rfl) (i := 0) rfl (.t rfl) (by rw [hrl]; show i + 1 ≤ _; omega) (by simp) rfl fun gr1 => ?_
   refine .memEq (M' := [grM _ _ _, _, _]) rfl ?_
   refine st (.nilc (.t rfl)) rfl ?_
   refine st (.fieldAddr (.t rfl) fld108_0 ty59) rfl ?_
   refine .store (.t rfl) (.t rfl) (i := 1) rfl ty59 rfl rfl (Ss' := [_, _, _]) rfl (M' := [_, (some _, cellM [_, _, _]), _]) rfl ?_
   refine nl ?_
   refine .bln ?_
   refine .thn (k8 _ _ ?_)
   refine .region (st (.addI (.t rfl) (Has.cI 1 rfl) (by first | omega | assumption) (by first | omega | assumption)) rfl ?_)
   refine st (.mv (.t rfl)) rfl ?_
   refine nl ?_
   refine .thn ?_
   refine hK5 (⟨(i + 1, gr1), by show i + 1 ≤ R; omega⟩) _ _ ?_ (Cv.mem (.cons (t := 13) (Has.t' rfl ?_) (.k 1 rfl (.k 2 rfl (.k 3 rfl (.k 12 rfl .nil))))) ?_)
   ·show R - (i + 1) < R - i; omega
   ·exact isI_eq (by omega)
   ·show _ = ([grM isP gr1 (rows0 C R (vals xs) (i + 1)), (some b2, cellM [isGr gr1 (rows0 C R (vals xs) (i + 1)).length, isI (C : Int), isI 0]), _] : Mem); rw [← rows0_succ, List.length_append]
 ·have hc1 := BP.f hc1
  refine .exit ?_
  refine .the ?_
  refine .the ?_
  refine .blh ?_
  refine .thn (k3 _ _ ?_)
  refine .seq fun _ k19 => ?_
  refine .cv (Cv.drop ((.cons_cons _ (.cons_cons _ (.cons _ .slnil))))) ?_
  refine .cv (Cv.wk (.k 2 rfl (.k 3 rfl (.k 12 rfl (.k 13 rfl (.k 14 rfl .nil)))))) ?_
  refine .cv (Cv.perm (List.Perm.swap _ _ _)) ?_
  refine .region (st (.mv (.t rfl)) rfl ?_)
  refine st (.as (.t rfl)) rfl ?_
  refine nl (.thn (k19 _ _ ?_))
  refine .cv (Cv.wk (.k 2 rfl .nil)) ?_
  refine .ret ?_
  refine rtX1 (.inl rfl) Try.results78 rfl (.tmp (.t rfl) .nil) ?_
  exact ⟨b2, gt, rfl, by obtain rfl : i = R := (by omega); rfl⟩
theorem hnf_join {bw C : Nat} {gt : Gr (List Int)} {rs : List (List Int)} {t i col W P K : Nat} (hrow : ∀ r ∈ rs, r.length = W) (hti : t < i) (hi : i < rs.length) (hc : col < W) (hW : W ≤ 128) (hR : rs.length ≤ 64) (hpB : ∀ r ∈ rs, Bd r P) (hqB : Bd (rs.getD i []) K) (hPK : P + K ≤ 90000000) : CtrX Try.prog 103 [isPtr bw 0, isI (i : Int), isI (col : Int)] (hwM bw gt rs C t) (fun S M => S = isTup [] ∧ M = hwM bw gt (jn rs t i col) C t) := by
 refine CtrX.intro Try.func103 rfl (by kernel_rfl) Try.ntmps103 rfl fun w0 F0 => ?_
 refine .cv (Cv.wk (.k 0 rfl (.k 1 rfl (.k 2 rfl .nil)))) ?_
 refine .fact (Has.rngI (Has.t (t := 1) rfl)) fun lt1 => ?_
 refine .fact (Has.rngI (Has.t (t := 2) rfl)) fun lt2 => ?_
 obtain ⟨p, hp⟩ : ∃ p, rs[t]? = some p := ⟨_, List.getElem?_eq_getElem (by omega)⟩
 obtain ⟨q, hq⟩ : ∃ q, rs[i]? = some q := ⟨_, List.getElem?_eq_getElem hi⟩
 have hpl := hrow p (List.mem_of_getElem? hp)
 have hql := hrow q (List.mem_of_getElem? hq)
 rw [getD_of hq] at hqB
 have hpP := hpB p (List.mem_of_getElem? hp)
 have hpc := hpP col
 have hqc := hqB col
 have hxn := xgx_nw (cf p col) (cf q col) hqc
 have hyn := xgy_nw (cf p col) (cf q col) hpc
 have hgn : (List.length (words (xgg (cf p col) (cf q col)).natAbs)) ≤ P + K := by
  unfold xgg
  rw [Int.natAbs_natCast]
  refine Nat.le_trans (nw_mono (gcd_le_max _ _)) ?_
  have := nw_max (cf p col).natAbs (cf q col).natAbs
  omega
 have hun := nz_tdiv (cf p col) (xgg (cf p col) (cf q col))
 have hvn := nz_tdiv (cf q col) (xgg (cf p col) (cf q col))
 refine .seq fun _ k1 => ?_
 refine .dr ?_
 refine .s [] rfl rfl rfl (.o rfl (.mv (.t rfl))) ?_
 refine .s [15] rfl rfl rfl (.o rfl (.nilc (.t rfl))) ?_
 refine .s [16] rfl rfl rfl (.o rfl (.fieldAddr (.t rfl) fld108_0 ty59)) ?_
 refine .s [17] rfl rfl rfl (.o rfl (.load1 (.t rfl) (i := 0) rfl ty59 rfl)) ?_
 refine .s [] rfl rfl rfl (.o rfl (.mv (.t rfl))) ?_
 refine .s [19] rfl rfl rfl (.o rfl (.nilc (.t rfl))) ?_
 refine .s [20] rfl rfl rfl (.o rfl (.fieldAddr (.t rfl) fld108_2 ty3)) ?_
 refine .s [21] rfl rfl rfl (.o rfl (.load1 (.t rfl) (i := 0) rfl ty3 rfl)) ?_
 refine .s [18, 22] rfl rfl rfl (.o rfl (.ixGr sl59 ty22 (.t rfl) (.t rfl) ⟨by omega, by omega⟩)) ?_
 refine .s [23] rfl rfl rfl (.o rfl (.loadGM (.t rfl) (i := 1) rfl ty22 hp)) ?_
 refine .s [] rfl rfl rfl (.o rfl (.mv (.t rfl))) ?_
 refine .s [25] rfl rfl rfl (.o rfl (.nilc (.t rfl))) ?_
 refine .s [26] rfl rfl rfl (.o rfl (.fieldAddr (.t rfl) fld108_0 ty59)) ?_
 refine .s [27] rfl rfl rfl (.o rfl (.load1 (.t rfl) (i := 0) rfl ty59 rfl)) ?_
 refine .s [] rfl rfl rfl (.o rfl (.mv (.t rfl))) ?_
 refine .s [28, 29] rfl rfl rfl (.o rfl (.ixGr sl59 ty22 (.t rfl) (.t rfl) ⟨by omega, by omega⟩)) ?_
 refine .s [30] rfl rfl rfl (.o rfl (.loadGM (.t rfl) (i := 1) rfl ty22 hq)) ?_
 refine .s [24] rfl rfl rfl (.o rfl (.as (.t rfl))) ?_
 refine .fin (n := 18) mixed (by kernel_rfl) (by kernel_rfl) (by kernel_rfl) ?_
 refine .cv (Cv.wk (.k 0 rfl (.k 1 rfl (.k 2 rfl (.k 31 rfl (.k 6 rfl .nil)))))) ?_
 refine st (.as (.t rfl)) rfl ?_
 refine nl (.thn (k1 _ _ ?_))
 refine .seq fun _ k2 => ?_
 refine .drh [true, true] (Ms := [_, _]) rfl ?_
 refine .s [] rfl rfl rfl (.o rfl (.mv (.t rfl))) ?_
 refine .s [] rfl rfl rfl (.o rfl (.mv (.t rfl))) ?_
 refine .s [33, 34] rfl rfl rfl (.o rfl (.ixK sl22 ty30 (.t rfl) (.t rfl) zc_len ⟨by omega, by rw [List.length_map]; omega⟩ (getZ (i := col) (by omega)))) ?_
 refine .s [35] rfl rfl rfl (.o rfl (.loadP (.t rfl) ty30 rfl (Ss' := [_, _]) rfl)) ?_
 refine .s [] rfl rfl rfl (.o rfl (.mv (.t rfl))) ?_
 refine .s [] rfl rfl rfl (.o rfl (.mv (.t rfl))) ?_
 refine .s [37, 38] rfl rfl rfl (.o rfl (.ixK sl22 ty30 (.t rfl) (.t rfl) zc_len ⟨by omega, by rw [List.length_map]; omega⟩ (getZ (i := col) (by omega)))) ?_
 refine .s [39] rfl rfl rfl (.o rfl (.loadP (.t rfl) ty30 rfl (Ss' := [_, _]) rfl)) ?_
 refine .s [36, 40] rfl rfl rfl (.o rfl (.eq (.call (zint_XgcdA (by rw [val_words]; omega) (by rw [val_words]; omega)) (.cons (.t rfl) (.cons (.t rfl) .nil))) ((show _ = isTup [isZ (xgg (cf p col) (cf q col)), isZ (xgx (cf p col) (cf q col)), isZ (xgy (cf p col) (cf q col))] from by simp only [zv_nz, zv_nf])))) ?_
 refine .s [41] rfl rfl rfl (.o rfl (.mv (.t rfl))) ?_
 refine .s [32] rfl rfl rfl (.o rfl (.ext (.t rfl) rfl)) ?_
 refine .s [32] rfl rfl rfl (.o rfl (.ext (.t rfl) rfl)) ?_
 refine .s [32] rfl rfl rfl (.o rfl (.ext (.t rfl) rfl)) ?_
 refine .als (n1 := 16) (ds := [8, 9, 10]) (zs := [[isB false, SlM isU []], [isB false, SlM isU []], [isB false, SlM isU []]]) rfl (.cons rfl rfl zero30 (fun _ _ => ⟨rfl, nilM _ _, trivial⟩) (.cons rfl rfl zero30 (fun _ _ => ⟨rfl, nilM _ _, trivial⟩) (.cons rfl rfl zero30 (fun _ _ => ⟨rfl, nilM _ _, trivial⟩) .nil))) (.cons_cons _ (.cons_cons _ .slnil)) (Cs := [_, _, _]) rfl ?_
 refine .new [42] 0 (Ss' := [_, _]) (Cs' := [cellM [_, _], _, _]) rfl (by kernel_rfl) (by kernel_rfl) rfl rfl rfl (by kernel_rfl) rfl (.t rfl) ty30 rfl rfl rfl rfl ?_
 refine .new [43] 1 (Ss' := [_, _]) (Cs' := [_, cellM [_, _], _]) rfl (by kernel_rfl) (by kernel_rfl) rfl rfl rfl (by kernel_rfl) rfl (.t rfl) ty30 rfl rfl rfl rfl ?_
 refine .fin (n := 18) mixed rfl (by kernel_rfl) (by kernel_rfl) (by kernel_rfl) (fun bs hbs => ?_)
 obtain ⟨b1, b2, b3, rfl⟩ := len3 hbs
 refine .memEq (M' := [_, _, _, _, _]) rfl ?_
 refine .cv (Cv.wk (.k 0 rfl (.k 1 rfl (.k 2 rfl (.k 6 rfl (.k 7 rfl (.k 44 rfl (.cons (t := 8) (Has.op rfl) (.cons (t := 9) (Has.op rfl) (.cons (t := 10) (Has.op rfl) .nil)))))))))) ?_
 refine .store (.t rfl) (.t rfl) (i := 2) rfl ty30 rfl rfl (Ss' := [_, _]) rfl (M' := [_, _, (some _, cellM [_, _]), _, _]) rfl ?_
 refine nl (.thn (k2 _ _ ?_))
 refine .seq fun _ k3 => ?_
 refine .seq fun _ k4 => .region (st (.load (.t rfl) (i := 0) rfl ty30 rfl (Ss' := [_, _]) rfl) rfl ?_)
 refine st (.eq (.call (zint_Sign (by rw [val_words]; omega)) (.cons (.t rfl) .nil)) ((show _ = isI (sgn (xgg (cf p col) (cf q col))) from by rw [zv_nf]))) rfl ?_
 refine st (.eqI (.t rfl) (Has.cI 0 rfl)) rfl ?_
 refine nl (.thn (k4 _ _ ?_))
 refine .cond (.t rfl) (fun hc1 => ?_) (fun hc1 => ?_)
 ·have hc1 := BP.t hc1
  have hg0 := (sgn_eq0 _).1 hc1
  refine .ret ?_
  refine .thr ?_
  refine rtX0D (.cons _ (.cons _ (.cons _ (.cons_cons _ (.cons_cons _ .slnil))))) (.inl rfl) Try.results103 rfl ?_
  exact ⟨rfl, hwM_eq (jn_no hp hq hg0).symm (by rw [jn_len])⟩
 ·have hc1 := BP.f hc1
  have hg0 : ¬ (xgg (cf p col) (cf q col)) = 0 := fun e => hc1 ((sgn_eq0 _).2 e)
  refine .skip ?_
  refine .thn (k3 _ _ ?_)
  refine .seq fun _ k5 => ?_
  refine .drh [true, true, true, true, true] (Ms := [_, _, _, _, _]) rfl ?_
  refine .s [] rfl rfl rfl (.o rfl (.mv (.t rfl))) ?_
  refine .s [] rfl rfl rfl (.o rfl (.mv (.t rfl))) ?_
  refine .s [49, 50] rfl rfl rfl (.o rfl (.ixK sl22 ty30 (.t rfl) (.t rfl) zc_len ⟨by omega, by rw [List.length_map]; omega⟩ (getZ (i := col) (by omega)))) ?_
  refine .s [51] rfl rfl rfl (.o rfl (.loadP (.t rfl) ty30 rfl (Ss' := [_, _]) rfl)) ?_
  refine .s [] rfl rfl rfl (.o rfl (.load (.t rfl) (i := 0) rfl ty30 rfl (Ss' := [_, _]) rfl)) ?_
  refine .s [52, 53] rfl rfl rfl (.o rfl (.call (zint_Exact (by rw [val_words]; omega) (by rw [val_words]; omega)) (.cons (.t rfl) (.cons (.t rfl) .nil)))) ?_
  refine .s [54] rfl rfl rfl (.o rfl (.mv (.t rfl))) ?_
  refine .s [48] rfl rfl rfl (.o rfl (.eq (.ext (.t rfl) rfl) ((show _ = isZ ((cf p col).tdiv (xgg (cf p col) (cf q col))) from isZ_eq (by simp only [zv_nz, zv_nf]; exact if_pos ⟨hg0, Int.tmod_eq_zero_of_dvd (xgg_left _ _)⟩))))) ?_
  refine .s [48] rfl rfl rfl (.o rfl (.ext (.t rfl) rfl)) ?_
  refine .als (n1 := 10) (ds := [11]) (zs := [[isB false, SlM isU []]]) rfl (.cons rfl rfl zero30 (fun _ _ => ⟨rfl, nilM _ _, trivial⟩) .nil) (.cons_cons _ (.cons_cons _ (.cons_cons _ (.cons_cons _ (.cons_cons _ .slnil))))) (Cs := [_]) rfl ?_
  refine .new [55] 0 (Ss' := [_, _]) (Cs' := [cellM [_, _]]) rfl (by kernel_rfl) (by kernel_rfl) rfl rfl rfl (by kernel_rfl) rfl (.t rfl) ty30 rfl rfl rfl rfl ?_
  refine .fin (n := 11) mixed rfl (by kernel_rfl) (by kernel_rfl) (by kernel_rfl) (fun bs hbs => ?_)
  obtain ⟨b4, rfl⟩ := len1 hbs
  refine .memEq (M' := [_, _, _, _, _, _]) rfl ?_
  refine .cv (Cv.wk (.k 0 rfl (.k 1 rfl (.k 2 rfl (.k 6 rfl (.k 7 rfl (.k 8 rfl (.k 9 rfl (.k 10 rfl (.k 56 rfl (.cons (t := 11) (Has.op rfl) .nil))))))))))) ?_
  refine st (.as (.t rfl)) rfl ?_
  refine nl (.thn (k5 _ _ ?_))
  refine .seq fun _ k6 => ?_
  refine .drh [true, true, true, true, true, true] (Ms := [_, _, _, _, _, _]) rfl ?_
  refine .s [] rfl rfl rfl (.o rfl (.mv (.t rfl))) ?_
  refine .s [] rfl rfl rfl (.o rfl (.mv (.t rfl))) ?_
  refine .s [58, 59] rfl rfl rfl (.o rfl (.ixK sl22 ty30 (.t rfl) (.t rfl) zc_len ⟨by omega, by rw [List.length_map]; omega⟩ (getZ (i := col) (by omega)))) ?_
  refine .s [60] rfl rfl rfl (.o rfl (.loadP (.t rfl) ty30 rfl (Ss' := [_, _]) rfl)) ?_
  refine .s [] rfl rfl rfl (.o rfl (.load (.t rfl) (i := 1) rfl ty30 rfl (Ss' := [_, _]) rfl)) ?_
  refine .s [61, 62] rfl rfl rfl (.o rfl (.call (zint_Exact (by rw [val_words]; omega) (by rw [val_words]; omega)) (.cons (.t rfl) (.cons (.t rfl) .nil)))) ?_
  refine .s [63] rfl rfl rfl (.o rfl (.mv (.t rfl))) ?_
  refine .s [57] rfl rfl rfl (.o rfl (.eq (.ext (.t rfl) rfl) ((show _ = isZ ((cf q col).tdiv (xgg (cf p col) (cf q col))) from isZ_eq (by simp only [zv_nz, zv_nf]; exact if_pos ⟨hg0, Int.tmod_eq_zero_of_dvd (xgg_right _ _)⟩))))) ?_
  refine .s [57] rfl rfl rfl (.o rfl (.ext (.t rfl) rfl)) ?_
  refine .als (n1 := 10) (ds := [13]) (zs := [[isB false, SlM isU []]]) rfl (.cons rfl rfl zero30 (fun _ _ => ⟨rfl, nilM _ _, trivial⟩) .nil) (.cons_cons _ (.cons_cons _ (.cons_cons _ (.cons_cons _ (.cons_cons _ (.cons_cons _ .slnil)))))) (Cs := [_]) rfl ?_
  refine .new [64] 0 (Ss' := [_, _]) (Cs' := [cellM [_, _]]) rfl (by kernel_rfl) (by kernel_rfl) rfl rfl rfl (by kernel_rfl) rfl (.t rfl) ty30 rfl rfl rfl rfl ?_
  refine .fin (n := 11) mixed rfl (by kernel_rfl) (by kernel_rfl) (by kernel_rfl) (fun bs hbs => ?_)
  obtain ⟨b5, rfl⟩ := len1 hbs
  refine .memEq (M' := [_, _, _, _, _, _, _]) rfl ?_
  refine .cv (Cv.wk (.k 0 rfl (.k 1 rfl (.k 6 rfl (.k 7 rfl (.k 9 rfl (.k 10 rfl (.k 11 rfl (.k 65 rfl (.cons (t := 13) (Has.op rfl) .nil)))))))))) ?_
  refine st (.as (.t rfl)) rfl ?_
  refine nl (.thn (k6 _ _ ?_))
  refine .dry mixed ?_
  refine .tk 0 rfl rfl rfl rfl (OKY.mv (.t rfl)) ?_
  refine .tk 1 rfl rfl rfl rfl (OKY.nilc (.t rfl)) ?_
  refine .tk 2 rfl rfl rfl rfl (OKY.fieldAddr (.t rfl) fld108_0 ty59) ?_
  refine .tk 4 rfl rfl rfl rfl (OKY.mv (.t rfl)) ?_
  refine .tk 5 rfl rfl rfl rfl (OKY.nilc (.t rfl)) ?_
  refine .tk 6 rfl rfl rfl rfl (OKY.fieldAddr (.t rfl) fld108_2 ty3) ?_
  refine .tk 8 rfl rfl rfl rfl (OKY.mv (.t rfl)) ?_
  refine .tk 9 rfl rfl rfl rfl (OKY.nilc (.t rfl)) ?_
  refine .tk 10 rfl rfl rfl rfl (OKY.fieldAddr (.t rfl) fld108_0 ty59) ?_
  refine .tk 12 rfl rfl rfl rfl (OKY.mv (.t rfl)) ?_
  refine .tk 14 rfl rfl rfl rfl (OKY.mv (.t rfl)) ?_
  refine .tk 16 rfl rfl rfl rfl (OKY.mv (.t rfl)) ?_
  refine .tk 20 rfl rfl rfl rfl (OKY.mv (.t rfl)) ?_
  refine .tk 22 rfl rfl rfl rfl (OKY.mv (.t rfl)) ?_
  refine .go [] ?_
  refine .s 3 [] rfl rfl rfl (.o rfl (.load1 (.t rfl) (i := 5) rfl ty59 rfl)) ?_
  refine .s 7 [] rfl rfl rfl (.o rfl (.load1 (.t rfl) (i := 5) rfl ty3 rfl)) ?_
  refine .s 11 [] rfl rfl rfl (.o rfl (.load1 (.t rfl) (i := 5) rfl ty59 rfl)) ?_
  refine .s 13 [] rfl rfl rfl (.o rfl (.load (.t rfl) (i := 3) rfl ty30 rfl (Ss' := [_, _]) rfl)) ?_
  refine .s 15 [] rfl rfl rfl (.o rfl (.load (.t rfl) (i := 4) rfl ty30 rfl (Ss' := [_, _]) rfl)) ?_
  refine .s 17 [79, 81] rfl rfl rfl (.o rfl (.eq (.call (hnf_mixed (A := K + 1) (B := P + 2) (K := P) (L := K) (by rw [val_words]; omega) (by rw [vals_nz]; exact hpP) (by rw [val_words]; omega) (by rw [vals_nz]; exact hqB) (by omega) (by omega) (by rw [List.length_map, List.length_map]; omega) (by rw [List.length_map]; omega)) (.cons (.t rfl) (.cons (.t rfl) (.cons (.t rfl) (.cons (.t rfl) .nil))))) ((show _ = isP (mx2 (xgx (cf p col) (cf q col)) p (xgy (cf p col) (cf q col)) q) from isPl_eq (by simp only [zv_nf, vals_nz]))))) ?_
  refine .s 18 [] rfl rfl rfl (.o rfl (.load (.t rfl) (i := 0) rfl ty30 rfl (Ss' := [_, _]) rfl)) ?_
  refine .s 19 [84] rfl rfl rfl (.o rfl (.call (zint_Neg (by rw [val_words]; omega)) (.cons (.t rfl) .nil))) ?_
  refine .s 21 [] rfl rfl rfl (.o rfl (.load (.t rfl) (i := 1) rfl ty30 rfl (Ss' := [_, _]) rfl)) ?_
  refine .s 23 [85, 87] rfl rfl rfl (.o rfl (.eq (.call (hnf_mixed (A := K) (B := P) (K := P) (L := K) (by rw [val_words, zv_nf, Int.natAbs_neg]; omega) (by rw [vals_nz]; exact hpP) (by rw [val_words]; omega) (by rw [vals_nz]; exact hqB) (by omega) (by omega) (by rw [List.length_map, List.length_map]; omega) (by rw [List.length_map]; omega)) (.cons (.t rfl) (.cons (.t rfl) (.cons (.t rfl) (.cons (.t rfl) .nil))))) ((show _ = isP (mx2 (-((cf q col).tdiv (xgg (cf p col) (cf q col)))) p ((cf p col).tdiv (xgg (cf p col) (cf q col))) q) from isPl_eq (by simp only [zv_nf, vals_nz]))))) ?_
  refine .fin [24, 25, 26, 27] (by kernel_rfl) (by kernel_rfl) (fun _ _ _ _ _ h => h) (by kernel_rfl) (by kernel_rfl) (by kernel_rfl) (by kernel_rfl) (by kernel_rfl) (by kernel_rfl) (by kernel_rfl) (by kernel_rfl) (by kernel_rfl) ?_
  refine .cv (Cv.wk (.k 78 rfl (.k 69 rfl (.k 73 rfl (.k 77 rfl (.k 83 rfl (.k 89 rfl .nil))))))) ?_
  refine st (.ixGr sl59 ty22 (.t rfl) (.t rfl) ⟨by omega, by omega⟩) rfl ?_
  refine .storeGM (z := mx2 (xgx (cf p col) (cf q col)) p (xgy (cf p col) (cf q col)) q) (.t rfl) (.t rfl) (i := 6) rfl ty22 (by omega) (M' := [_, _, _, _, _, _, grM _ _ _]) rfl ?_
  refine st (.ixGr sl59 ty22 (.t rfl) (.t rfl) ⟨by omega, by omega⟩) rfl ?_
  refine .storeGM (z := mx2 (-((cf q col).tdiv (xgg (cf p col) (cf q col)))) p ((cf p col).tdiv (xgg (cf p col) (cf q col))) q) (.t rfl) (.t rfl) (i := 6) rfl ty22 (by rw [List.length_set]; omega) (M' := [_, _, _, _, _, _, grM _ _ _]) rfl ?_
  refine nl ?_
  refine rtX0D (.cons _ (.cons _ (.cons _ (.cons _ (.cons _ (.cons_cons _ (.cons_cons _ .slnil))))))) (.inr rfl) Try.results103 rfl ?_
  exact ⟨rfl, hwM_eq (jn_go hp hq hg0).symm (by rw [jn_len])⟩
theorem hnf_reduce {bw C : Nat} {gt : Gr (List Int)} {rs : List (List Int)} {t col W P : Nat} (hrow : ∀ r ∈ rs, r.length = W) (ht : t < rs.length) (hc : col < W) (hW : W ≤ 128) (hR : rs.length ≤ 64) (hpB : ∀ r ∈ rs, Bd r P) (hP : P ≤ 90000000) (h0 : 0 < cf (rs.getD t []) col) : CtrX Try.prog 105 [isPtr bw 0, isI (col : Int)] (hwM bw gt rs C t) (fun S M => S = isTup [] ∧ M = hwM bw gt (rds rs t col t) C t) := by
 refine CtrX.intro Try.func105 rfl (by kernel_rfl) Try.ntmps105 rfl fun w0 F0 => ?_
 refine .cv (Cv.wk (.k 0 rfl (.k 1 rfl .nil))) ?_
 refine .fact (Has.rngI (Has.t (t := 1) rfl)) fun lt1 => ?_
 obtain ⟨b, hb⟩ : ∃ b, rs[t]? = some b := ⟨_, List.getElem?_eq_getElem ht⟩
 have hbl := hrow b (List.mem_of_getElem? hb)
 rw [getD_of hb] at h0
 have hbP := hpB b (List.mem_of_getElem? hb)
 have hbc := hbP col
 refine .seq fun _ k1 => ?_
 refine .dr ?_
 refine .s [] rfl rfl rfl (.o rfl (.mv (.t rfl))) ?_
 refine .s [9] rfl rfl rfl (.o rfl (.nilc (.t rfl))) ?_
 refine .s [10] rfl rfl rfl (.o rfl (.fieldAddr (.t rfl) fld108_0 ty59)) ?_
 refine .s [11] rfl rfl rfl (.o rfl (.load1 (.t rfl) (i := 0) rfl ty59 rfl)) ?_
 refine .s [] rfl rfl rfl (.o rfl (.mv (.t rfl))) ?_
 refine .s [13] rfl rfl rfl (.o rfl (.nilc (.t rfl))) ?_
 refine .s [14] rfl rfl rfl (.o rfl (.fieldAddr (.t rfl) fld108_2 ty3)) ?_
 refine .s [15] rfl rfl rfl (.o rfl (.load1 (.t rfl) (i := 0) rfl ty3 rfl)) ?_
 refine .fin (n := 8) mixed (by kernel_rfl) (by kernel_rfl) (by kernel_rfl) ?_
 refine .cv (Cv.wk (.k 0 rfl (.k 1 rfl (.k 12 rfl (.k 16 rfl .nil))))) ?_
 refine st (.ixGr sl59 ty22 (.t rfl) (.t rfl) ⟨by omega, by omega⟩) rfl ?_
 refine st (.loadGM (.t rfl) (i := 1) rfl ty22 hb) rfl ?_
 refine st (.as (.t rfl)) rfl ?_
 refine nl (.thn (k1 _ _ ?_))
 refine .seq fun _ k2 => .region (st (.mv (.t rfl)) rfl ?_)
 refine st (.nilc (.t rfl)) rfl ?_
 refine st (.fieldAddr (.t rfl) fld108_2 ty3) rfl (st (.load1 (.t rfl) (i := 0) rfl ty3 rfl) rfl ?_)
 refine st (.mv (Has.cI 0 rfl)) rfl ?_
 refine nl (.thn (k2 _ _ ?_))
 refine .cv (Cv.wk (.k 0 rfl (.k 1 rfl (.k 4 rfl (.k 22 rfl (.k 23 rfl .nil)))))) ?_
 refine .block ?_
 refine .loopF [0, 1, 4, 22] (fun (z : { i : Nat // i ≤ t }) => match z with | ⟨i, hi⟩ => [(23, isI (i : Int))]) (fun M => fun (z : { i : Nat // i ≤ t }) => match z with | ⟨i, hi⟩ => hwM bw gt (rds rs t col i) C t) (fun (z : { i : Nat // i ≤ t }) => match z with | ⟨i, hi⟩ => t - i) (⟨0, Nat.zero_le _⟩) (Cv.mem (.cons (t := 23) (Has.t' rfl ?_) (.k 0 rfl (.k 1 rfl (.k 4 rfl (.k 22 rfl .nil))))) ?_) ?_
 ·rfl
 ·rfl
 rintro ⟨i, hi⟩ K3 hK3
 refine .cv (Cv.wk (.k 23 rfl (.k 0 rfl (.k 1 rfl (.k 4 rfl (.k 22 rfl .nil)))))) ?_
 refine .memEq (M' := hwM bw gt (rds rs t col i) C t) rfl ?_
 have hlen := rds_len rs t col i
 have hb2 : (rds rs t col i)[t]? = some b := (rds_off hi).trans hb
 refine .seq fun _ k4 => .region (st (.ltI (.t rfl) (.t rfl)) rfl ?_)
 refine nl (.thn (k4 _ _ ?_))
 refine .seq fun _ k5 => ?_
 refine .cond (.t rfl) (fun hc1 => ?_) (fun hc1 => ?_)
 ·have hc1 := BP.t hc1
  obtain ⟨r, hr⟩ : ∃ r, rs[i]? = some r := ⟨_, List.getElem?_eq_getElem (by omega)⟩
  have hr2 : (rds rs t col i)[i]? = some r := (rds_off (Nat.le_refl _)).trans hr
  have hrl := hrow r (List.mem_of_getElem? hr)
  have hrP := hpB r (List.mem_of_getElem? hr)
  have hrc := hrP col
  have hdn := div_nw h0 hrc
  have h1 := nz_one
  refine .skip ?_
  refine .thn (k5 _ _ ?_)
  refine .seq fun _ k6 => ?_
  refine .block ?_
  refine .seq fun _ k7 => .region (st (.mv (.t rfl)) rfl ?_)
  refine st (.as (.t rfl)) rfl ?_
  refine nl (.thn (k7 _ _ ?_))
  refine .seq fun _ k8 => ?_
  refine .drh [true, true] (Ms := [_, _]) rfl ?_
  refine .s [] rfl rfl rfl (.o rfl (.mv (.t rfl))) ?_
  refine .s [27] rfl rfl rfl (.o rfl (.nilc (.t rfl))) ?_
  refine .s [28] rfl rfl rfl (.o rfl (.fieldAddr (.t rfl) fld108_0 ty59)) ?_
  refine .s [29] rfl rfl rfl (.o rfl (.load1 (.t rfl) (i := 0) rfl ty59 rfl)) ?_
  refine .s [] rfl rfl rfl (.o rfl (.mv (.t rfl))) ?_
  refine .s [30, 31] rfl rfl rfl (.o rfl (.ixGr sl59 ty22 (.t rfl) (.t rfl) ⟨by omega, by omega⟩)) ?_
  refine .s [32] rfl rfl rfl (.o rfl (.loadGM (.t rfl) (i := 1) rfl ty22 hr2)) ?_
  refine .s [] rfl rfl rfl (.o rfl (.mv (.t rfl))) ?_
  refine .s [33, 34] rfl rfl rfl (.o rfl (.ixK sl22 ty30 (.t rfl) (.t rfl) zc_len ⟨by omega, by rw [List.length_map]; omega⟩ (getZ (i := col) (by omega)))) ?_
  refine .s [35] rfl rfl rfl (.o rfl (.loadP (.t rfl) ty30 rfl (Ss' := [_, _]) rfl)) ?_
  refine .s [] rfl rfl rfl (.o rfl (.mv (.t rfl))) ?_
  refine .s [] rfl rfl rfl (.o rfl (.mv (.t rfl))) ?_
  refine .s [37, 38] rfl rfl rfl (.o rfl (.ixK sl22 ty30 (.t rfl) (.t rfl) zc_len ⟨by omega, by rw [List.length_map]; omega⟩ (getZ (i := col) (by omega)))) ?_
  refine .s [39] rfl rfl rfl (.o rfl (.loadP (.t rfl) ty30 rfl (Ss' := [_, _]) rfl)) ?_
  refine .s [36, 40] rfl rfl rfl (.o rfl (.eq (.call (zint_Floor (by rw [val_words]; omega) (by rw [val_words]; omega) (by simp only [zv_nf, zv_nz]; exact h0)) (.cons (.t rfl) (.cons (.t rfl) .nil))) ((show _ = isTup [isZ (cf r col / cf b col), isZ (cf r col % cf b col), isB true] from by simp only [zv_nz, zv_nf])))) ?_
  refine .s [41] rfl rfl rfl (.o rfl (.mv (.t rfl))) ?_
  refine .s [26] rfl rfl rfl (.o rfl (.ext (.t rfl) rfl)) ?_
  refine .s [26] rfl rfl rfl (.o rfl (.ext (.t rfl) rfl)) ?_
  refine .s [26] rfl rfl rfl (.o rfl (.ext (.t rfl) rfl)) ?_
  refine .als (n1 := 21) (ds := [6, 7]) (zs := [[isB false, SlM isU []], [isB false, SlM isU []]]) rfl (.cons rfl rfl zero30 (fun _ _ => ⟨rfl, nilM _ _, trivial⟩) (.cons rfl rfl zero30 (fun _ _ => ⟨rfl, nilM _ _, trivial⟩) .nil)) (.cons_cons _ (.cons_cons _ .slnil)) (Cs := [_, _]) rfl ?_
  refine .new [42] 0 (Ss' := [_, _]) (Cs' := [cellM [_, _], _]) rfl (by kernel_rfl) (by kernel_rfl) rfl rfl rfl (by kernel_rfl) rfl (.t rfl) ty30 rfl rfl rfl rfl ?_
  refine .new [43] 1 (Ss' := [_, _]) (Cs' := [_, cellM [_, _]]) rfl (by kernel_rfl) (by kernel_rfl) rfl rfl rfl (by kernel_rfl) rfl (.t rfl) ty30 rfl rfl rfl rfl ?_
  refine .fin (n := 23) mixed rfl (by kernel_rfl) (by kernel_rfl) (by kernel_rfl) (fun bs hbs => ?_)
  obtain ⟨b1, b2, rfl⟩ := len2 hbs
  refine .memEq (M' := [_, _, _, _]) rfl ?_
  refine .cv (Cv.wk (.k 0 rfl (.k 1 rfl (.k 4 rfl (.k 22 rfl (.k 23 rfl (.k 24 rfl (.k 25 rfl (.k 5 rfl (.k 27 rfl (.k 28 rfl (.k 29 rfl (.k 30 rfl (.k 31 rfl (.k 32 rfl (.k 33 rfl (.k 34 rfl (.k 35 rfl (.k 36 rfl (.k 37 rfl (.k 38 rfl (.k 39 rfl (.k 40 rfl (.k 41 rfl (.k 26 rfl (.k 42 rfl (.k 43 rfl (.k 44 rfl (.cons (t := 6) (Has.op rfl) (.cons (t := 7) (Has.op rfl) .nil)))))))))))))))))))))))))))))) ?_
  refine st (.as (.t rfl)) rfl ?_
  refine nl (.thn (k8 _ _ ?_))
  refine .dry mixed ?_
  refine .tk 0 rfl rfl rfl rfl (OKY.mv (.t rfl)) ?_
  refine .tk 1 rfl rfl rfl rfl (OKY.nilc (.t rfl)) ?_
  refine .tk 2 rfl rfl rfl rfl (OKY.fieldAddr (.t rfl) fld108_0 ty59) ?_
  refine .tk 4 rfl rfl rfl rfl (OKY.mv (.t rfl)) ?_
  refine .tk 6 rfl rfl rfl rfl (OKY.mv (.t rfl)) ?_
  refine .tk 7 rfl rfl rfl rfl (OKY.nilc (.t rfl)) ?_
  refine .tk 8 rfl rfl rfl rfl (OKY.fieldAddr (.t rfl) fld108_0 ty59) ?_
  refine .tk 10 rfl rfl rfl rfl (OKY.mv (.t rfl)) ?_
  refine .tk 15 rfl rfl rfl rfl (OKY.mv (.t rfl)) ?_
  refine .go [] ?_
  refine .s 3 [] rfl rfl rfl (.o rfl (.load1 (.t rfl) (i := 2) rfl ty59 rfl)) ?_
  refine .s 5 [] rfl rfl rfl (.o rfl (.call (zint_Of) (.cons (Has.cI 1 rfl) .nil))) ?_
  refine .s 9 [] rfl rfl rfl (.o rfl (.load1 (.t rfl) (i := 2) rfl ty59 rfl)) ?_
  refine .s 11 [54] rfl rfl rfl (.o rfl (.ixGr sl59 ty22 (.t rfl) (.t rfl) ⟨by omega, by omega⟩)) ?_
  refine .s 12 [56] rfl rfl rfl (.o rfl (.loadGM (.t rfl) (i := 3) rfl ty22 hr2)) ?_
  refine .s 13 [] rfl rfl rfl (.o rfl (.load (.t rfl) (i := 0) rfl ty30 rfl (Ss' := [_, _]) rfl)) ?_
  refine .s 14 [58] rfl rfl rfl (.o rfl (.call (zint_Neg (by rw [val_words]; omega)) (.cons (.t rfl) .nil))) ?_
  refine .s 16 [50, 57, 59] rfl rfl rfl (.o rfl (.eq (.call (hnf_mixed (A := 1) (B := P) (K := P) (L := P) (by rw [val_words]; omega) (by rw [vals_nz]; exact hrP) (by rw [val_words, zv_nf, Int.natAbs_neg]; omega) (by rw [vals_nz]; exact hbP) (by omega) (by omega) (by rw [List.length_map, List.length_map]; omega) (by rw [List.length_map]; omega)) (.cons (.t rfl) (.cons (.t rfl) (.cons (.t rfl) (.cons (.t rfl) .nil))))) ((show _ = isP (mx2 1 r (-(cf r col / cf b col)) b) from isPl_eq (by simp only [zv_nf, vals_nz]))))) ?_
  refine .fin [17, 18] (by kernel_rfl) (by kernel_rfl) (fun _ _ _ _ _ h => h) (by kernel_rfl) (by kernel_rfl) (by kernel_rfl) (by kernel_rfl) (by kernel_rfl) (by kernel_rfl) (by kernel_rfl) (by kernel_rfl) (by kernel_rfl) ?_
  refine .cv (Cv.wk (.k 0 rfl (.k 1 rfl (.k 4 rfl (.k 22 rfl (.k 23 rfl (.k 24 rfl (.k 25 rfl (.k 5 rfl (.k 27 rfl (.k 28 rfl (.k 29 rfl (.k 30 rfl (.k 31 rfl (.k 32 rfl (.k 33 rfl (.k 34 rfl (.k 35 rfl (.k 36 rfl (.k 37 rfl (.k 38 rfl (.k 39 rfl (.k 40 rfl (.k 41 rfl (.k 26 rfl (.k 42 rfl (.k 43 rfl (.k 44 rfl (.k 6 rfl (.k 7 rfl (.k 45 rfl (.k 46 rfl (.k 47 rfl (.k 49 rfl (.k 51 rfl (.k 52 rfl (.k 53 rfl (.k 55 rfl (.k 60 rfl (.k 48 rfl (.k 50 rfl (.k 54 rfl (.k 56 rfl (.k 57 rfl (.k 58 rfl (.k 59 rfl (.k 61 rfl .nil))))))))))))))))))))))))))))))))))))))))))))))) ?_
  refine st (.ixGr sl59 ty22 (.t rfl) (.t rfl) ⟨by omega, by omega⟩) rfl ?_
  refine .storeGM (z := mx2 1 r (-(cf r col / cf b col)) b) (.t rfl) (.t rfl) (i := 3) rfl ty22 (by omega) (M' := [_, _, _, grM _ _ _]) rfl ?_
  refine nl ?_
  refine .bln ?_
  refine .thn (k6 _ _ ?_)
  refine .region (st (.addI (.t rfl) (Has.cI 1 rfl) (by first | omega | assumption) (by first | omega | assumption)) rfl ?_)
  refine st (.mv (.t rfl)) rfl ?_
  refine nl ?_
  refine .thn ?_
  refine hK3 (⟨i + 1, by omega⟩) _ _ ?_ (Cv.trans (Cv.drop ((.cons _ (.cons _ (.cons_cons _ (.cons_cons _ .slnil)))))) (Cv.mem (.cons (t := 23) (Has.t' rfl ?_) (.k 0 rfl (.k 1 rfl (.k 4 rfl (.k 22 rfl .nil))))) ?_))
  ·show t - (i + 1) < t - i; omega
  ·exact isI_eq (by omega)
  ·exact hwM_eq (rd_go hr2 hb2).symm (by show _ = (rds rs t col (i + 1)).length; rw [hlen, rds_len])
 ·have hc1 := BP.f hc1
  refine .exit ?_
  refine .the ?_
  refine .the ?_
  refine .blh ?_
  refine rtX0D (.cons_cons _ (.cons_cons _ .slnil)) (.inr rfl) Try.results105 rfl ?_
  exact ⟨rfl, by rw [show t = i by omega]⟩
theorem hnf_column {bw C : Nat} {gt : Gr (List Int)} {rs : List (List Int)} {t col W K : Nat} (hrow : ∀ r ∈ rs, r.length = W) (ht : t < rs.length) (hc : col < W) (hW : W ≤ 128) (hR : rs.length ≤ 64) (hb : ∀ r ∈ rs, Bd r K) (hK : (K + 3) * (rs.length + 2) ≤ 80000000) : CtrX Try.prog 79 [isPtr bw 0, isI (col : Int)] (hwM bw gt rs C t) (fun S M => S = isTup [] ∧ M = hwM bw gt (hcol ⟨rs, t⟩ col).rows C (hcol ⟨rs, t⟩ col).top) := by
 refine CtrX.intro Try.func79 rfl (by kernel_rfl) Try.ntmps79 rfl fun w0 F0 => ?_
 refine .cv (Cv.wk (.k 0 rfl (.k 1 rfl .nil))) ?_
 refine .fact (Has.rngI (Has.t (t := 1) rfl)) fun lt1 => ?_
 obtain ⟨N, hN⟩ : ∃ N, N = rs.length - (t + 1) := ⟨_, rfl⟩
 obtain ⟨P, hP⟩ : ∃ P, P = K + N * (K + 3) := ⟨_, rfl⟩
 have hK1 : (K + 3) * (rs.length + 2) = rs.length * (K + 3) + 2 * (K + 3) := by rw [Nat.mul_add, Nat.mul_comm (K + 3) rs.length, Nat.mul_comm (K + 3) 2]
 have hK2 : N * (K + 3) ≤ rs.length * (K + 3) := Nat.mul_le_mul_right _ (by omega)
 have hcl : hcol ⟨rs, t⟩ col = if cf ((jns rs t col N).getD t []) col = 0 then ⟨jns rs t col N, t⟩ else ⟨rds (hsg (jns rs t col N) t col) t col t, t + 1⟩ := by rw [hN]; rfl
 have hlenA := jns_len rs t col N
 obtain ⟨p, hp⟩ : ∃ p, (jns rs t col N)[t]? = some p := ⟨_, List.getElem?_eq_getElem (by omega)⟩
 have hrowA := jns_row hrow ht (col := col) N
 have hbA : ∀ r ∈ jns rs t col N, Bd r P := by rw [hP]; exact jns_bd hb N
 have hpl := hrowA p (List.mem_of_getElem? hp)
 have hpP := hbA p (List.mem_of_getElem? hp)
 have hpc := hpP col
 rw [getD_of hp] at hcl
 refine .seq fun _ k1 => ?_
 refine .seq fun _ k2 => .region (st (.mv (.t rfl)) rfl ?_)
 refine st (.nilc (.t rfl)) rfl ?_
 refine st (.fieldAddr (.t rfl) fld108_2 ty3) rfl (st (.load1 (.t rfl) (i := 0) rfl ty3 rfl) rfl ?_)
 refine st (.addI (.t rfl) (Has.cI 1 rfl) (by first | omega | assumption) (by first | omega | assumption)) rfl ?_
 refine st (.as (.t rfl)) rfl ?_
 refine nl (.thn (k2 _ _ ?_))
 refine .cv (Cv.wk (.k 0 rfl (.k 1 rfl (.k 4 rfl .nil)))) ?_
 refine .block ?_
 refine .loopF [0, 1] (fun (z : { n : Nat // n ≤ N }) => match z with | ⟨n, hn⟩ => [(4, isI ((t + 1 + n : Nat) : Int))]) (fun M => fun (z : { n : Nat // n ≤ N }) => match z with | ⟨n, hn⟩ => hwM bw gt (jns rs t col n) C t) (fun (z : { n : Nat // n ≤ N }) => match z with | ⟨n, hn⟩ => N - n) (⟨0, Nat.zero_le _⟩) (Cv.mem (.cons (t := 4) (Has.t' rfl ?_) (.k 0 rfl (.k 1 rfl .nil))) ?_) ?_
 ·exact isI_eq (by omega)
 ·rfl
 rintro ⟨n, hn⟩ K3 hK3
 refine .cv (Cv.wk (.k 4 rfl (.k 0 rfl (.k 1 rfl .nil)))) ?_
 refine .memEq (M' := hwM bw gt (jns rs t col n) C t) rfl ?_
 have hlen := jns_len rs t col n
 have hnK : n * (K + 3) ≤ N * (K + 3) := Nat.mul_le_mul_right _ hn
 refine .seq fun _ k4 => ?_
 refine .seq fun _ k5 => .region (st (.mv (.t rfl)) rfl ?_)
 refine st (.mv (.t rfl)) rfl (st (.nilc (.t rfl)) rfl ?_)
 refine st (.fieldAddr (.t rfl) fld108_0 ty59) rfl (st (.load1 (.t rfl) (i := 0) rfl ty59 rfl) rfl ?_)
 refine st (.len sl59 (.t rfl)) rfl (st (.ltI (.t rfl) (.t rfl)) rfl ?_)
 refine nl (.thn (k5 _ _ ?_))
 refine .cond (.t rfl) (fun hc1 => ?_) (fun hc1 => ?_)
 ·have hc1 := BP.t hc1
  skip
  refine .skip ?_
  refine .thn (k4 _ _ ?_)
  refine .seq fun _ k6 => ?_
  refine .block ?_
  refine .region (st (.mv (.t rfl)) rfl ?_)
  refine st (.mv (.t rfl)) rfl (st (.mv (.t rfl)) rfl ?_)
  refine .callX (hnf_join (rs := jns rs t col n) (i := t + 1 + n) (col := col) (P := K + n * (K + 3)) (K := K) (jns_row hrow ht n) (by omega) (by omega) hc hW (by omega) (jns_bd hb n) (by rw [show (jns rs t col n).getD (t + 1 + n) [] = rs.getD (t + 1 + n) [] from by rw [List.getD, jns_far (Nat.le_refl _)]; rfl]; exact getD_bd hb _) (by omega)) (List.Perm.refl _) (.cons (.t rfl) (.cons (.t rfl) (.cons (.t rfl) .nil))) rfl ?_
  rintro _ _ ⟨rfl, rfl⟩
  refine .memEq (M' := hwM bw gt (jns rs t col (n + 1)) C t) rfl ?_
  refine nl ?_
  refine .bln ?_
  refine .thn (k6 _ _ ?_)
  refine .region (st (.mv (.t rfl)) rfl ?_)
  refine st (.addI (.t rfl) (Has.cI 1 rfl) (by first | omega | assumption) (by first | omega | assumption)) rfl ?_
  refine st (.as (.t rfl)) rfl ?_
  refine nl ?_
  refine .thn ?_
  refine hK3 (⟨n + 1, by omega⟩) _ _ ?_ (Cv.mem (.cons (t := 4) (Has.t' rfl ?_) (.k 0 rfl (.k 1 rfl .nil))) ?_)
  ·show N - (n + 1) < N - n; omega
  ·exact isI_eq (by omega)
  ·rfl
 ·have hc1 := BP.f hc1
  have hnN : N = n := (by omega)
  subst hnN
  refine .exit ?_
  refine .the ?_
  refine .the ?_
  refine .blh ?_
  refine .thn (k1 _ _ ?_)
  refine .cv (Cv.wk (.k 0 rfl (.k 1 rfl .nil))) ?_
  refine .cutF [0, 1] (fun (z : { c : List (List Int) // c = hsg (jns rs t col N) t col ∧ ¬ cf p col = 0 }) => match z with | ⟨c, hcs⟩ => []) (fun M => fun (z : { c : List (List Int) // c = hsg (jns rs t col N) t col ∧ ¬ cf p col = 0 }) => match z with | ⟨c, hcs⟩ => hwM bw gt c C t) (fun K7 hK7 => ?_) ?_
  ·skip
   refine .seq fun _ k8 => ?_
   refine .dr ?_
   refine .s [] rfl rfl rfl (.o rfl (.mv (.t rfl))) ?_
   refine .s [23] rfl rfl rfl (.o rfl (.nilc (.t rfl))) ?_
   refine .s [24] rfl rfl rfl (.o rfl (.fieldAddr (.t rfl) fld108_0 ty59)) ?_
   refine .s [25] rfl rfl rfl (.o rfl (.load1 (.t rfl) (i := 0) rfl ty59 rfl)) ?_
   refine .s [] rfl rfl rfl (.o rfl (.mv (.t rfl))) ?_
   refine .s [27] rfl rfl rfl (.o rfl (.nilc (.t rfl))) ?_
   refine .s [28] rfl rfl rfl (.o rfl (.fieldAddr (.t rfl) fld108_2 ty3)) ?_
   refine .s [29] rfl rfl rfl (.o rfl (.load1 (.t rfl) (i := 0) rfl ty3 rfl)) ?_
   refine .s [26, 30] rfl rfl rfl (.o rfl (.ixGr sl59 ty22 (.t rfl) (.t rfl) ⟨by omega, by omega⟩)) ?_
   refine .s [31] rfl rfl rfl (.o rfl (.loadGM (.t rfl) (i := 1) rfl ty22 hp)) ?_
   refine .s [] rfl rfl rfl (.o rfl (.mv (.t rfl))) ?_
   refine .fin (n := 11) mixed (by kernel_rfl) (by kernel_rfl) (by kernel_rfl) ?_
   refine .cv (Cv.wk (.k 0 rfl (.k 1 rfl (.k 32 rfl (.k 33 rfl .nil))))) ?_
   refine st (.ixK sl22 ty30 (.t rfl) (.t rfl) zc_len ⟨by omega, by rw [List.length_map]; omega⟩ (getZ (i := col) (by omega))) rfl ?_
   refine st (.loadP (.t rfl) ty30 rfl (Ss' := [_, _]) rfl) rfl ?_
   refine st (.eq (.call (zint_Sign (by rw [val_words]; omega)) (.cons (.t rfl) .nil)) ((show _ = isI (sgn (cf p col)) from by first | (rw [zv_nf]; done) | (rw [zv_nz]; done) | rfl))) rfl ?_
   refine nl (.thn (k8 _ _ ?_))
   refine .block ?_
   refine .seq fun _ k9 => .region (st (.eqI (.t rfl) (Has.cI 0 rfl)) rfl ?_)
   refine st (.as (.t rfl)) rfl ?_
   refine nl (.thn (k9 _ _ ?_))
   refine .cv (Cv.wk (.k 0 rfl (.k 1 rfl (.k 36 rfl (.k 37 rfl .nil))))) ?_
   refine .cond (.t rfl) (fun hc2 => ?_) (fun hc2 => ?_)
   ·have hc2 := BP.t hc2
    have h0 : cf p col = 0 := (sgn_eq0 _).1 hc2
    refine .ret ?_
    refine .blr ?_
    refine .thr ?_
    refine rtX0 (.inl rfl) Try.results79 rfl ?_
    exact ⟨rfl, by rw [hcl, if_pos h0]⟩
   ·have hc2 := BP.f hc2
    have h0 : ¬ cf p col = 0 := fun e => hc2 ((sgn_eq0 _).2 e)
    refine .seq fun _ k10 => .region (st (.eqI (.t rfl) (Has.cI (-1) rfl)) rfl ?_)
    refine st (.as (.t rfl)) rfl ?_
    refine nl (.thn (k10 _ _ ?_))
    refine .cond (.t rfl) (fun hc3 => ?_) (fun hc3 => ?_)
    ·have hc3 := BP.t hc3
     have hl0 : cf p col < 0 := (sgn_lt _).1 (by omega)
     refine .dry mixed ?_
     refine .tk 0 rfl rfl rfl rfl (OKY.mv (.t rfl)) ?_
     refine .tk 1 rfl rfl rfl rfl (OKY.nilc (.t rfl)) ?_
     refine .tk 2 rfl rfl rfl rfl (OKY.fieldAddr (.t rfl) fld108_0 ty59) ?_
     refine .tk 4 rfl rfl rfl rfl (OKY.mv (.t rfl)) ?_
     refine .tk 5 rfl rfl rfl rfl (OKY.nilc (.t rfl)) ?_
     refine .tk 6 rfl rfl rfl rfl (OKY.fieldAddr (.t rfl) fld108_2 ty3) ?_
     refine .tk 9 rfl rfl rfl rfl (OKY.mv (.t rfl)) ?_
     refine .tk 10 rfl rfl rfl rfl (OKY.nilc (.t rfl)) ?_
     refine .tk 11 rfl rfl rfl rfl (OKY.fieldAddr (.t rfl) fld108_0 ty59) ?_
     refine .tk 13 rfl rfl rfl rfl (OKY.mv (.t rfl)) ?_
     refine .tk 14 rfl rfl rfl rfl (OKY.nilc (.t rfl)) ?_
     refine .tk 15 rfl rfl rfl rfl (OKY.fieldAddr (.t rfl) fld108_2 ty3) ?_
     refine .tk 20 rfl rfl rfl rfl (OKY.mv (.t rfl)) ?_
     refine .tk 21 rfl rfl rfl rfl (OKY.nilc (.t rfl)) ?_
     refine .tk 22 rfl rfl rfl rfl (OKY.fieldAddr (.t rfl) fld108_0 ty59) ?_
     refine .tk 24 rfl rfl rfl rfl (OKY.mv (.t rfl)) ?_
     refine .tk 25 rfl rfl rfl rfl (OKY.nilc (.t rfl)) ?_
     refine .tk 26 rfl rfl rfl rfl (OKY.fieldAddr (.t rfl) fld108_2 ty3) ?_
     refine .go [] ?_
     refine .s 3 [] rfl rfl rfl (.o rfl (.load1 (.t rfl) (i := 0) rfl ty59 rfl)) ?_
     refine .s 7 [] rfl rfl rfl (.o rfl (.load1 (.t rfl) (i := 0) rfl ty3 rfl)) ?_
     refine .s 8 [] rfl rfl rfl (.o rfl (.call (zint_Of) (.cons (Has.cI (-1) rfl) .nil))) ?_
     refine .s 12 [] rfl rfl rfl (.o rfl (.load1 (.t rfl) (i := 0) rfl ty59 rfl)) ?_
     refine .s 16 [] rfl rfl rfl (.o rfl (.load1 (.t rfl) (i := 0) rfl ty3 rfl)) ?_
     refine .s 17 [53, 57] rfl rfl rfl (.o rfl (.ixGr sl59 ty22 (.t rfl) (.t rfl) ⟨by omega, by omega⟩)) ?_
     refine .s 18 [58] rfl rfl rfl (.o rfl (.loadGM (.t rfl) (i := 1) rfl ty22 hp)) ?_
     refine .s 19 [] rfl rfl rfl (.o rfl (.build [isB false, SlM isU []] pl30 zero30 (fun _ _ => ⟨rfl, nilM _ _, trivial⟩) .nil (Z'' := [_, _]) rfl)) ?_
     refine .s 23 [] rfl rfl rfl (.o rfl (.load1 (.t rfl) (i := 0) rfl ty59 rfl)) ?_
     refine .s 27 [] rfl rfl rfl (.o rfl (.load1 (.t rfl) (i := 0) rfl ty3 rfl)) ?_
     refine .s 28 [64, 68] rfl rfl rfl (.o rfl (.ixGr sl59 ty22 (.t rfl) (.t rfl) ⟨by omega, by omega⟩)) ?_
     refine .s 29 [69] rfl rfl rfl (.o rfl (.loadGM (.t rfl) (i := 1) rfl ty22 hp)) ?_
     refine .s 30 [49, 59, 60, 70] rfl rfl rfl (.o rfl (.eq (.call (hnf_mixed (A := 1) (B := 1) (K := P) (L := P) (by rw [val_words]; exact nw_small' (by decide)) (by rw [vals_nz]; exact hpP) (by exact nw_small' (by decide)) (by rw [vals_nz]; exact hpP) (by omega) (by omega) rfl (by rw [List.length_map]; omega)) (.cons (.t rfl) (.cons (.t rfl) (.cons (.t rfl) (.cons (.t rfl) .nil))))) ((show _ = isP (mx2 (-1) p 0 p) from isPl_eq (by simp only [zv_nf, vals_nz]; rfl))))) ?_
     refine .fin [31, 32] (by kernel_rfl) (by kernel_rfl) (fun _ _ _ _ _ h => h) (by kernel_rfl) (by kernel_rfl) (by kernel_rfl) (by kernel_rfl) (by kernel_rfl) (by kernel_rfl) (by kernel_rfl) (by kernel_rfl) (by kernel_rfl) ?_
     refine .cv (Cv.wk (.k 0 rfl (.k 1 rfl (.k 44 rfl (.k 48 rfl (.k 71 rfl .nil)))))) ?_
     refine st (.ixGr sl59 ty22 (.t rfl) (.t rfl) ⟨by omega, by omega⟩) rfl ?_
     refine .storeGM (z := mx2 (-1) p 0 p) (.t rfl) (.t rfl) (i := 1) rfl ty22 (by omega) (M' := [_, grM _ _ _]) rfl ?_
     refine nl ?_
     refine .bln ?_
     refine .thn ?_
     refine hK7 (⟨_, rfl, h0⟩) _ _ (Cv.mem (.k 0 rfl (.k 1 rfl .nil)) ?_)
     ·exact hwM_eq (by unfold hsg; rw [getD_of hp, if_pos hl0]; rfl) (by rw [hsg_len])
    ·have hc3 := BP.f hc3
     have hl0 : ¬ cf p col < 0 := fun e => by rcases sgn_cases (cf p col) with h | h | h <;> omega
     refine .skip ?_
     refine .bln ?_
     refine .thn ?_
     refine hK7 (⟨_, rfl, h0⟩) _ _ (Cv.mem (.k 0 rfl (.k 1 rfl .nil)) ?_)
     ·exact hwM_eq (by unfold hsg; rw [getD_of hp, if_neg hl0]) (by rw [hsg_len])
  rintro ⟨c, hcs, h0⟩
  refine .cv (Cv.wk (.k 0 rfl (.k 1 rfl .nil))) ?_
  refine .memEq (M' := hwM bw gt c C t) rfl ?_
  subst hcs
  have hpos := hsg_pos hp h0
  refine .seq fun _ k11 => .region (st (.mv (.t rfl)) rfl ?_)
  refine st (.mv (.t rfl)) rfl ?_
  refine .callX (hnf_reduce (rs := hsg (jns rs t col N) t col) (col := col) (P := P) (hsg_row hrowA (by omega)) (by rw [hsg_len]; omega) hc hW (by rw [hsg_len]; omega) (hsg_bd hbA) (by omega) hpos) (List.Perm.refl _) (.cons (.t rfl) (.cons (.t rfl) .nil)) rfl ?_
  rintro _ _ ⟨rfl, rfl⟩
  refine .memEq (M' := hwM bw gt (rds (hsg (jns rs t col N) t col) t col t) C t) rfl ?_
  refine nl (.thn (k11 _ _ ?_))
  refine .region (st (.mv (.t rfl)) rfl ?_)
  refine st (.nilc (.t rfl)) rfl ?_
  refine st (.fieldAddr (.t rfl) fld108_2 ty3) rfl (st (.load1 (.t rfl) (i := 0) rfl ty3 rfl) rfl ?_)
  refine st (.addI (.t rfl) (Has.cI 1 rfl) (by first | omega | assumption) (by first | omega | assumption)) rfl ?_
  refine st (.nilc (.t rfl)) rfl ?_
  refine st (.fieldAddr (.t rfl) fld108_2 ty3) rfl ?_
  refine .store (.t rfl) (.t rfl) (i := 0) rfl ty3 rfl rfl (Ss' := [_, _, _]) rfl (M' := [(some _, cellM [_, _, _]), _]) rfl ?_
  refine nl ?_
  refine rtX0 (.inr rfl) Try.results79 rfl ?_
  exact ⟨rfl, (hwM_top (top' := t + 1) (by omega)).trans (by rw [hcl, if_neg h0])⟩
theorem hnf_part {rs : List (List Int)} {W lo hi : Nat} {c tp : Int} (hrow : ∀ r ∈ rs, r.length = W) (h1 : lo ≤ hi) (h2 : hi ≤ W) (hW : W ≤ 128) (hR : rs.length ≤ 64) : Ctr Try.prog 80 [PtrL [SlM isP rs, isI c, isI tp], isI (lo : Int), isI (hi : Int)] (isMz rs.length (hi - lo) (flatP lo hi rs)) := by
 refine Ctr.intro Try.func80 rfl (by kernel_rfl) Try.ntmps80 rfl fun w0 F0 => ?_
 refine .cv (Cv.wk (.k 0 rfl (.k 1 rfl (.k 2 rfl .nil)))) ?_
 refine .fact (Has.rngI (Has.t (t := 1) rfl)) fun lt1 => ?_
 refine .fact (Has.rngI (Has.t (t := 2) rfl)) fun lt2 => ?_
 have hmx : ∀ i, i ≤ rs.length → (flatP lo hi (rs.take i)).length ≤ 8192 := fun i hi' => by
  rw [flatP_len (rs := rs.take i) h1 h2 (fun r hr => hrow r (List.mem_of_mem_take hr)), List.length_take]
  exact Nat.le_trans (Nat.mul_le_mul (show _ ≤ 64 by omega) (show hi - lo ≤ 128 by omega)) (by decide)
 refine .seq fun _ k1 => .region (.alloc [isI 0, isI 0, nilS] zero24 (fun _ _ => ⟨⟨rfl, by decide, by decide⟩, ⟨rfl, by decide, by decide⟩, rfl, trivial⟩) rfl fun b1 => ?_)
 refine nl (.thn (k1 _ _ ?_))
 refine .seq fun _ k2 => .region (st (.mv (.t rfl)) rfl ?_)
 refine st (.nilcP (.t rfl)) rfl ?_
 refine st (.fieldAddrP (.t rfl) fld108_0 ty59 (Ss' := [_, _, _]) rfl) rfl ?_
 refine st (.loadP1 (.t rfl) ty59) rfl ?_
 refine st (.len sl59 (.t rfl)) rfl ?_
 refine st (.mv (.t rfl)) rfl (st (.mv (.t rfl)) rfl ?_)
 refine st (.eq (.subI (.t rfl) (.t rfl) (by first | omega | assumption) (by first | omega | assumption)) ((show isI _ = isI ((hi - lo : Nat) : Int) from isI_eq (by omega)))) rfl ?_
 refine st (.build [isI 0, isI 0, nilS] pl24 zero24 (fun _ _ => ⟨⟨rfl, by decide, by decide⟩, ⟨rfl, by decide, by decide⟩, rfl, trivial⟩) (.cons (.t rfl) rfl rfl rfl (.cons (.t rfl) rfl rfl rfl .nil)) (Z'' := [_, _, _]) rfl) rfl ?_
 refine .alloc [isI 0, isI 0, nilS] zero24 (fun _ _ => ⟨⟨rfl, by decide, by decide⟩, ⟨rfl, by decide, by decide⟩, rfl, trivial⟩) rfl fun b2 => ?_
 refine .store (.t rfl) (.t rfl) (i := 0) rfl ty24 rfl rfl (Ss' := [_, _, _]) rfl (M' := [(some _, cellM [_, _, _]), _]) rfl ?_
 refine nl (.thn (k2 _ _ ?_))
 refine .cv (Cv.wk (.k 0 rfl (.k 1 rfl (.k 2 rfl (.k 6 rfl (.k 7 rfl .nil)))))) ?_
 refine .seq fun _ k3 => ?_
 refine .seq fun _ k4 => ?_
 refine .cv (Cv.growF (Bool × List Nat) (i := 0) (o := 2) rfl rfl rfl) ?_
 refine .memEq (M' := [grMK zc Gr.nil [], _, _]) rfl ?_
 refine .region (st (.mv (.t rfl)) rfl ?_)
 refine st (.nilcP (.t rfl)) rfl ?_
 refine st (.fieldAddrP (.t rfl) fld108_0 ty59 (Ss' := [_, _, _]) rfl) rfl ?_
 refine st (.loadP1 (.t rfl) ty59) rfl ?_
 refine st (.len sl59 (.t rfl)) rfl (st (.mv (Has.cI 0 rfl)) rfl ?_)
 refine nl (.thn (k4 _ _ ?_))
 refine .block ?_
 refine .loopF [1, 2, 6, 7, 22, 23] (fun (z : { z : Nat × Gr (Bool × List Nat) // z.1 ≤ rs.length }) => match z with | ⟨(i, g), hI⟩ => [(24, isI (i : Int))]) (fun M => fun (z : { z : Nat × Gr (Bool × List Nat) // z.1 ≤ rs.length }) => match z with | ⟨(i, g), hI⟩ => [grMK zc g ((flatP lo hi (rs.take i)).map nz), (some b2, cellM [isI (rs.length : Int), isI ((hi - lo : Nat) : Int), isGr g ((flatP lo hi (rs.take i)).map nz).length]), (some b1, cellM [isI 0, isI 0, nilS])]) (fun (z : { z : Nat × Gr (Bool × List Nat) // z.1 ≤ rs.length }) => match z with | ⟨(i, g), hI⟩ => rs.length - i) (⟨(0, Gr.nil), Nat.zero_le _⟩) (Cv.mem (.cons (t := 24) (Has.t' rfl ?_) (.k 1 rfl (.k 2 rfl (.k 6 rfl (.k 7 rfl (.k 22 rfl (.k 23 rfl .nil))))))) ?_) ?_
 ·rfl
 ·rfl
 rintro ⟨⟨i, g⟩, hI⟩ K5 hK5
 refine .cv (Cv.wk (.k 24 rfl (.k 1 rfl (.k 2 rfl (.k 6 rfl (.k 7 rfl (.k 22 rfl (.k 23 rfl .nil)))))))) ?_
 refine .memEq (M' := [grMK zc g ((flatP lo hi (rs.take i)).map nz), (some b2, cellM [isI (rs.length : Int), isI ((hi - lo : Nat) : Int), isGr g ((flatP lo hi (rs.take i)).map nz).length]), (some b1, cellM [isI 0, isI 0, nilS])]) rfl ?_
 simp only [] at hI
 have hfl := hmx i hI
 refine .seq fun _ k6 => .region (st (.ltI (.t rfl) (.t rfl)) rfl ?_)
 refine nl (.thn (k6 _ _ ?_))
 refine .seq fun _ k7 => ?_
 refine .cond (.t rfl) (fun hc1 => ?_) (fun hc1 => ?_)
 ·have hc1 := BP.t hc1
  obtain ⟨r, hr⟩ : ∃ r, rs[i]? = some r := ⟨_, List.getElem?_eq_getElem (by omega)⟩
  have hrW := hrow r (List.mem_of_getElem? hr)
  have hrm : (((r.take hi).drop lo).map nz).length = hi - lo := by rw [List.length_map, List.length_drop, List.length_take]; omega
  refine .skip ?_
  refine .thn (k7 _ _ ?_)
  refine .seq fun _ k8 => ?_
  refine .block ?_
  refine .seq fun _ k9 => .region (st (.ixP sl59 ty22 (.t rfl) (.t rfl) ⟨by omega, by omega⟩ hr) rfl ?_)
  refine st (.loadP1 (.t rfl) ty22) rfl ?_
  refine st (.as (.t rfl)) rfl ?_
  refine nl (.thn (k9 _ _ ?_))
  refine .dry mixed ?_
  refine .tk 0 rfl rfl rfl rfl (OKY.fieldAddr (.t rfl) fld24_2 ty22) ?_
  refine .tk 2 rfl rfl rfl rfl (OKY.mv (.t rfl)) ?_
  refine .tk 3 rfl rfl rfl rfl (OKY.mv (.t rfl)) ?_
  refine .tk 4 rfl rfl rfl rfl (OKY.mv (.t rfl)) ?_
  refine .go [] ?_
  refine .s 1 [] rfl rfl rfl (.o rfl (.load1 (.t rfl) (i := 1) rfl ty22 rfl)) ?_
  refine .s 5 [] rfl rfl rfl (.o rfl (.eq (.slLHK sl22 ty30 zc_len (.t rfl) (.t rfl) (.t rfl) ⟨by omega, by omega, by rw [List.length_map]; omega⟩) ((show _ = SlK 2 zc (((r.take hi).drop lo).map nz) from SlK_eq (by rw [List.map_drop, List.map_take]; rfl))))) ?_
  refine .fin [6, 7, 8] (by kernel_rfl) (by kernel_rfl) (fun _ _ _ _ _ h => h) (by kernel_rfl) (by kernel_rfl) (by kernel_rfl) (by kernel_rfl) (by kernel_rfl) (by kernel_rfl) (by kernel_rfl) (by kernel_rfl) (by kernel_rfl) ?_
  refine .cv (Cv.wk (.k 1 rfl (.k 2 rfl (.k 6 rfl (.k 7 rfl (.k 22 rfl (.k 23 rfl (.k 24 rfl (.k 25 rfl (.k 26 rfl (.k 27 rfl (.k 9 rfl (.k 28 rfl (.k 30 rfl (.k 31 rfl (.k 32 rfl (.k 29 rfl (.k 33 rfl .nil)))))))))))))))))) ?_
  refine .appendGK0 (fk := zc) (u := (false, [])) zc_len (by decide) (fun _ => inferInstance) sl22 ty30 zero30 (fun _ _ => ⟨rfl, nilM _ _, trivial⟩) by30 (.t rfl) (i := 0) rfl (.t rfl) (by rw [List.length_map, hrm]; omega) rfl fun gr1 => ?_
  refine .memEq (M' := [grMK _ _ _, _, _]) rfl ?_
  refine st (.fieldAddr (.t rfl) fld24_2 ty22) rfl ?_
  refine .store (.t rfl) (.t rfl) (i := 1) rfl ty22 rfl rfl (Ss' := [_, _, _]) rfl (M' := [_, (some _, cellM [_, _, _]), _]) rfl ?_
  refine nl ?_
  refine .bln ?_
  refine .thn (k8 _ _ ?_)
  refine .region (st (.addI (.t rfl) (Has.cI 1 rfl) (by first | omega | assumption) (by first | omega | assumption)) rfl ?_)
  refine st (.mv (.t rfl)) rfl ?_
  refine nl ?_
  refine .thn ?_
  refine hK5 (⟨(i + 1, gr1), by show i + 1 ≤ rs.length; omega⟩) _ _ ?_ (Cv.mem (.cons (t := 24) (Has.t' rfl ?_) (.k 1 rfl (.k 2 rfl (.k 6 rfl (.k 7 rfl (.k 22 rfl (.k 23 rfl .nil))))))) ?_)
  ·show rs.length - (i + 1) < rs.length - i; omega
  ·exact isI_eq (by omega)
  ·exact grF_eq (by rw [flatP_succ hr, List.map_append, List.length_append]) (by rw [flatP_succ hr, List.map_append])
 ·have hc1 := BP.f hc1
  refine .exit ?_
  refine .the ?_
  refine .the ?_
  refine .blh ?_
  refine .thn (k3 _ _ ?_)
  refine .cv (Cv.wk (.k 6 rfl (.k 7 rfl .nil))) ?_
  refine .seq fun _ k10 => ?_
  refine .cv (Cv.freezeF (k := 2) (i := 0) (j := 0) (o := 2) rfl rfl rfl rfl (gr_lenK zc_len) (gr_takeK zc_len) (Ss' := [_, _, SlK 2 zc ((flatP lo hi (rs.take i)).map nz)]) rfl) ?_
  refine .memEq (M' := [(some _, cellM [_, _, SlK 2 zc ((flatP lo hi (rs.take i)).map nz)]), _]) rfl ?_
  refine .cv (Cv.wk (.k 6 rfl (.k 7 rfl .nil))) ?_
  refine .region (st (.load (.t rfl) (i := 0) rfl ty24 rfl (Ss' := [_, _, _]) rfl) rfl ?_)
  refine .store (.t rfl) (.t rfl) (i := 1) rfl ty24 rfl rfl (Ss' := [_, _, _]) rfl (M' := [_, (some _, cellM [_, _, _])]) rfl ?_
  refine nl (.thn (k10 _ _ ?_))
  refine .ret ?_
  refine rt1 (.inl rfl) Try.results80 rfl (.cell rfl (i := 1) rfl ty24 rfl ?_ .nil)
  all_goals (exact isMz_eq (by rw [List.take_of_length_le (by omega)]))
end Go.Proofs.Ythkdmhaafanjlaa
namespace Go.Hp
open Go.Dt Go.Hn Go.Pz Go.Nt Go.Mz Go.En
theorem latL_form {R C K : Nat} {L : List Int} (hb : Bd L K) : HermF (pivL C (mf C (hL R C L)) R).length C (mf C (latL R C L)) := by
 have hp := pivL_len C (mf C (hL R C L)) R
 exact ((hL_form (R := R) (C := C) hb).sub hp).congr fun i k hi hk => latL_at hi hk
end Go.Hp
