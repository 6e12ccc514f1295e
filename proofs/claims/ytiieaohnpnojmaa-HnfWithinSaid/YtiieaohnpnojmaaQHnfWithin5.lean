/- Rules and contracts, part 5 of 6. -/
import Derived.Test.YtiieaohnpnojmaaQHnfWithin4
/- Contracts: two rows are joined. -/
namespace Go.Proofs.Ytiieaohnpnojmaa
open Go.En Go.RowKit
set_option linter.unusedVariables false
set_option maxRecDepth 10000
open Go.Nt
open Go.Pz
open Go.Mz
open Go.Hn
set_option maxHeartbeats 4000000 in
theorem hnf_join {bw C : Nat} {gt : Gr (List Int)} {rs : List (List Int)} {t i col W P K : Nat} (hrow : ∀ r ∈ rs, r.length = W) (hti : t < i) (hi : i < rs.length) (hc : col < W) (hW : W ≤ 128) (hR : rs.length ≤ 64) (hpB : ∀ r ∈ rs, Bd r P) (hqB : Bd (rs.getD i []) K) (hPK : P + K ≤ 90000000) : CtrX Try.prog 164 [isPtr bw 0, isI (i : Int), isI (col : Int)] (hwM bw gt rs C t) (fun S M => S = isTup [] ∧ M = hwM bw gt (jn rs t i col) C t) := by
  refine CtrX.intro Try.func164 rfl (by kernel_rfl) Try.ntmps164 rfl fun w0 F0 => ?_
  refine Tri.cv (Cv.wk (.cons (t := 0) (Has.t rfl) (.cons (t := 1) (Has.t rfl) (.cons (t := 2) (Has.t rfl) .nil)))) ?_
  refine Tri.fact (Has.rngI (Has.t (t := 1) rfl)) fun lt1 => ?_
  refine Tri.fact (Has.rngI (Has.t (t := 2) rfl)) fun lt2 => ?_
  obtain ⟨p, hp⟩ : ∃ p, rs[t]? = some p := ⟨_, List.getElem?_eq_getElem (by omega)⟩
  obtain ⟨q, hq⟩ : ∃ q, rs[i]? = some q := ⟨_, List.getElem?_eq_getElem hi⟩
  have hpl := hrow p (List.mem_of_getElem? hp)
  have hql := hrow q (List.mem_of_getElem? hq)
  rw [getD_of hq] at hqB
  have hpP := hpB p (List.mem_of_getElem? hp)
  have hpc := hpP col
  have hqc := hqB col
  have hxn := xgx_nw (cf p col) (cf q col) hqc
  have hyn := xgy_nw (cf p col) (cf q col) hpc
  have hgn : (List.length (words (xgg (cf p col) (cf q col)).natAbs)) ≤ P + K := by
    unfold xgg
    rw [Int.natAbs_natCast]
    refine Nat.le_trans (nw_mono (gcd_le_max _ _)) ?_
    have := nw_max (cf p col).natAbs (cf q col).natAbs
    omega
  have hun := nz_tdiv (cf p col) (xgg (cf p col) (cf q col))
  have hvn := nz_tdiv (cf q col) (xgg (cf p col) (cf q col))
  refine Tri.seq fun K1 hK1 => ?_
  refine Tri.dr ?_
  refine DrG.st (i := 0) [] rfl rfl rfl (by kernel_rfl) (OKG.o rfl (OK1.mv (Has.t rfl))) ?_
  refine DrG.st (i := 1) [15] rfl rfl rfl (by kernel_rfl) (OKG.o rfl (OK1.nilc (Has.t rfl))) ?_
  refine DrG.st (i := 2) [16] rfl rfl rfl (by kernel_rfl) (OKG.o rfl (OK1.fieldAddr (Has.t rfl) fld133_0 ty131)) ?_
  refine DrG.st (i := 3) [17] rfl rfl rfl (by kernel_rfl) (OKG.o rfl (OK1.load1 (Has.t rfl) (i := 0) rfl ty131 rfl)) ?_
  refine DrG.st (i := 4) [] rfl rfl rfl (by kernel_rfl) (OKG.o rfl (OK1.mv (Has.t rfl))) ?_
  refine DrG.st (i := 5) [19] rfl rfl rfl (by kernel_rfl) (OKG.o rfl (OK1.nilc (Has.t rfl))) ?_
  refine DrG.st (i := 6) [20] rfl rfl rfl (by kernel_rfl) (OKG.o rfl (OK1.fieldAddr (Has.t rfl) fld133_2 ty3)) ?_
  refine DrG.st (i := 7) [21] rfl rfl rfl (by kernel_rfl) (OKG.o rfl (OK1.load1 (Has.t rfl) (i := 0) rfl ty3 rfl)) ?_
  refine DrG.st (i := 8) [18, 22] rfl rfl rfl (by kernel_rfl) (OKG.o rfl (OK1.ixGr sl131 ty61 (Has.t rfl) (Has.t rfl) ⟨by omega, by omega⟩)) ?_
  refine DrG.st (i := 9) [23] rfl rfl rfl (by kernel_rfl) (OKG.o rfl (OK1.loadGM (Has.t rfl) (i := 1) rfl ty61 hp)) ?_
  refine DrG.st (i := 10) [] rfl rfl rfl (by kernel_rfl) (OKG.o rfl (OK1.mv (Has.t rfl))) ?_
  refine DrG.st (i := 11) [25] rfl rfl rfl (by kernel_rfl) (OKG.o rfl (OK1.nilc (Has.t rfl))) ?_
  refine DrG.st (i := 12) [26] rfl rfl rfl (by kernel_rfl) (OKG.o rfl (OK1.fieldAddr (Has.t rfl) fld133_0 ty131)) ?_
  refine DrG.st (i := 13) [27] rfl rfl rfl (by kernel_rfl) (OKG.o rfl (OK1.load1 (Has.t rfl) (i := 0) rfl ty131 rfl)) ?_
  refine DrG.st (i := 14) [] rfl rfl rfl (by kernel_rfl) (OKG.o rfl (OK1.mv (Has.t rfl))) ?_
  refine DrG.st (i := 15) [28, 29] rfl rfl rfl (by kernel_rfl) (OKG.o rfl (OK1.ixGr sl131 ty61 (Has.t rfl) (Has.t rfl) ⟨by omega, by omega⟩)) ?_
  refine DrG.st (i := 16) [30] rfl rfl rfl (by kernel_rfl) (OKG.o rfl (OK1.loadGM (Has.t rfl) (i := 1) rfl ty61 hq)) ?_
  refine DrG.st (i := 17) [24] rfl rfl rfl (by kernel_rfl) (OKG.o rfl (OK1.as (Has.t rfl))) ?_
  refine DrG.fin (n := 18) mixed (by kernel_rfl) (by kernel_rfl) (by kernel_rfl) ?_
  refine Ops.cv (Cv.wk (.cons (t := 0) (Has.t rfl) (.cons (t := 1) (Has.t rfl) (.cons (t := 2) (Has.t rfl) (.cons (t := 31) (Has.t rfl) (.cons (t := 6) (Has.t rfl) .nil)))))) ?_
  refine st (OK1.as (Has.t rfl)) rfl ?_
  refine nl ?_
  refine At.thn (hK1 _ _ ?_); clear hK1
  refine Tri.seq fun K2 hK2 => ?_
  refine Tri.drh [true, true] (Ms := [_, _]) rfl ?_
  refine DrH.st (i := 0) [] rfl rfl rfl (by kernel_rfl) (OKG.o rfl (OK1.mv (Has.t rfl))) ?_
  refine DrH.st (i := 1) [] rfl rfl rfl (by kernel_rfl) (OKG.o rfl (OK1.mv (Has.t rfl))) ?_
  refine DrH.st (i := 2) [33, 34] rfl rfl rfl (by kernel_rfl) (OKG.o rfl (OK1.ixK sl61 ty72 (Has.t rfl) (Has.t rfl) zc_len ⟨by omega, by rw [List.length_map]; omega⟩ (getZ (i := col) (by omega)))) ?_
  refine DrH.st (i := 3) [35] rfl rfl rfl (by kernel_rfl) (OKG.o rfl (OK1.loadP (Has.t rfl) ty72 rfl (Ss' := [_, _]) rfl)) ?_
  refine DrH.st (i := 4) [] rfl rfl rfl (by kernel_rfl) (OKG.o rfl (OK1.mv (Has.t rfl))) ?_
  refine DrH.st (i := 5) [] rfl rfl rfl (by kernel_rfl) (OKG.o rfl (OK1.mv (Has.t rfl))) ?_
  refine DrH.st (i := 6) [37, 38] rfl rfl rfl (by kernel_rfl) (OKG.o rfl (OK1.ixK sl61 ty72 (Has.t rfl) (Has.t rfl) zc_len ⟨by omega, by rw [List.length_map]; omega⟩ (getZ (i := col) (by omega)))) ?_
  refine DrH.st (i := 7) [39] rfl rfl rfl (by kernel_rfl) (OKG.o rfl (OK1.loadP (Has.t rfl) ty72 rfl (Ss' := [_, _]) rfl)) ?_
  refine DrH.st (i := 8) [36, 40] rfl rfl rfl (by kernel_rfl) (OKG.o rfl (OK1.eq (OK1.call (zint_XgcdA (by rw [val_words]; omega) (by rw [val_words]; omega)) (.cons (Has.t rfl) (.cons (Has.t rfl) .nil))) ((show _ = isTup [isZ (xgg (cf p col) (cf q col)), isZ (xgx (cf p col) (cf q col)), isZ (xgy (cf p col) (cf q col))] from by simp only [zv_nz, zv_nf])))) ?_
  refine DrH.st (i := 9) [41] rfl rfl rfl (by kernel_rfl) (OKG.o rfl (OK1.mv (Has.t rfl))) ?_
  refine DrH.st (i := 10) [32] rfl rfl rfl (by kernel_rfl) (OKG.o rfl (OK1.ext (Has.t rfl) rfl)) ?_
  refine DrH.st (i := 11) [32] rfl rfl rfl (by kernel_rfl) (OKG.o rfl (OK1.ext (Has.t rfl) rfl)) ?_
  refine DrH.st (i := 12) [32] rfl rfl rfl (by kernel_rfl) (OKG.o rfl (OK1.ext (Has.t rfl) rfl)) ?_
  refine DrH.als (n1 := 16) (ds := [8, 9, 10]) (zs := [[isB false, SlM isU []], [isB false, SlM isU []], [isB false, SlM isU []]]) rfl (.cons rfl rfl zero72 (fun _ _ => ⟨rfl, nilM _ _, trivial⟩) (.cons rfl rfl zero72 (fun _ _ => ⟨rfl, nilM _ _, trivial⟩) (.cons rfl rfl zero72 (fun _ _ => ⟨rfl, nilM _ _, trivial⟩) .nil))) (.cons_cons _ (.cons_cons _ .slnil)) (Cs := [_, _, _]) rfl ?_
  refine DrN.new [42] 0 (Ss' := [_, _]) (Cs' := [cellM [_, _], _, _]) rfl (by kernel_rfl) (by kernel_rfl) rfl rfl rfl (by kernel_rfl) rfl (Has.t rfl) ty72 rfl rfl rfl rfl ?_
  refine DrN.new [43] 1 (Ss' := [_, _]) (Cs' := [_, cellM [_, _], _]) rfl (by kernel_rfl) (by kernel_rfl) rfl rfl rfl (by kernel_rfl) rfl (Has.t rfl) ty72 rfl rfl rfl rfl ?_
  refine DrN.fin (n := 18) mixed rfl (by kernel_rfl) (by kernel_rfl) (by kernel_rfl) (fun bs hbs => ?_)
  obtain ⟨b1, b2, b3, rfl⟩ := len3 hbs
  refine Ops.memEq (M' := [_, _, _, _, _]) rfl ?_
  refine Ops.cv (Cv.wk (.cons (t := 0) (Has.t rfl) (.cons (t := 1) (Has.t rfl) (.cons (t := 2) (Has.t rfl) (.cons (t := 6) (Has.t rfl) (.cons (t := 7) (Has.t rfl) (.cons (t := 44) (Has.t rfl) (.cons (t := 8) (Has.op rfl) (.cons (t := 9) (Has.op rfl) (.cons (t := 10) (Has.op rfl) .nil)))))))))) ?_
  refine Ops.store (Has.t rfl) (Has.t rfl) (i := 2) rfl ty72 rfl rfl (Ss' := [_, _]) rfl (M' := [_, _, (some _, cellM [_, _]), _, _]) rfl ?_
  refine nl ?_
  refine At.thn (hK2 _ _ ?_); clear hK2
  refine Tri.seq fun K3 hK3 => ?_
  refine Tri.seq fun K4 hK4 => ?_
  refine Tri.region ?_
  refine st (OK1.load (Has.t rfl) (i := 0) rfl ty72 rfl (Ss' := [_, _]) rfl) rfl ?_
  refine st (OK1.eq (OK1.call (zint_Sign (by rw [val_words]; omega)) (.cons (Has.t rfl) .nil)) ((show _ = isI (sgn (xgg (cf p col) (cf q col))) from by rw [zv_nf]))) rfl ?_
  refine st (OK1.eqI (Has.t rfl) (Has.cI 0 rfl)) rfl ?_
  refine nl ?_
  refine At.thn (hK4 _ _ ?_); clear hK4
  refine Tri.cond (Has.t rfl) (fun hc1 => ?_) (fun hc1 => ?_)
  · have hc1 := BP.t hc1
    have hg0 := (sgn_eq0 _).1 hc1
    refine Tri.ret ?_
    refine At.thr ?_
    refine rtX0D (.cons _ (.cons _ (.cons _ (.cons_cons _ (.cons_cons _ .slnil))))) (.inl rfl) Try.results164 rfl ?_
    exact ⟨rfl, hwM_eq (jn_no hp hq hg0).symm (by rw [jn_len])⟩
  · have hc1 := BP.f hc1
    have hg0 : ¬ (xgg (cf p col) (cf q col)) = 0 := fun e => hc1 ((sgn_eq0 _).2 e)
    refine Tri.skip ?_
    refine At.thn (hK3 _ _ ?_); clear hK3
    refine Tri.seq fun K5 hK5 => ?_
    refine Tri.drh [true, true, true, true, true] (Ms := [_, _, _, _, _]) rfl ?_
    refine DrH.st (i := 0) [] rfl rfl rfl (by kernel_rfl) (OKG.o rfl (OK1.mv (Has.t rfl))) ?_
    refine DrH.st (i := 1) [] rfl rfl rfl (by kernel_rfl) (OKG.o rfl (OK1.mv (Has.t rfl))) ?_
    refine DrH.st (i := 2) [49, 50] rfl rfl rfl (by kernel_rfl) (OKG.o rfl (OK1.ixK sl61 ty72 (Has.t rfl) (Has.t rfl) zc_len ⟨by omega, by rw [List.length_map]; omega⟩ (getZ (i := col) (by omega)))) ?_
    refine DrH.st (i := 3) [51] rfl rfl rfl (by kernel_rfl) (OKG.o rfl (OK1.loadP (Has.t rfl) ty72 rfl (Ss' := [_, _]) rfl)) ?_
    refine DrH.st (i := 4) [] rfl rfl rfl (by kernel_rfl) (OKG.o rfl (OK1.load (Has.t rfl) (i := 0) rfl ty72 rfl (Ss' := [_, _]) rfl)) ?_
    refine DrH.st (i := 5) [52, 53] rfl rfl rfl (by kernel_rfl) (OKG.o rfl (OK1.call (zint_Exact (by rw [val_words]; omega) (by rw [val_words]; omega)) (.cons (Has.t rfl) (.cons (Has.t rfl) .nil)))) ?_
    refine DrH.st (i := 6) [54] rfl rfl rfl (by kernel_rfl) (OKG.o rfl (OK1.mv (Has.t rfl))) ?_
    refine DrH.st (i := 7) [48] rfl rfl rfl (by kernel_rfl) (OKG.o rfl (OK1.eq (OK1.ext (Has.t rfl) rfl) ((show _ = isZ ((cf p col).tdiv (xgg (cf p col) (cf q col))) from isZ_eq (by simp only [zv_nz, zv_nf]; exact if_pos ⟨hg0, Int.tmod_eq_zero_of_dvd (xgg_left _ _)⟩))))) ?_
    refine DrH.st (i := 8) [48] rfl rfl rfl (by kernel_rfl) (OKG.o rfl (OK1.ext (Has.t rfl) rfl)) ?_
    refine DrH.als (n1 := 10) (ds := [11]) (zs := [[isB false, SlM isU []]]) rfl (.cons rfl rfl zero72 (fun _ _ => ⟨rfl, nilM _ _, trivial⟩) .nil) (.cons_cons _ (.cons_cons _ (.cons_cons _ (.cons_cons _ (.cons_cons _ .slnil))))) (Cs := [_]) rfl ?_
    refine DrN.new [55] 0 (Ss' := [_, _]) (Cs' := [cellM [_, _]]) rfl (by kernel_rfl) (by kernel_rfl) rfl rfl rfl (by kernel_rfl) rfl (Has.t rfl) ty72 rfl rfl rfl rfl ?_
    refine DrN.fin (n := 11) mixed rfl (by kernel_rfl) (by kernel_rfl) (by kernel_rfl) (fun bs hbs => ?_)
    obtain ⟨b4, rfl⟩ := len1 hbs
    refine Ops.memEq (M' := [_, _, _, _, _, _]) rfl ?_
    refine Ops.cv (Cv.wk (.cons (t := 0) (Has.t rfl) (.cons (t := 1) (Has.t rfl) (.cons (t := 2) (Has.t rfl) (.cons (t := 6) (Has.t rfl) (.cons (t := 7) (Has.t rfl) (.cons (t := 8) (Has.t rfl) (.cons (t := 9) (Has.t rfl) (.cons (t := 10) (Has.t rfl) (.cons (t := 56) (Has.t rfl) (.cons (t := 11) (Has.op rfl) .nil))))))))))) ?_
    refine st (OK1.as (Has.t rfl)) rfl ?_
    refine nl ?_
    refine At.thn (hK5 _ _ ?_); clear hK5
    refine Tri.seq fun K6 hK6 => ?_
    refine Tri.drh [true, true, true, true, true, true] (Ms := [_, _, _, _, _, _]) rfl ?_
    refine DrH.st (i := 0) [] rfl rfl rfl (by kernel_rfl) (OKG.o rfl (OK1.mv (Has.t rfl))) ?_
    refine DrH.st (i := 1) [] rfl rfl rfl (by kernel_rfl) (OKG.o rfl (OK1.mv (Has.t rfl))) ?_
    refine DrH.st (i := 2) [58, 59] rfl rfl rfl (by kernel_rfl) (OKG.o rfl (OK1.ixK sl61 ty72 (Has.t rfl) (Has.t rfl) zc_len ⟨by omega, by rw [List.length_map]; omega⟩ (getZ (i := col) (by omega)))) ?_
    refine DrH.st (i := 3) [60] rfl rfl rfl (by kernel_rfl) (OKG.o rfl (OK1.loadP (Has.t rfl) ty72 rfl (Ss' := [_, _]) rfl)) ?_
    refine DrH.st (i := 4) [] rfl rfl rfl (by kernel_rfl) (OKG.o rfl (OK1.load (Has.t rfl) (i := 1) rfl ty72 rfl (Ss' := [_, _]) rfl)) ?_
    refine DrH.st (i := 5) [61, 62] rfl rfl rfl (by kernel_rfl) (OKG.o rfl (OK1.call (zint_Exact (by rw [val_words]; omega) (by rw [val_words]; omega)) (.cons (Has.t rfl) (.cons (Has.t rfl) .nil)))) ?_
    refine DrH.st (i := 6) [63] rfl rfl rfl (by kernel_rfl) (OKG.o rfl (OK1.mv (Has.t rfl))) ?_
    refine DrH.st (i := 7) [57] rfl rfl rfl (by kernel_rfl) (OKG.o rfl (OK1.eq (OK1.ext (Has.t rfl) rfl) ((show _ = isZ ((cf q col).tdiv (xgg (cf p col) (cf q col))) from isZ_eq (by simp only [zv_nz, zv_nf]; exact if_pos ⟨hg0, Int.tmod_eq_zero_of_dvd (xgg_right _ _)⟩))))) ?_
    refine DrH.st (i := 8) [57] rfl rfl rfl (by kernel_rfl) (OKG.o rfl (OK1.ext (Has.t rfl) rfl)) ?_
    refine DrH.als (n1 := 10) (ds := [13]) (zs := [[isB false, SlM isU []]]) rfl (.cons rfl rfl zero72 (fun _ _ => ⟨rfl, nilM _ _, trivial⟩) .nil) (.cons_cons _ (.cons_cons _ (.cons_cons _ (.cons_cons _ (.cons_cons _ (.cons_cons _ .slnil)))))) (Cs := [_]) rfl ?_
    refine DrN.new [64] 0 (Ss' := [_, _]) (Cs' := [cellM [_, _]]) rfl (by kernel_rfl) (by kernel_rfl) rfl rfl rfl (by kernel_rfl) rfl (Has.t rfl) ty72 rfl rfl rfl rfl ?_
    refine DrN.fin (n := 11) mixed rfl (by kernel_rfl) (by kernel_rfl) (by kernel_rfl) (fun bs hbs => ?_)
    obtain ⟨b5, rfl⟩ := len1 hbs
    refine Ops.memEq (M' := [_, _, _, _, _, _, _]) rfl ?_
    refine Ops.cv (Cv.wk (.cons (t := 0) (Has.t rfl) (.cons (t := 1) (Has.t rfl) (.cons (t := 6) (Has.t rfl) (.cons (t := 7) (Has.t rfl) (.cons (t := 9) (Has.t rfl) (.cons (t := 10) (Has.t rfl) (.cons (t := 11) (Has.t rfl) (.cons (t := 65) (Has.t rfl) (.cons (t := 13) (Has.op rfl) .nil)))))))))) ?_
    refine st (OK1.as (Has.t rfl)) rfl ?_
    refine nl ?_
    refine At.thn (hK6 _ _ ?_); clear hK6
    refine Tri.dry mixed ?_
    refine DrB.take (i := 0) rfl rfl rfl rfl (by kernel_rfl) (by kernel_rfl) (by kernel_rfl) (by kernel_rfl) (fun _ _ _ _ h => h) (OKY.mv (Has.t rfl)) ?_
    refine DrB.take (i := 1) rfl rfl rfl rfl (by kernel_rfl) (by kernel_rfl) (by kernel_rfl) (by kernel_rfl) (fun _ _ _ _ h => h) (OKY.nilc (Has.t rfl)) ?_
    refine DrB.take (i := 2) rfl rfl rfl rfl (by kernel_rfl) (by kernel_rfl) (by kernel_rfl) (by kernel_rfl) (fun _ _ _ _ h => h) (OKY.fieldAddr (Has.t rfl) fld133_0 ty131) ?_
    refine DrB.take (i := 4) rfl rfl rfl rfl (by kernel_rfl) (by kernel_rfl) (by kernel_rfl) (by kernel_rfl) (fun _ _ _ _ h => h) (OKY.mv (Has.t rfl)) ?_
    refine DrB.take (i := 5) rfl rfl rfl rfl (by kernel_rfl) (by kernel_rfl) (by kernel_rfl) (by kernel_rfl) (fun _ _ _ _ h => h) (OKY.nilc (Has.t rfl)) ?_
    refine DrB.take (i := 6) rfl rfl rfl rfl (by kernel_rfl) (by kernel_rfl) (by kernel_rfl) (by kernel_rfl) (fun _ _ _ _ h => h) (OKY.fieldAddr (Has.t rfl) fld133_2 ty3) ?_
    refine DrB.take (i := 8) rfl rfl rfl rfl (by kernel_rfl) (by kernel_rfl) (by kernel_rfl) (by kernel_rfl) (fun _ _ _ _ h => h) (OKY.mv (Has.t rfl)) ?_
    refine DrB.take (i := 9) rfl rfl rfl rfl (by kernel_rfl) (by kernel_rfl) (by kernel_rfl) (by kernel_rfl) (fun _ _ _ _ h => h) (OKY.nilc (Has.t rfl)) ?_
    refine DrB.take (i := 10) rfl rfl rfl rfl (by kernel_rfl) (by kernel_rfl) (by kernel_rfl) (by kernel_rfl) (fun _ _ _ _ h => h) (OKY.fieldAddr (Has.t rfl) fld133_0 ty131) ?_
    refine DrB.take (i := 12) rfl rfl rfl rfl (by kernel_rfl) (by kernel_rfl) (by kernel_rfl) (by kernel_rfl) (fun _ _ _ _ h => h) (OKY.mv (Has.t rfl)) ?_
    refine DrB.take (i := 14) rfl rfl rfl rfl (by kernel_rfl) (by kernel_rfl) (by kernel_rfl) (by kernel_rfl) (fun _ _ _ _ h => h) (OKY.mv (Has.t rfl)) ?_
    refine DrB.take (i := 16) rfl rfl rfl rfl (by kernel_rfl) (by kernel_rfl) (by kernel_rfl) (by kernel_rfl) (fun _ _ _ _ h => h) (OKY.mv (Has.t rfl)) ?_
    refine DrB.take (i := 20) rfl rfl rfl rfl (by kernel_rfl) (by kernel_rfl) (by kernel_rfl) (by kernel_rfl) (fun _ _ _ _ h => h) (OKY.mv (Has.t rfl)) ?_
    refine DrB.take (i := 22) rfl rfl rfl rfl (by kernel_rfl) (by kernel_rfl) (by kernel_rfl) (by kernel_rfl) (fun _ _ _ _ h => h) (OKY.mv (Has.t rfl)) ?_
    refine DrB.go [] ?_
    refine DrC.st (i := 3) [] rfl rfl rfl (by kernel_rfl) (by kernel_rfl) (OKG.o rfl (OK1.load1 (Has.t rfl) (i := 5) rfl ty131 rfl)) ?_
    refine DrC.st (i := 7) [] rfl rfl rfl (by kernel_rfl) (by kernel_rfl) (OKG.o rfl (OK1.load1 (Has.t rfl) (i := 5) rfl ty3 rfl)) ?_
    refine DrC.st (i := 11) [] rfl rfl rfl (by kernel_rfl) (by kernel_rfl) (OKG.o rfl (OK1.load1 (Has.t rfl) (i := 5) rfl ty131 rfl)) ?_
    refine DrC.st (i := 13) [] rfl rfl rfl (by kernel_rfl) (by kernel_rfl) (OKG.o rfl (OK1.load (Has.t rfl) (i := 3) rfl ty72 rfl (Ss' := [_, _]) rfl)) ?_
    refine DrC.st (i := 15) [] rfl rfl rfl (by kernel_rfl) (by kernel_rfl) (OKG.o rfl (OK1.load (Has.t rfl) (i := 4) rfl ty72 rfl (Ss' := [_, _]) rfl)) ?_
    refine DrC.st (i := 17) [79, 81] rfl rfl rfl (by kernel_rfl) (by kernel_rfl) (OKG.o rfl (OK1.eq (OK1.call (hnf_mixed (A := K + 1) (B := P + 2) (K := P) (L := K) (by rw [val_words]; omega) (by rw [vals_nz]; exact hpP) (by rw [val_words]; omega) (by rw [vals_nz]; exact hqB) (by omega) (by omega) (by rw [List.length_map, List.length_map]; omega) (by rw [List.length_map]; omega)) (.cons (Has.t rfl) (.cons (Has.t rfl) (.cons (Has.t rfl) (.cons (Has.t rfl) .nil))))) ((show _ = isP (mx2 (xgx (cf p col) (cf q col)) p (xgy (cf p col) (cf q col)) q) from isPl_eq (by simp only [zv_nf, vals_nz]))))) ?_
    refine DrC.st (i := 18) [] rfl rfl rfl (by kernel_rfl) (by kernel_rfl) (OKG.o rfl (OK1.load (Has.t rfl) (i := 0) rfl ty72 rfl (Ss' := [_, _]) rfl)) ?_
    refine DrC.st (i := 19) [84] rfl rfl rfl (by kernel_rfl) (by kernel_rfl) (OKG.o rfl (OK1.call (zint_Neg (by rw [val_words]; omega)) (.cons (Has.t rfl) .nil))) ?_
    refine DrC.st (i := 21) [] rfl rfl rfl (by kernel_rfl) (by kernel_rfl) (OKG.o rfl (OK1.load (Has.t rfl) (i := 1) rfl ty72 rfl (Ss' := [_, _]) rfl)) ?_
    refine DrC.st (i := 23) [85, 87] rfl rfl rfl (by kernel_rfl) (by kernel_rfl) (OKG.o rfl (OK1.eq (OK1.call (hnf_mixed (A := K) (B := P) (K := P) (L := K) (by rw [val_words, zv_nf, Int.natAbs_neg]; omega) (by rw [vals_nz]; exact hpP) (by rw [val_words]; omega) (by rw [vals_nz]; exact hqB) (by omega) (by omega) (by rw [List.length_map, List.length_map]; omega) (by rw [List.length_map]; omega)) (.cons (Has.t rfl) (.cons (Has.t rfl) (.cons (Has.t rfl) (.cons (Has.t rfl) .nil))))) ((show _ = isP (mx2 (-((cf q col).tdiv (xgg (cf p col) (cf q col)))) p ((cf p col).tdiv (xgg (cf p col) (cf q col))) q) from isPl_eq (by simp only [zv_nf, vals_nz]))))) ?_
    refine DrC.fin [24, 25, 26, 27] (by kernel_rfl) (by kernel_rfl) (fun _ _ _ _ _ h => h) (by kernel_rfl) (by kernel_rfl) (by kernel_rfl) (by kernel_rfl) (by kernel_rfl) (by kernel_rfl) (by kernel_rfl) (by kernel_rfl) (by kernel_rfl) ?_
    refine Ops.cv (Cv.wk (.cons (t := 78) (Has.t rfl) (.cons (t := 69) (Has.t rfl) (.cons (t := 73) (Has.t rfl) (.cons (t := 77) (Has.t rfl) (.cons (t := 83) (Has.t rfl) (.cons (t := 89) (Has.t rfl) .nil))))))) ?_
    refine st (OK1.ixGr sl131 ty61 (Has.t rfl) (Has.t rfl) ⟨by omega, by omega⟩) rfl ?_
    refine Ops.storeGM (z := mx2 (xgx (cf p col) (cf q col)) p (xgy (cf p col) (cf q col)) q) (Has.t rfl) (Has.t rfl) (i := 6) rfl ty61 (by omega) (M' := [_, _, _, _, _, _, grM _ _ _]) rfl ?_
    refine st (OK1.ixGr sl131 ty61 (Has.t rfl) (Has.t rfl) ⟨by omega, by omega⟩) rfl ?_
    refine Ops.storeGM (z := mx2 (-((cf q col).tdiv (xgg (cf p col) (cf q col)))) p ((cf p col).tdiv (xgg (cf p col) (cf q col))) q) (Has.t rfl) (Has.t rfl) (i := 6) rfl ty61 (by rw [List.length_set]; omega) (M' := [_, _, _, _, _, _, grM _ _ _]) rfl ?_
    refine nl ?_
    refine rtX0D (.cons _ (.cons _ (.cons _ (.cons _ (.cons _ (.cons_cons _ (.cons_cons _ .slnil))))))) (.inr rfl) Try.results164 rfl ?_
    exact ⟨rfl, hwM_eq (jn_go hp hq hg0).symm (by rw [jn_len])⟩
end Go.Proofs.Ytiieaohnpnojmaa
/- Contracts: what is above a pivot is reduced. -/
namespace Go.Proofs.Ytiieaohnpnojmaa
open Go.En Go.RowKit
set_option linter.unusedVariables false
set_option maxRecDepth 10000
open Go.Nt
open Go.Pz
open Go.Mz
open Go.Hn
set_option maxHeartbeats 4000000 in
theorem hnf_reduce {bw C : Nat} {gt : Gr (List Int)} {rs : List (List Int)} {t col W P : Nat} (hrow : ∀ r ∈ rs, r.length = W) (ht : t < rs.length) (hc : col < W) (hW : W ≤ 128) (hR : rs.length ≤ 64) (hpB : ∀ r ∈ rs, Bd r P) (hP : P ≤ 90000000) (h0 : 0 < cf (rs.getD t []) col) : CtrX Try.prog 165 [isPtr bw 0, isI (col : Int)] (hwM bw gt rs C t) (fun S M => S = isTup [] ∧ M = hwM bw gt (rds rs t col t) C t) := by
  refine CtrX.intro Try.func165 rfl (by kernel_rfl) Try.ntmps165 rfl fun w0 F0 => ?_
  refine Tri.cv (Cv.wk (.cons (t := 0) (Has.t rfl) (.cons (t := 1) (Has.t rfl) .nil))) ?_
  refine Tri.fact (Has.rngI (Has.t (t := 1) rfl)) fun lt1 => ?_
  obtain ⟨b, hb⟩ : ∃ b, rs[t]? = some b := ⟨_, List.getElem?_eq_getElem ht⟩
  have hbl := hrow b (List.mem_of_getElem? hb)
  rw [getD_of hb] at h0
  have hbP := hpB b (List.mem_of_getElem? hb)
  have hbc := hbP col
  refine Tri.seq fun K1 hK1 => ?_
  refine Tri.dr ?_
  refine DrG.st (i := 0) [] rfl rfl rfl (by kernel_rfl) (OKG.o rfl (OK1.mv (Has.t rfl))) ?_
  refine DrG.st (i := 1) [9] rfl rfl rfl (by kernel_rfl) (OKG.o rfl (OK1.nilc (Has.t rfl))) ?_
  refine DrG.st (i := 2) [10] rfl rfl rfl (by kernel_rfl) (OKG.o rfl (OK1.fieldAddr (Has.t rfl) fld133_0 ty131)) ?_
  refine DrG.st (i := 3) [11] rfl rfl rfl (by kernel_rfl) (OKG.o rfl (OK1.load1 (Has.t rfl) (i := 0) rfl ty131 rfl)) ?_
  refine DrG.st (i := 4) [] rfl rfl rfl (by kernel_rfl) (OKG.o rfl (OK1.mv (Has.t rfl))) ?_
  refine DrG.st (i := 5) [13] rfl rfl rfl (by kernel_rfl) (OKG.o rfl (OK1.nilc (Has.t rfl))) ?_
  refine DrG.st (i := 6) [14] rfl rfl rfl (by kernel_rfl) (OKG.o rfl (OK1.fieldAddr (Has.t rfl) fld133_2 ty3)) ?_
  refine DrG.st (i := 7) [15] rfl rfl rfl (by kernel_rfl) (OKG.o rfl (OK1.load1 (Has.t rfl) (i := 0) rfl ty3 rfl)) ?_
  refine DrG.fin (n := 8) mixed (by kernel_rfl) (by kernel_rfl) (by kernel_rfl) ?_
  refine Ops.cv (Cv.wk (.cons (t := 0) (Has.t rfl) (.cons (t := 1) (Has.t rfl) (.cons (t := 12) (Has.t rfl) (.cons (t := 16) (Has.t rfl) .nil))))) ?_
  refine st (OK1.ixGr sl131 ty61 (Has.t rfl) (Has.t rfl) ⟨by omega, by omega⟩) rfl ?_
  refine st (OK1.loadGM (Has.t rfl) (i := 1) rfl ty61 hb) rfl ?_
  refine st (OK1.as (Has.t rfl)) rfl ?_
  refine nl ?_
  refine At.thn (hK1 _ _ ?_); clear hK1
  refine Tri.seq fun K2 hK2 => ?_
  refine Tri.region ?_
  refine st (OK1.mv (Has.t rfl)) rfl ?_
  refine st (OK1.nilc (Has.t rfl)) rfl ?_
  refine st (OK1.fieldAddr (Has.t rfl) fld133_2 ty3) rfl ?_
  refine st (OK1.load1 (Has.t rfl) (i := 0) rfl ty3 rfl) rfl ?_
  refine st (OK1.mv (Has.cI 0 rfl)) rfl ?_
  refine nl ?_
  refine At.thn (hK2 _ _ ?_); clear hK2
  refine Tri.cv (Cv.wk (.cons (t := 0) (Has.t rfl) (.cons (t := 1) (Has.t rfl) (.cons (t := 4) (Has.t rfl) (.cons (t := 22) (Has.t rfl) (.cons (t := 23) (Has.t rfl) .nil)))))) ?_
  refine Tri.block ?_
  refine Tri.loopF [0, 1, 4, 22] (fun (z : { i : Nat // i ≤ t }) => match z with | ⟨i, hi⟩ => [(23, isI (i : Int))]) (fun M => fun (z : { i : Nat // i ≤ t }) => match z with | ⟨i, hi⟩ => hwM bw gt (rds rs t col i) C t) (fun (z : { i : Nat // i ≤ t }) => match z with | ⟨i, hi⟩ => t - i) (⟨0, Nat.zero_le _⟩) (Cv.mem (.cons (t := 23) (Has.t' rfl ?_) (.cons (t := 0) (Has.t rfl) (.cons (t := 1) (Has.t rfl) (.cons (t := 4) (Has.t rfl) (.cons (t := 22) (Has.t rfl) .nil))))) ?_) ?_
  · rfl
  · rfl
  rintro ⟨i, hi⟩ K3 hK3
  refine Tri.cv (Cv.wk (.cons (t := 23) (Has.t rfl) (.cons (t := 0) (Has.t rfl) (.cons (t := 1) (Has.t rfl) (.cons (t := 4) (Has.t rfl) (.cons (t := 22) (Has.t rfl) .nil)))))) ?_
  refine Tri.memEq (M' := hwM bw gt (rds rs t col i) C t) rfl ?_
  have hlen := rds_len rs t col i
  have hb2 : (rds rs t col i)[t]? = some b := (rds_off hi).trans hb
  refine Tri.seq fun K4 hK4 => ?_
  refine Tri.region ?_
  refine st (OK1.ltI (Has.t rfl) (Has.t rfl)) rfl ?_
  refine nl ?_
  refine At.thn (hK4 _ _ ?_); clear hK4
  refine Tri.seq fun K5 hK5 => ?_
  refine Tri.cond (Has.t rfl) (fun hc1 => ?_) (fun hc1 => ?_)
  · have hc1 := BP.t hc1
    obtain ⟨r, hr⟩ : ∃ r, rs[i]? = some r := ⟨_, List.getElem?_eq_getElem (by omega)⟩
    have hr2 : (rds rs t col i)[i]? = some r := (rds_off (Nat.le_refl _)).trans hr
    have hrl := hrow r (List.mem_of_getElem? hr)
    have hrP := hpB r (List.mem_of_getElem? hr)
    have hrc := hrP col
    have hdn := div_nw h0 hrc
    have h1 := nz_one
    refine Tri.skip ?_
    refine At.thn (hK5 _ _ ?_); clear hK5
    refine Tri.seq fun K6 hK6 => ?_
    refine Tri.block ?_
    refine Tri.seq fun K7 hK7 => ?_
    refine Tri.region ?_
    refine st (OK1.mv (Has.t rfl)) rfl ?_
    refine st (OK1.as (Has.t rfl)) rfl ?_
    refine nl ?_
    refine At.thn (hK7 _ _ ?_); clear hK7
    refine Tri.seq fun K8 hK8 => ?_
    refine Tri.drh [true, true] (Ms := [_, _]) rfl ?_
    refine DrH.st (i := 0) [] rfl rfl rfl (by kernel_rfl) (OKG.o rfl (OK1.mv (Has.t rfl))) ?_
    refine DrH.st (i := 1) [27] rfl rfl rfl (by kernel_rfl) (OKG.o rfl (OK1.nilc (Has.t rfl))) ?_
    refine DrH.st (i := 2) [28] rfl rfl rfl (by kernel_rfl) (OKG.o rfl (OK1.fieldAddr (Has.t rfl) fld133_0 ty131)) ?_
    refine DrH.st (i := 3) [29] rfl rfl rfl (by kernel_rfl) (OKG.o rfl (OK1.load1 (Has.t rfl) (i := 0) rfl ty131 rfl)) ?_
    refine DrH.st (i := 4) [] rfl rfl rfl (by kernel_rfl) (OKG.o rfl (OK1.mv (Has.t rfl))) ?_
    refine DrH.st (i := 5) [30, 31] rfl rfl rfl (by kernel_rfl) (OKG.o rfl (OK1.ixGr sl131 ty61 (Has.t rfl) (Has.t rfl) ⟨by omega, by omega⟩)) ?_
    refine DrH.st (i := 6) [32] rfl rfl rfl (by kernel_rfl) (OKG.o rfl (OK1.loadGM (Has.t rfl) (i := 1) rfl ty61 hr2)) ?_
    refine DrH.st (i := 7) [] rfl rfl rfl (by kernel_rfl) (OKG.o rfl (OK1.mv (Has.t rfl))) ?_
    refine DrH.st (i := 8) [33, 34] rfl rfl rfl (by kernel_rfl) (OKG.o rfl (OK1.ixK sl61 ty72 (Has.t rfl) (Has.t rfl) zc_len ⟨by omega, by rw [List.length_map]; omega⟩ (getZ (i := col) (by omega)))) ?_
    refine DrH.st (i := 9) [35] rfl rfl rfl (by kernel_rfl) (OKG.o rfl (OK1.loadP (Has.t rfl) ty72 rfl (Ss' := [_, _]) rfl)) ?_
    refine DrH.st (i := 10) [] rfl rfl rfl (by kernel_rfl) (OKG.o rfl (OK1.mv (Has.t rfl))) ?_
    refine DrH.st (i := 11) [] rfl rfl rfl (by kernel_rfl) (OKG.o rfl (OK1.mv (Has.t rfl))) ?_
    refine DrH.st (i := 12) [37, 38] rfl rfl rfl (by kernel_rfl) (OKG.o rfl (OK1.ixK sl61 ty72 (Has.t rfl) (Has.t rfl) zc_len ⟨by omega, by rw [List.length_map]; omega⟩ (getZ (i := col) (by omega)))) ?_
    refine DrH.st (i := 13) [39] rfl rfl rfl (by kernel_rfl) (OKG.o rfl (OK1.loadP (Has.t rfl) ty72 rfl (Ss' := [_, _]) rfl)) ?_
    refine DrH.st (i := 14) [36, 40] rfl rfl rfl (by kernel_rfl) (OKG.o rfl (OK1.eq (OK1.call (zint_Floor (by rw [val_words]; omega) (by rw [val_words]; omega) (by simp only [zv_nf, zv_nz]; exact h0)) (.cons (Has.t rfl) (.cons (Has.t rfl) .nil))) ((show _ = isTup [isZ (cf r col / cf b col), isZ (cf r col % cf b col), isB true] from by simp only [zv_nz, zv_nf])))) ?_
    refine DrH.st (i := 15) [41] rfl rfl rfl (by kernel_rfl) (OKG.o rfl (OK1.mv (Has.t rfl))) ?_
    refine DrH.st (i := 16) [26] rfl rfl rfl (by kernel_rfl) (OKG.o rfl (OK1.ext (Has.t rfl) rfl)) ?_
    refine DrH.st (i := 17) [26] rfl rfl rfl (by kernel_rfl) (OKG.o rfl (OK1.ext (Has.t rfl) rfl)) ?_
    refine DrH.st (i := 18) [26] rfl rfl rfl (by kernel_rfl) (OKG.o rfl (OK1.ext (Has.t rfl) rfl)) ?_
    refine DrH.als (n1 := 21) (ds := [6, 7]) (zs := [[isB false, SlM isU []], [isB false, SlM isU []]]) rfl (.cons rfl rfl zero72 (fun _ _ => ⟨rfl, nilM _ _, trivial⟩) (.cons rfl rfl zero72 (fun _ _ => ⟨rfl, nilM _ _, trivial⟩) .nil)) (.cons_cons _ (.cons_cons _ .slnil)) (Cs := [_, _]) rfl ?_
    refine DrN.new [42] 0 (Ss' := [_, _]) (Cs' := [cellM [_, _], _]) rfl (by kernel_rfl) (by kernel_rfl) rfl rfl rfl (by kernel_rfl) rfl (Has.t rfl) ty72 rfl rfl rfl rfl ?_
    refine DrN.new [43] 1 (Ss' := [_, _]) (Cs' := [_, cellM [_, _]]) rfl (by kernel_rfl) (by kernel_rfl) rfl rfl rfl (by kernel_rfl) rfl (Has.t rfl) ty72 rfl rfl rfl rfl ?_
    refine DrN.fin (n := 23) mixed rfl (by kernel_rfl) (by kernel_rfl) (by kernel_rfl) (fun bs hbs => ?_)
    obtain ⟨b1, b2, rfl⟩ := len2 hbs
    refine Ops.memEq (M' := [_, _, _, _]) rfl ?_
    refine Ops.cv (Cv.wk (.cons (t := 0) (Has.t rfl) (.cons (t := 1) (Has.t rfl) (.cons (t := 4) (Has.t rfl) (.cons (t := 22) (Has.t rfl) (.cons (t := 23) (Has.t rfl) (.cons (t := 24) (Has.t rfl) (.cons (t := 25) (Has.t rfl) (.cons (t := 5) (Has.t rfl) (.cons (t := 27) (Has.t rfl) (.cons (t := 28) (Has.t rfl) (.cons (t := 29) (Has.t rfl) (.cons (t := 30) (Has.t rfl) (.cons (t := 31) (Has.t rfl) (.cons (t := 32) (Has.t rfl) (.cons (t := 33) (Has.t rfl) (.cons (t := 34) (Has.t rfl) (.cons (t := 35) (Has.t rfl) (.cons (t := 36) (Has.t rfl) (.cons (t := 37) (Has.t rfl) (.cons (t := 38) (Has.t rfl) (.cons (t := 39) (Has.t rfl) (.cons (t := 40) (Has.t rfl) (.cons (t := 41) (Has.t rfl) (.cons (t := 26) (Has.t rfl) (.cons (t := 42) (Has.t rfl) (.cons (t := 43) (Has.t rfl) (.cons (t := 44) (Has.t rfl) (.cons (t := 6) (Has.op rfl) (.cons (t := 7) (Has.op rfl) .nil)))))))))))))))))))))))))))))) ?_
    refine st (OK1.as (Has.t rfl)) rfl ?_
    refine nl ?_
    refine At.thn (hK8 _ _ ?_); clear hK8
    refine Tri.dry mixed ?_
    refine DrB.take (i := 0) rfl rfl rfl rfl (by kernel_rfl) (by kernel_rfl) (by kernel_rfl) (by kernel_rfl) (fun _ _ _ _ h => h) (OKY.mv (Has.t rfl)) ?_
    refine DrB.take (i := 1) rfl rfl rfl rfl (by kernel_rfl) (by kernel_rfl) (by kernel_rfl) (by kernel_rfl) (fun _ _ _ _ h => h) (OKY.nilc (Has.t rfl)) ?_
    refine DrB.take (i := 2) rfl rfl rfl rfl (by kernel_rfl) (by kernel_rfl) (by kernel_rfl) (by kernel_rfl) (fun _ _ _ _ h => h) (OKY.fieldAddr (Has.t rfl) fld133_0 ty131) ?_
    refine DrB.take (i := 4) rfl rfl rfl rfl (by kernel_rfl) (by kernel_rfl) (by kernel_rfl) (by kernel_rfl) (fun _ _ _ _ h => h) (OKY.mv (Has.t rfl)) ?_
    refine DrB.take (i := 6) rfl rfl rfl rfl (by kernel_rfl) (by kernel_rfl) (by kernel_rfl) (by kernel_rfl) (fun _ _ _ _ h => h) (OKY.mv (Has.t rfl)) ?_
    refine DrB.take (i := 7) rfl rfl rfl rfl (by kernel_rfl) (by kernel_rfl) (by kernel_rfl) (by kernel_rfl) (fun _ _ _ _ h => h) (OKY.nilc (Has.t rfl)) ?_
    refine DrB.take (i := 8) rfl rfl rfl rfl (by kernel_rfl) (by kernel_rfl) (by kernel_rfl) (by kernel_rfl) (fun _ _ _ _ h => h) (OKY.fieldAddr (Has.t rfl) fld133_0 ty131) ?_
    refine DrB.take (i := 10) rfl rfl rfl rfl (by kernel_rfl) (by kernel_rfl) (by kernel_rfl) (by kernel_rfl) (fun _ _ _ _ h => h) (OKY.mv (Has.t rfl)) ?_
    refine DrB.take (i := 15) rfl rfl rfl rfl (by kernel_rfl) (by kernel_rfl) (by kernel_rfl) (by kernel_rfl) (fun _ _ _ _ h => h) (OKY.mv (Has.t rfl)) ?_
    refine DrB.go [] ?_
    refine DrC.st (i := 3) [] rfl rfl rfl (by kernel_rfl) (by kernel_rfl) (OKG.o rfl (OK1.load1 (Has.t rfl) (i := 2) rfl ty131 rfl)) ?_
    refine DrC.st (i := 5) [] rfl rfl rfl (by kernel_rfl) (by kernel_rfl) (OKG.o rfl (OK1.call (zint_Of) (.cons (Has.cI 1 rfl) .nil))) ?_
    refine DrC.st (i := 9) [] rfl rfl rfl (by kernel_rfl) (by kernel_rfl) (OKG.o rfl (OK1.load1 (Has.t rfl) (i := 2) rfl ty131 rfl)) ?_
    refine DrC.st (i := 11) [54] rfl rfl rfl (by kernel_rfl) (by kernel_rfl) (OKG.o rfl (OK1.ixGr sl131 ty61 (Has.t rfl) (Has.t rfl) ⟨by omega, by omega⟩)) ?_
    refine DrC.st (i := 12) [56] rfl rfl rfl (by kernel_rfl) (by kernel_rfl) (OKG.o rfl (OK1.loadGM (Has.t rfl) (i := 3) rfl ty61 hr2)) ?_
    refine DrC.st (i := 13) [] rfl rfl rfl (by kernel_rfl) (by kernel_rfl) (OKG.o rfl (OK1.load (Has.t rfl) (i := 0) rfl ty72 rfl (Ss' := [_, _]) rfl)) ?_
    refine DrC.st (i := 14) [58] rfl rfl rfl (by kernel_rfl) (by kernel_rfl) (OKG.o rfl (OK1.call (zint_Neg (by rw [val_words]; omega)) (.cons (Has.t rfl) .nil))) ?_
    refine DrC.st (i := 16) [50, 57, 59] rfl rfl rfl (by kernel_rfl) (by kernel_rfl) (OKG.o rfl (OK1.eq (OK1.call (hnf_mixed (A := 1) (B := P) (K := P) (L := P) (by rw [val_words]; omega) (by rw [vals_nz]; exact hrP) (by rw [val_words, zv_nf, Int.natAbs_neg]; omega) (by rw [vals_nz]; exact hbP) (by omega) (by omega) (by rw [List.length_map, List.length_map]; omega) (by rw [List.length_map]; omega)) (.cons (Has.t rfl) (.cons (Has.t rfl) (.cons (Has.t rfl) (.cons (Has.t rfl) .nil))))) ((show _ = isP (mx2 1 r (-(cf r col / cf b col)) b) from isPl_eq (by simp only [zv_nf, vals_nz]))))) ?_
    refine DrC.fin [17, 18] (by kernel_rfl) (by kernel_rfl) (fun _ _ _ _ _ h => h) (by kernel_rfl) (by kernel_rfl) (by kernel_rfl) (by kernel_rfl) (by kernel_rfl) (by kernel_rfl) (by kernel_rfl) (by kernel_rfl) (by kernel_rfl) ?_
    refine Ops.cv (Cv.wk (.cons (t := 0) (Has.t rfl) (.cons (t := 1) (Has.t rfl) (.cons (t := 4) (Has.t rfl) (.cons (t := 22) (Has.t rfl) (.cons (t := 23) (Has.t rfl) (.cons (t := 24) (Has.t rfl) (.cons (t := 25) (Has.t rfl) (.cons (t := 5) (Has.t rfl) (.cons (t := 27) (Has.t rfl) (.cons (t := 28) (Has.t rfl) (.cons (t := 29) (Has.t rfl) (.cons (t := 30) (Has.t rfl) (.cons (t := 31) (Has.t rfl) (.cons (t := 32) (Has.t rfl) (.cons (t := 33) (Has.t rfl) (.cons (t := 34) (Has.t rfl) (.cons (t := 35) (Has.t rfl) (.cons (t := 36) (Has.t rfl) (.cons (t := 37) (Has.t rfl) (.cons (t := 38) (Has.t rfl) (.cons (t := 39) (Has.t rfl) (.cons (t := 40) (Has.t rfl) (.cons (t := 41) (Has.t rfl) (.cons (t := 26) (Has.t rfl) (.cons (t := 42) (Has.t rfl) (.cons (t := 43) (Has.t rfl) (.cons (t := 44) (Has.t rfl) (.cons (t := 6) (Has.t rfl) (.cons (t := 7) (Has.t rfl) (.cons (t := 45) (Has.t rfl) (.cons (t := 46) (Has.t rfl) (.cons (t := 47) (Has.t rfl) (.cons (t := 49) (Has.t rfl) (.cons (t := 51) (Has.t rfl) (.cons (t := 52) (Has.t rfl) (.cons (t := 53) (Has.t rfl) (.cons (t := 55) (Has.t rfl) (.cons (t := 60) (Has.t rfl) (.cons (t := 48) (Has.t rfl) (.cons (t := 50) (Has.t rfl) (.cons (t := 54) (Has.t rfl) (.cons (t := 56) (Has.t rfl) (.cons (t := 57) (Has.t rfl) (.cons (t := 58) (Has.t rfl) (.cons (t := 59) (Has.t rfl) (.cons (t := 61) (Has.t rfl) .nil))))))))))))))))))))))))))))))))))))))))))))))) ?_
    refine st (OK1.ixGr sl131 ty61 (Has.t rfl) (Has.t rfl) ⟨by omega, by omega⟩) rfl ?_
    refine Ops.storeGM (z := mx2 1 r (-(cf r col / cf b col)) b) (Has.t rfl) (Has.t rfl) (i := 3) rfl ty61 (by omega) (M' := [_, _, _, grM _ _ _]) rfl ?_
    refine nl ?_
    refine At.bln ?_
    refine At.thn (hK6 _ _ ?_); clear hK6
    refine Tri.region ?_
    refine st (OK1.addI (Has.t rfl) (Has.cI 1 rfl) (by first | omega | assumption) (by first | omega | assumption)) rfl ?_
    refine st (OK1.mv (Has.t rfl)) rfl ?_
    refine nl ?_
    refine At.thn ?_
    refine hK3 (⟨i + 1, by omega⟩) _ _ ?_ (Cv.trans (Cv.drop ((.cons _ (.cons _ (.cons_cons _ (.cons_cons _ .slnil)))))) (Cv.mem (.cons (t := 23) (Has.t' rfl ?_) (.cons (t := 0) (Has.t rfl) (.cons (t := 1) (Has.t rfl) (.cons (t := 4) (Has.t rfl) (.cons (t := 22) (Has.t rfl) .nil))))) ?_))
    · show t - (i + 1) < t - i; omega
    · exact isI_eq (by omega)
    · exact hwM_eq (rd_go hr2 hb2).symm (by show _ = (rds rs t col (i + 1)).length; rw [hlen, rds_len])
  · have hc1 := BP.f hc1
    refine Tri.exit ?_
    refine At.the ?_
    refine At.the ?_
    refine At.blh ?_
    refine rtX0D (.cons_cons _ (.cons_cons _ .slnil)) (.inr rfl) Try.results165 rfl ?_
    exact ⟨rfl, by rw [show t = i by omega]⟩
end Go.Proofs.Ytiieaohnpnojmaa
/- Contracts: a column is brought into form. -/
namespace Go.Proofs.Ytiieaohnpnojmaa
open Go.En Go.RowKit
set_option linter.unusedVariables false
set_option maxRecDepth 10000
open Go.Nt
open Go.Pz
open Go.Mz
open Go.Hn
set_option maxHeartbeats 4000000 in
theorem hnf_column {bw C : Nat} {gt : Gr (List Int)} {rs : List (List Int)} {t col W K : Nat} (hrow : ∀ r ∈ rs, r.length = W) (ht : t < rs.length) (hc : col < W) (hW : W ≤ 128) (hR : rs.length ≤ 64) (hb : ∀ r ∈ rs, Bd r K) (hK : (K + 3) * (rs.length + 2) ≤ 80000000) : CtrX Try.prog 115 [isPtr bw 0, isI (col : Int)] (hwM bw gt rs C t) (fun S M => S = isTup [] ∧ M = hwM bw gt (hcol ⟨rs, t⟩ col).rows C (hcol ⟨rs, t⟩ col).top) := by
  refine CtrX.intro Try.func115 rfl (by kernel_rfl) Try.ntmps115 rfl fun w0 F0 => ?_
  refine Tri.cv (Cv.wk (.cons (t := 0) (Has.t rfl) (.cons (t := 1) (Has.t rfl) .nil))) ?_
  refine Tri.fact (Has.rngI (Has.t (t := 1) rfl)) fun lt1 => ?_
  obtain ⟨N, hN⟩ : ∃ N, N = rs.length - (t + 1) := ⟨_, rfl⟩
  obtain ⟨P, hP⟩ : ∃ P, P = K + N * (K + 3) := ⟨_, rfl⟩
  have hK1 : (K + 3) * (rs.length + 2) = rs.length * (K + 3) + 2 * (K + 3) := by rw [Nat.mul_add, Nat.mul_comm (K + 3) rs.length, Nat.mul_comm (K + 3) 2]
  have hK2 : N * (K + 3) ≤ rs.length * (K + 3) := Nat.mul_le_mul_right _ (by omega)
  have hcl : hcol ⟨rs, t⟩ col = if cf ((jns rs t col N).getD t []) col = 0 then ⟨jns rs t col N, t⟩ else ⟨rds (hsg (jns rs t col N) t col) t col t, t + 1⟩ := by rw [hN]; rfl
  have hlenA := jns_len rs t col N
  obtain ⟨p, hp⟩ : ∃ p, (jns rs t col N)[t]? = some p := ⟨_, List.getElem?_eq_getElem (by omega)⟩
  have hrowA := jns_row hrow ht (col := col) N
  have hbA : ∀ r ∈ jns rs t col N, Bd r P := by rw [hP]; exact jns_bd hb N
  have hpl := hrowA p (List.mem_of_getElem? hp)
  have hpP := hbA p (List.mem_of_getElem? hp)
  have hpc := hpP col
  rw [getD_of hp] at hcl
  refine Tri.seq fun K1 hK1 => ?_
  refine Tri.seq fun K2 hK2 => ?_
  refine Tri.region ?_
  refine st (OK1.mv (Has.t rfl)) rfl ?_
  refine st (OK1.nilc (Has.t rfl)) rfl ?_
  refine st (OK1.fieldAddr (Has.t rfl) fld133_2 ty3) rfl ?_
  refine st (OK1.load1 (Has.t rfl) (i := 0) rfl ty3 rfl) rfl ?_
  refine st (OK1.addI (Has.t rfl) (Has.cI 1 rfl) (by first | omega | assumption) (by first | omega | assumption)) rfl ?_
  refine st (OK1.as (Has.t rfl)) rfl ?_
  refine nl ?_
  refine At.thn (hK2 _ _ ?_); clear hK2
  refine Tri.cv (Cv.wk (.cons (t := 0) (Has.t rfl) (.cons (t := 1) (Has.t rfl) (.cons (t := 4) (Has.t rfl) .nil)))) ?_
  refine Tri.block ?_
  refine Tri.loopF [0, 1] (fun (z : { n : Nat // n ≤ N }) => match z with | ⟨n, hn⟩ => [(4, isI ((t + 1 + n : Nat) : Int))]) (fun M => fun (z : { n : Nat // n ≤ N }) => match z with | ⟨n, hn⟩ => hwM bw gt (jns rs t col n) C t) (fun (z : { n : Nat // n ≤ N }) => match z with | ⟨n, hn⟩ => N - n) (⟨0, Nat.zero_le _⟩) (Cv.mem (.cons (t := 4) (Has.t' rfl ?_) (.cons (t := 0) (Has.t rfl) (.cons (t := 1) (Has.t rfl) .nil))) ?_) ?_
  · exact isI_eq (by omega)
  · rfl
  rintro ⟨n, hn⟩ K3 hK3
  refine Tri.cv (Cv.wk (.cons (t := 4) (Has.t rfl) (.cons (t := 0) (Has.t rfl) (.cons (t := 1) (Has.t rfl) .nil)))) ?_
  refine Tri.memEq (M' := hwM bw gt (jns rs t col n) C t) rfl ?_
  have hlen := jns_len rs t col n
  have hnK : n * (K + 3) ≤ N * (K + 3) := Nat.mul_le_mul_right _ hn
  refine Tri.seq fun K4 hK4 => ?_
  refine Tri.seq fun K5 hK5 => ?_
  refine Tri.region ?_
  refine st (OK1.mv (Has.t rfl)) rfl ?_
  refine st (OK1.mv (Has.t rfl)) rfl ?_
  refine st (OK1.nilc (Has.t rfl)) rfl ?_
  refine st (OK1.fieldAddr (Has.t rfl) fld133_0 ty131) rfl ?_
  refine st (OK1.load1 (Has.t rfl) (i := 0) rfl ty131 rfl) rfl ?_
  refine st (OK1.len sl131 (Has.t rfl)) rfl ?_
  refine st (OK1.ltI (Has.t rfl) (Has.t rfl)) rfl ?_
  refine nl ?_
  refine At.thn (hK5 _ _ ?_); clear hK5
  refine Tri.cond (Has.t rfl) (fun hc1 => ?_) (fun hc1 => ?_)
  · have hc1 := BP.t hc1
    skip
    refine Tri.skip ?_
    refine At.thn (hK4 _ _ ?_); clear hK4
    refine Tri.seq fun K6 hK6 => ?_
    refine Tri.block ?_
    refine Tri.region ?_
    refine st (OK1.mv (Has.t rfl)) rfl ?_
    refine st (OK1.mv (Has.t rfl)) rfl ?_
    refine st (OK1.mv (Has.t rfl)) rfl ?_
    refine Ops.callX (hnf_join (rs := jns rs t col n) (i := t + 1 + n) (col := col) (P := K + n * (K + 3)) (K := K) (jns_row hrow ht n) (by omega) (by omega) hc hW (by omega) (jns_bd hb n) (by rw [show (jns rs t col n).getD (t + 1 + n) [] = rs.getD (t + 1 + n) [] from by rw [List.getD, jns_far (Nat.le_refl _)]; rfl]; exact getD_bd hb _) (by omega)) (List.Perm.refl _) (.cons (Has.t rfl) (.cons (Has.t rfl) (.cons (Has.t rfl) .nil))) rfl ?_
    rintro _ _ ⟨rfl, rfl⟩
    refine Ops.memEq (M' := hwM bw gt (jns rs t col (n + 1)) C t) rfl ?_
    refine nl ?_
    refine At.bln ?_
    refine At.thn (hK6 _ _ ?_); clear hK6
    refine Tri.region ?_
    refine st (OK1.mv (Has.t rfl)) rfl ?_
    refine st (OK1.addI (Has.t rfl) (Has.cI 1 rfl) (by first | omega | assumption) (by first | omega | assumption)) rfl ?_
    refine st (OK1.as (Has.t rfl)) rfl ?_
    refine nl ?_
    refine At.thn ?_
    refine hK3 (⟨n + 1, by omega⟩) _ _ ?_ (Cv.mem (.cons (t := 4) (Has.t' rfl ?_) (.cons (t := 0) (Has.t rfl) (.cons (t := 1) (Has.t rfl) .nil))) ?_)
    · show N - (n + 1) < N - n; omega
    · exact isI_eq (by omega)
    · rfl
  · have hc1 := BP.f hc1
    have hnN : N = n := (by omega)
    subst hnN
    refine Tri.exit ?_
    refine At.the ?_
    refine At.the ?_
    refine At.blh ?_
    refine At.thn (hK1 _ _ ?_); clear hK1
    refine Tri.cv (Cv.wk (.cons (t := 0) (Has.t rfl) (.cons (t := 1) (Has.t rfl) .nil))) ?_
    refine Tri.cutF [0, 1] (fun (z : { c : List (List Int) // c = hsg (jns rs t col N) t col ∧ ¬ cf p col = 0 }) => match z with | ⟨c, hcs⟩ => []) (fun M => fun (z : { c : List (List Int) // c = hsg (jns rs t col N) t col ∧ ¬ cf p col = 0 }) => match z with | ⟨c, hcs⟩ => hwM bw gt c C t) (fun K7 hK7 => ?_) ?_
    · skip
      refine Tri.seq fun K8 hK8 => ?_
      refine Tri.dr ?_
      refine DrG.st (i := 0) [] rfl rfl rfl (by kernel_rfl) (OKG.o rfl (OK1.mv (Has.t rfl))) ?_
      refine DrG.st (i := 1) [23] rfl rfl rfl (by kernel_rfl) (OKG.o rfl (OK1.nilc (Has.t rfl))) ?_
      refine DrG.st (i := 2) [24] rfl rfl rfl (by kernel_rfl) (OKG.o rfl (OK1.fieldAddr (Has.t rfl) fld133_0 ty131)) ?_
      refine DrG.st (i := 3) [25] rfl rfl rfl (by kernel_rfl) (OKG.o rfl (OK1.load1 (Has.t rfl) (i := 0) rfl ty131 rfl)) ?_
      refine DrG.st (i := 4) [] rfl rfl rfl (by kernel_rfl) (OKG.o rfl (OK1.mv (Has.t rfl))) ?_
      refine DrG.st (i := 5) [27] rfl rfl rfl (by kernel_rfl) (OKG.o rfl (OK1.nilc (Has.t rfl))) ?_
      refine DrG.st (i := 6) [28] rfl rfl rfl (by kernel_rfl) (OKG.o rfl (OK1.fieldAddr (Has.t rfl) fld133_2 ty3)) ?_
      refine DrG.st (i := 7) [29] rfl rfl rfl (by kernel_rfl) (OKG.o rfl (OK1.load1 (Has.t rfl) (i := 0) rfl ty3 rfl)) ?_
      refine DrG.st (i := 8) [26, 30] rfl rfl rfl (by kernel_rfl) (OKG.o rfl (OK1.ixGr sl131 ty61 (Has.t rfl) (Has.t rfl) ⟨by omega, by omega⟩)) ?_
      refine DrG.st (i := 9) [31] rfl rfl rfl (by kernel_rfl) (OKG.o rfl (OK1.loadGM (Has.t rfl) (i := 1) rfl ty61 hp)) ?_
      refine DrG.st (i := 10) [] rfl rfl rfl (by kernel_rfl) (OKG.o rfl (OK1.mv (Has.t rfl))) ?_
      refine DrG.fin (n := 11) mixed (by kernel_rfl) (by kernel_rfl) (by kernel_rfl) ?_
      refine Ops.cv (Cv.wk (.cons (t := 0) (Has.t rfl) (.cons (t := 1) (Has.t rfl) (.cons (t := 32) (Has.t rfl) (.cons (t := 33) (Has.t rfl) .nil))))) ?_
      refine st (OK1.ixK sl61 ty72 (Has.t rfl) (Has.t rfl) zc_len ⟨by omega, by rw [List.length_map]; omega⟩ (getZ (i := col) (by omega))) rfl ?_
      refine st (OK1.loadP (Has.t rfl) ty72 rfl (Ss' := [_, _]) rfl) rfl ?_
      refine st (OK1.eq (OK1.call (zint_Sign (by rw [val_words]; omega)) (.cons (Has.t rfl) .nil)) ((show _ = isI (sgn (cf p col)) from by first | (rw [zv_nf]; done) | (rw [zv_nz]; done) | rfl))) rfl ?_
      refine nl ?_
      refine At.thn (hK8 _ _ ?_); clear hK8
      refine Tri.block ?_
      refine Tri.seq fun K9 hK9 => ?_
      refine Tri.region ?_
      refine st (OK1.eqI (Has.t rfl) (Has.cI 0 rfl)) rfl ?_
      refine st (OK1.as (Has.t rfl)) rfl ?_
      refine nl ?_
      refine At.thn (hK9 _ _ ?_); clear hK9
      refine Tri.cv (Cv.wk (.cons (t := 0) (Has.t rfl) (.cons (t := 1) (Has.t rfl) (.cons (t := 36) (Has.t rfl) (.cons (t := 37) (Has.t rfl) .nil))))) ?_
      refine Tri.cond (Has.t rfl) (fun hc2 => ?_) (fun hc2 => ?_)
      · have hc2 := BP.t hc2
        have h0 : cf p col = 0 := (sgn_eq0 _).1 hc2
        refine Tri.ret ?_
        refine At.blr ?_
        refine At.thr ?_
        refine rtX0 (.inl rfl) Try.results115 rfl ?_
        exact ⟨rfl, by rw [hcl, if_pos h0]⟩
      · have hc2 := BP.f hc2
        have h0 : ¬ cf p col = 0 := fun e => hc2 ((sgn_eq0 _).2 e)
        refine Tri.seq fun K10 hK10 => ?_
        refine Tri.region ?_
        refine st (OK1.eqI (Has.t rfl) (Has.cI (-1) rfl)) rfl ?_
        refine st (OK1.as (Has.t rfl)) rfl ?_
        refine nl ?_
        refine At.thn (hK10 _ _ ?_); clear hK10
        refine Tri.cond (Has.t rfl) (fun hc3 => ?_) (fun hc3 => ?_)
        · have hc3 := BP.t hc3
          have hl0 : cf p col < 0 := (sgn_lt _).1 (by omega)
          refine Tri.dry mixed ?_
          refine DrB.take (i := 0) rfl rfl rfl rfl (by kernel_rfl) (by kernel_rfl) (by kernel_rfl) (by kernel_rfl) (fun _ _ _ _ h => h) (OKY.mv (Has.t rfl)) ?_
          refine DrB.take (i := 1) rfl rfl rfl rfl (by kernel_rfl) (by kernel_rfl) (by kernel_rfl) (by kernel_rfl) (fun _ _ _ _ h => h) (OKY.nilc (Has.t rfl)) ?_
          refine DrB.take (i := 2) rfl rfl rfl rfl (by kernel_rfl) (by kernel_rfl) (by kernel_rfl) (by kernel_rfl) (fun _ _ _ _ h => h) (OKY.fieldAddr (Has.t rfl) fld133_0 ty131) ?_
          refine DrB.take (i := 4) rfl rfl rfl rfl (by kernel_rfl) (by kernel_rfl) (by kernel_rfl) (by kernel_rfl) (fun _ _ _ _ h => h) (OKY.mv (Has.t rfl)) ?_
          refine DrB.take (i := 5) rfl rfl rfl rfl (by kernel_rfl) (by kernel_rfl) (by kernel_rfl) (by kernel_rfl) (fun _ _ _ _ h => h) (OKY.nilc (Has.t rfl)) ?_
          refine DrB.take (i := 6) rfl rfl rfl rfl (by kernel_rfl) (by kernel_rfl) (by kernel_rfl) (by kernel_rfl) (fun _ _ _ _ h => h) (OKY.fieldAddr (Has.t rfl) fld133_2 ty3) ?_
          refine DrB.take (i := 9) rfl rfl rfl rfl (by kernel_rfl) (by kernel_rfl) (by kernel_rfl) (by kernel_rfl) (fun _ _ _ _ h => h) (OKY.mv (Has.t rfl)) ?_
          refine DrB.take (i := 10) rfl rfl rfl rfl (by kernel_rfl) (by kernel_rfl) (by kernel_rfl) (by kernel_rfl) (fun _ _ _ _ h => h) (OKY.nilc (Has.t rfl)) ?_
          refine DrB.take (i := 11) rfl rfl rfl rfl (by kernel_rfl) (by kernel_rfl) (by kernel_rfl) (by kernel_rfl) (fun _ _ _ _ h => h) (OKY.fieldAddr (Has.t rfl) fld133_0 ty131) ?_
          refine DrB.take (i := 13) rfl rfl rfl rfl (by kernel_rfl) (by kernel_rfl) (by kernel_rfl) (by kernel_rfl) (fun _ _ _ _ h => h) (OKY.mv (Has.t rfl)) ?_
          refine DrB.take (i := 14) rfl rfl rfl rfl (by kernel_rfl) (by kernel_rfl) (by kernel_rfl) (by kernel_rfl) (fun _ _ _ _ h => h) (OKY.nilc (Has.t rfl)) ?_
          refine DrB.take (i := 15) rfl rfl rfl rfl (by kernel_rfl) (by kernel_rfl) (by kernel_rfl) (by kernel_rfl) (fun _ _ _ _ h => h) (OKY.fieldAddr (Has.t rfl) fld133_2 ty3) ?_
          refine DrB.take (i := 20) rfl rfl rfl rfl (by kernel_rfl) (by kernel_rfl) (by kernel_rfl) (by kernel_rfl) (fun _ _ _ _ h => h) (OKY.mv (Has.t rfl)) ?_
          refine DrB.take (i := 21) rfl rfl rfl rfl (by kernel_rfl) (by kernel_rfl) (by kernel_rfl) (by kernel_rfl) (fun _ _ _ _ h => h) (OKY.nilc (Has.t rfl)) ?_
          refine DrB.take (i := 22) rfl rfl rfl rfl (by kernel_rfl) (by kernel_rfl) (by kernel_rfl) (by kernel_rfl) (fun _ _ _ _ h => h) (OKY.fieldAddr (Has.t rfl) fld133_0 ty131) ?_
          refine DrB.take (i := 24) rfl rfl rfl rfl (by kernel_rfl) (by kernel_rfl) (by kernel_rfl) (by kernel_rfl) (fun _ _ _ _ h => h) (OKY.mv (Has.t rfl)) ?_
          refine DrB.take (i := 25) rfl rfl rfl rfl (by kernel_rfl) (by kernel_rfl) (by kernel_rfl) (by kernel_rfl) (fun _ _ _ _ h => h) (OKY.nilc (Has.t rfl)) ?_
          refine DrB.take (i := 26) rfl rfl rfl rfl (by kernel_rfl) (by kernel_rfl) (by kernel_rfl) (by kernel_rfl) (fun _ _ _ _ h => h) (OKY.fieldAddr (Has.t rfl) fld133_2 ty3) ?_
          refine DrB.go [] ?_
          refine DrC.st (i := 3) [] rfl rfl rfl (by kernel_rfl) (by kernel_rfl) (OKG.o rfl (OK1.load1 (Has.t rfl) (i := 0) rfl ty131 rfl)) ?_
          refine DrC.st (i := 7) [] rfl rfl rfl (by kernel_rfl) (by kernel_rfl) (OKG.o rfl (OK1.load1 (Has.t rfl) (i := 0) rfl ty3 rfl)) ?_
          refine DrC.st (i := 8) [] rfl rfl rfl (by kernel_rfl) (by kernel_rfl) (OKG.o rfl (OK1.call (zint_Of) (.cons (Has.cI (-1) rfl) .nil))) ?_
          refine DrC.st (i := 12) [] rfl rfl rfl (by kernel_rfl) (by kernel_rfl) (OKG.o rfl (OK1.load1 (Has.t rfl) (i := 0) rfl ty131 rfl)) ?_
          refine DrC.st (i := 16) [] rfl rfl rfl (by kernel_rfl) (by kernel_rfl) (OKG.o rfl (OK1.load1 (Has.t rfl) (i := 0) rfl ty3 rfl)) ?_
          refine DrC.st (i := 17) [53, 57] rfl rfl rfl (by kernel_rfl) (by kernel_rfl) (OKG.o rfl (OK1.ixGr sl131 ty61 (Has.t rfl) (Has.t rfl) ⟨by omega, by omega⟩)) ?_
          refine DrC.st (i := 18) [58] rfl rfl rfl (by kernel_rfl) (by kernel_rfl) (OKG.o rfl (OK1.loadGM (Has.t rfl) (i := 1) rfl ty61 hp)) ?_
          refine DrC.st (i := 19) [] rfl rfl rfl (by kernel_rfl) (by kernel_rfl) (OKG.o rfl (OK1.build [isB false, SlM isU []] pl72 zero72 (fun _ _ => ⟨rfl, nilM _ _, trivial⟩) .nil (Z'' := [_, _]) rfl)) ?_
          refine DrC.st (i := 23) [] rfl rfl rfl (by kernel_rfl) (by kernel_rfl) (OKG.o rfl (OK1.load1 (Has.t rfl) (i := 0) rfl ty131 rfl)) ?_
          refine DrC.st (i := 27) [] rfl rfl rfl (by kernel_rfl) (by kernel_rfl) (OKG.o rfl (OK1.load1 (Has.t rfl) (i := 0) rfl ty3 rfl)) ?_
          refine DrC.st (i := 28) [64, 68] rfl rfl rfl (by kernel_rfl) (by kernel_rfl) (OKG.o rfl (OK1.ixGr sl131 ty61 (Has.t rfl) (Has.t rfl) ⟨by omega, by omega⟩)) ?_
          refine DrC.st (i := 29) [69] rfl rfl rfl (by kernel_rfl) (by kernel_rfl) (OKG.o rfl (OK1.loadGM (Has.t rfl) (i := 1) rfl ty61 hp)) ?_
          refine DrC.st (i := 30) [49, 59, 60, 70] rfl rfl rfl (by kernel_rfl) (by kernel_rfl) (OKG.o rfl (OK1.eq (OK1.call (hnf_mixed (A := 1) (B := 1) (K := P) (L := P) (by rw [val_words]; exact nw_small' (by decide)) (by rw [vals_nz]; exact hpP) (by exact nw_small' (by decide)) (by rw [vals_nz]; exact hpP) (by omega) (by omega) rfl (by rw [List.length_map]; omega)) (.cons (Has.t rfl) (.cons (Has.t rfl) (.cons (Has.t rfl) (.cons (Has.t rfl) .nil))))) ((show _ = isP (mx2 (-1) p 0 p) from isPl_eq (by simp only [zv_nf, vals_nz]; rfl))))) ?_
          refine DrC.fin [31, 32] (by kernel_rfl) (by kernel_rfl) (fun _ _ _ _ _ h => h) (by kernel_rfl) (by kernel_rfl) (by kernel_rfl) (by kernel_rfl) (by kernel_rfl) (by kernel_rfl) (by kernel_rfl) (by kernel_rfl) (by kernel_rfl) ?_
          refine Ops.cv (Cv.wk (.cons (t := 0) (Has.t rfl) (.cons (t := 1) (Has.t rfl) (.cons (t := 44) (Has.t rfl) (.cons (t := 48) (Has.t rfl) (.cons (t := 71) (Has.t rfl) .nil)))))) ?_
          refine st (OK1.ixGr sl131 ty61 (Has.t rfl) (Has.t rfl) ⟨by omega, by omega⟩) rfl ?_
          refine Ops.storeGM (z := mx2 (-1) p 0 p) (Has.t rfl) (Has.t rfl) (i := 1) rfl ty61 (by omega) (M' := [_, grM _ _ _]) rfl ?_
          refine nl ?_
          refine At.bln ?_
          refine At.thn ?_
          refine hK7 (⟨_, rfl, h0⟩) _ _ (Cv.mem (.cons (t := 0) (Has.t rfl) (.cons (t := 1) (Has.t rfl) .nil)) ?_)
          · exact hwM_eq (by unfold hsg; rw [getD_of hp, if_pos hl0]; rfl) (by rw [hsg_len])
        · have hc3 := BP.f hc3
          have hl0 : ¬ cf p col < 0 := fun e => by rcases sgn_cases (cf p col) with h | h | h <;> omega
          refine Tri.skip ?_
          refine At.bln ?_
          refine At.thn ?_
          refine hK7 (⟨_, rfl, h0⟩) _ _ (Cv.mem (.cons (t := 0) (Has.t rfl) (.cons (t := 1) (Has.t rfl) .nil)) ?_)
          · exact hwM_eq (by unfold hsg; rw [getD_of hp, if_neg hl0]) (by rw [hsg_len])
    rintro ⟨c, hcs, h0⟩
    refine Tri.cv (Cv.wk (.cons (t := 0) (Has.t rfl) (.cons (t := 1) (Has.t rfl) .nil))) ?_
    refine Tri.memEq (M' := hwM bw gt c C t) rfl ?_
    subst hcs
    have hpos := hsg_pos hp h0
    refine Tri.seq fun K11 hK11 => ?_
    refine Tri.region ?_
    refine st (OK1.mv (Has.t rfl)) rfl ?_
    refine st (OK1.mv (Has.t rfl)) rfl ?_
    refine Ops.callX (hnf_reduce (rs := hsg (jns rs t col N) t col) (col := col) (P := P) (hsg_row hrowA (by omega)) (by rw [hsg_len]; omega) hc hW (by rw [hsg_len]; omega) (hsg_bd hbA) (by omega) hpos) (List.Perm.refl _) (.cons (Has.t rfl) (.cons (Has.t rfl) .nil)) rfl ?_
    rintro _ _ ⟨rfl, rfl⟩
    refine Ops.memEq (M' := hwM bw gt (rds (hsg (jns rs t col N) t col) t col t) C t) rfl ?_
    refine nl ?_
    refine At.thn (hK11 _ _ ?_); clear hK11
    refine Tri.region ?_
    refine st (OK1.mv (Has.t rfl)) rfl ?_
    refine st (OK1.nilc (Has.t rfl)) rfl ?_
    refine st (OK1.fieldAddr (Has.t rfl) fld133_2 ty3) rfl ?_
    refine st (OK1.load1 (Has.t rfl) (i := 0) rfl ty3 rfl) rfl ?_
    refine st (OK1.addI (Has.t rfl) (Has.cI 1 rfl) (by first | omega | assumption) (by first | omega | assumption)) rfl ?_
    refine st (OK1.nilc (Has.t rfl)) rfl ?_
    refine st (OK1.fieldAddr (Has.t rfl) fld133_2 ty3) rfl ?_
    refine Ops.store (Has.t rfl) (Has.t rfl) (i := 0) rfl ty3 rfl rfl (Ss' := [_, _, _]) rfl (M' := [(some _, cellM [_, _, _]), _]) rfl ?_
    refine nl ?_
    refine rtX0 (.inr rfl) Try.results115 rfl ?_
    exact ⟨rfl, (hwM_top (top' := t + 1) (by omega)).trans (by rw [hcl, if_neg h0])⟩
end Go.Proofs.Ytiieaohnpnojmaa
/- Contracts: parts of rows. -/
namespace Go.Proofs.Ytiieaohnpnojmaa
open Go.En Go.RowKit
set_option linter.unusedVariables false
set_option maxRecDepth 10000
open Go.Nt
open Go.Pz
open Go.Mz
open Go.Hn
set_option maxHeartbeats 4000000 in
theorem hnf_part {rs : List (List Int)} {W lo hi : Nat} {c tp : Int} (hrow : ∀ r ∈ rs, r.length = W) (h1 : lo ≤ hi) (h2 : hi ≤ W) (hW : W ≤ 128) (hR : rs.length ≤ 64) : Ctr Try.prog 116 [PtrL [SlM isP rs, isI c, isI tp], isI (lo : Int), isI (hi : Int)] (isMz rs.length (hi - lo) (flatP lo hi rs)) := by
  refine Ctr.intro Try.func116 rfl (by kernel_rfl) Try.ntmps116 rfl fun w0 F0 => ?_
  refine Tri.cv (Cv.wk (.cons (t := 0) (Has.t rfl) (.cons (t := 1) (Has.t rfl) (.cons (t := 2) (Has.t rfl) .nil)))) ?_
  refine Tri.fact (Has.rngI (Has.t (t := 1) rfl)) fun lt1 => ?_
  refine Tri.fact (Has.rngI (Has.t (t := 2) rfl)) fun lt2 => ?_
  have hmx : ∀ i, i ≤ rs.length → (flatP lo hi (rs.take i)).length ≤ 8192 := fun i hi' => by
    rw [flatP_len (rs := rs.take i) h1 h2 (fun r hr => hrow r (List.mem_of_mem_take hr)), List.length_take]
    exact Nat.le_trans (Nat.mul_le_mul (show _ ≤ 64 by omega) (show hi - lo ≤ 128 by omega)) (by decide)
  refine Tri.seq fun K1 hK1 => ?_
  refine Tri.region ?_
  refine Ops.alloc [isI 0, isI 0, nilS] zero63 (fun _ _ => ⟨⟨rfl, by decide, by decide⟩, ⟨rfl, by decide, by decide⟩, rfl, trivial⟩) rfl fun b1 => ?_
  refine nl ?_
  refine At.thn (hK1 _ _ ?_); clear hK1
  refine Tri.seq fun K2 hK2 => ?_
  refine Tri.region ?_
  refine st (OK1.mv (Has.t rfl)) rfl ?_
  refine st (OK1.nilcP (Has.t rfl)) rfl ?_
  refine st (OK1.fieldAddrP (Has.t rfl) fld133_0 ty131 (Ss' := [_, _, _]) rfl) rfl ?_
  refine st (OK1.loadP1 (Has.t rfl) ty131) rfl ?_
  refine st (OK1.len sl131 (Has.t rfl)) rfl ?_
  refine st (OK1.mv (Has.t rfl)) rfl ?_
  refine st (OK1.mv (Has.t rfl)) rfl ?_
  refine st (OK1.eq (OK1.subI (Has.t rfl) (Has.t rfl) (by first | omega | assumption) (by first | omega | assumption)) ((show isI _ = isI ((hi - lo : Nat) : Int) from isI_eq (by omega)))) rfl ?_
  refine st (OK1.build [isI 0, isI 0, nilS] pl63 zero63 (fun _ _ => ⟨⟨rfl, by decide, by decide⟩, ⟨rfl, by decide, by decide⟩, rfl, trivial⟩) (.cons (Has.t rfl) rfl rfl rfl (.cons (Has.t rfl) rfl rfl rfl .nil)) (Z'' := [_, _, _]) rfl) rfl ?_
  refine Ops.alloc [isI 0, isI 0, nilS] zero63 (fun _ _ => ⟨⟨rfl, by decide, by decide⟩, ⟨rfl, by decide, by decide⟩, rfl, trivial⟩) rfl fun b2 => ?_
  refine Ops.store (Has.t rfl) (Has.t rfl) (i := 0) rfl ty63 rfl rfl (Ss' := [_, _, _]) rfl (M' := [(some _, cellM [_, _, _]), _]) rfl ?_
  refine nl ?_
  refine At.thn (hK2 _ _ ?_); clear hK2
  refine Tri.cv (Cv.wk (.cons (t := 0) (Has.t rfl) (.cons (t := 1) (Has.t rfl) (.cons (t := 2) (Has.t rfl) (.cons (t := 6) (Has.t rfl) (.cons (t := 7) (Has.t rfl) .nil)))))) ?_
  refine Tri.seq fun K3 hK3 => ?_
  refine Tri.seq fun K4 hK4 => ?_
  refine Tri.cv (Cv.growF (Bool × List Nat) (i := 0) (o := 2) rfl rfl rfl) ?_
  refine Tri.memEq (M' := [grMK zc Gr.nil [], _, _]) rfl ?_
  refine Tri.region ?_
  refine st (OK1.mv (Has.t rfl)) rfl ?_
  refine st (OK1.nilcP (Has.t rfl)) rfl ?_
  refine st (OK1.fieldAddrP (Has.t rfl) fld133_0 ty131 (Ss' := [_, _, _]) rfl) rfl ?_
  refine st (OK1.loadP1 (Has.t rfl) ty131) rfl ?_
  refine st (OK1.len sl131 (Has.t rfl)) rfl ?_
  refine st (OK1.mv (Has.cI 0 rfl)) rfl ?_
  refine nl ?_
  refine At.thn (hK4 _ _ ?_); clear hK4
  refine Tri.block ?_
  refine Tri.loopF [1, 2, 6, 7, 22, 23] (fun (z : { z : Nat × Gr (Bool × List Nat) // z.1 ≤ rs.length }) => match z with | ⟨(i, g), hI⟩ => [(24, isI (i : Int))]) (fun M => fun (z : { z : Nat × Gr (Bool × List Nat) // z.1 ≤ rs.length }) => match z with | ⟨(i, g), hI⟩ => [grMK zc g ((flatP lo hi (rs.take i)).map nz), (some b2, cellM [isI (rs.length : Int), isI ((hi - lo : Nat) : Int), isGr g ((flatP lo hi (rs.take i)).map nz).length]), (some b1, cellM [isI 0, isI 0, nilS])]) (fun (z : { z : Nat × Gr (Bool × List Nat) // z.1 ≤ rs.length }) => match z with | ⟨(i, g), hI⟩ => rs.length - i) (⟨(0, Gr.nil), Nat.zero_le _⟩) (Cv.mem (.cons (t := 24) (Has.t' rfl ?_) (.cons (t := 1) (Has.t rfl) (.cons (t := 2) (Has.t rfl) (.cons (t := 6) (Has.t rfl) (.cons (t := 7) (Has.t rfl) (.cons (t := 22) (Has.t rfl) (.cons (t := 23) (Has.t rfl) .nil))))))) ?_) ?_
  · rfl
  · rfl
  rintro ⟨⟨i, g⟩, hI⟩ K5 hK5
  refine Tri.cv (Cv.wk (.cons (t := 24) (Has.t rfl) (.cons (t := 1) (Has.t rfl) (.cons (t := 2) (Has.t rfl) (.cons (t := 6) (Has.t rfl) (.cons (t := 7) (Has.t rfl) (.cons (t := 22) (Has.t rfl) (.cons (t := 23) (Has.t rfl) .nil)))))))) ?_
  refine Tri.memEq (M' := [grMK zc g ((flatP lo hi (rs.take i)).map nz), (some b2, cellM [isI (rs.length : Int), isI ((hi - lo : Nat) : Int), isGr g ((flatP lo hi (rs.take i)).map nz).length]), (some b1, cellM [isI 0, isI 0, nilS])]) rfl ?_
  simp only [] at hI
  have hfl := hmx i hI
  refine Tri.seq fun K6 hK6 => ?_
  refine Tri.region ?_
  refine st (OK1.ltI (Has.t rfl) (Has.t rfl)) rfl ?_
  refine nl ?_
  refine At.thn (hK6 _ _ ?_); clear hK6
  refine Tri.seq fun K7 hK7 => ?_
  refine Tri.cond (Has.t rfl) (fun hc1 => ?_) (fun hc1 => ?_)
  · have hc1 := BP.t hc1
    obtain ⟨r, hr⟩ : ∃ r, rs[i]? = some r := ⟨_, List.getElem?_eq_getElem (by omega)⟩
    have hrW := hrow r (List.mem_of_getElem? hr)
    have hrm : (((r.take hi).drop lo).map nz).length = hi - lo := by rw [List.length_map, List.length_drop, List.length_take]; omega
    refine Tri.skip ?_
    refine At.thn (hK7 _ _ ?_); clear hK7
    refine Tri.seq fun K8 hK8 => ?_
    refine Tri.block ?_
    refine Tri.seq fun K9 hK9 => ?_
    refine Tri.region ?_
    refine st (OK1.ixP sl131 ty61 (Has.t rfl) (Has.t rfl) ⟨by omega, by omega⟩ hr) rfl ?_
    refine st (OK1.loadP1 (Has.t rfl) ty61) rfl ?_
    refine st (OK1.as (Has.t rfl)) rfl ?_
    refine nl ?_
    refine At.thn (hK9 _ _ ?_); clear hK9
    refine Tri.dry mixed ?_
    refine DrB.take (i := 0) rfl rfl rfl rfl (by kernel_rfl) (by kernel_rfl) (by kernel_rfl) (by kernel_rfl) (fun _ _ _ _ h => h) (OKY.fieldAddr (Has.t rfl) fld63_2 ty61) ?_
    refine DrB.take (i := 2) rfl rfl rfl rfl (by kernel_rfl) (by kernel_rfl) (by kernel_rfl) (by kernel_rfl) (fun _ _ _ _ h => h) (OKY.mv (Has.t rfl)) ?_
    refine DrB.take (i := 3) rfl rfl rfl rfl (by kernel_rfl) (by kernel_rfl) (by kernel_rfl) (by kernel_rfl) (fun _ _ _ _ h => h) (OKY.mv (Has.t rfl)) ?_
    refine DrB.take (i := 4) rfl rfl rfl rfl (by kernel_rfl) (by kernel_rfl) (by kernel_rfl) (by kernel_rfl) (fun _ _ _ _ h => h) (OKY.mv (Has.t rfl)) ?_
    refine DrB.go [] ?_
    refine DrC.st (i := 1) [] rfl rfl rfl (by kernel_rfl) (by kernel_rfl) (OKG.o rfl (OK1.load1 (Has.t rfl) (i := 1) rfl ty61 rfl)) ?_
    refine DrC.st (i := 5) [] rfl rfl rfl (by kernel_rfl) (by kernel_rfl) (OKG.o rfl (OK1.eq (OK1.slLHK sl61 ty72 zc_len (Has.t rfl) (Has.t rfl) (Has.t rfl) ⟨by omega, by omega, by rw [List.length_map]; omega⟩) ((show _ = SlK 2 zc (((r.take hi).drop lo).map nz) from SlK_eq (by rw [List.map_drop, List.map_take]; rfl))))) ?_
    refine DrC.fin [6, 7, 8] (by kernel_rfl) (by kernel_rfl) (fun _ _ _ _ _ h => h) (by kernel_rfl) (by kernel_rfl) (by kernel_rfl) (by kernel_rfl) (by kernel_rfl) (by kernel_rfl) (by kernel_rfl) (by kernel_rfl) (by kernel_rfl) ?_
    refine Ops.cv (Cv.wk (.cons (t := 1) (Has.t rfl) (.cons (t := 2) (Has.t rfl) (.cons (t := 6) (Has.t rfl) (.cons (t := 7) (Has.t rfl) (.cons (t := 22) (Has.t rfl) (.cons (t := 23) (Has.t rfl) (.cons (t := 24) (Has.t rfl) (.cons (t := 25) (Has.t rfl) (.cons (t := 26) (Has.t rfl) (.cons (t := 27) (Has.t rfl) (.cons (t := 9) (Has.t rfl) (.cons (t := 28) (Has.t rfl) (.cons (t := 30) (Has.t rfl) (.cons (t := 31) (Has.t rfl) (.cons (t := 32) (Has.t rfl) (.cons (t := 29) (Has.t rfl) (.cons (t := 33) (Has.t rfl) .nil)))))))))))))))))) ?_
    refine Ops.appendGK0 (fk := zc) (u := (false, [])) zc_len (by decide) (fun _ => inferInstance) sl61 ty72 zero72 (fun _ _ => ⟨rfl, nilM _ _, trivial⟩) by72 (Has.t rfl) (i := 0) rfl (Has.t rfl) (by rw [List.length_map, hrm]; omega) rfl fun gr1 => ?_
    refine Ops.memEq (M' := [grMK _ _ _, _, _]) rfl ?_
    refine st (OK1.fieldAddr (Has.t rfl) fld63_2 ty61) rfl ?_
    refine Ops.store (Has.t rfl) (Has.t rfl) (i := 1) rfl ty61 rfl rfl (Ss' := [_, _, _]) rfl (M' := [_, (some _, cellM [_, _, _]), _]) rfl ?_
    refine nl ?_
    refine At.bln ?_
    refine At.thn (hK8 _ _ ?_); clear hK8
    refine Tri.region ?_
    refine st (OK1.addI (Has.t rfl) (Has.cI 1 rfl) (by first | omega | assumption) (by first | omega | assumption)) rfl ?_
    refine st (OK1.mv (Has.t rfl)) rfl ?_
    refine nl ?_
    refine At.thn ?_
    refine hK5 (⟨(i + 1, gr1), by show i + 1 ≤ rs.length; omega⟩) _ _ ?_ (Cv.mem (.cons (t := 24) (Has.t' rfl ?_) (.cons (t := 1) (Has.t rfl) (.cons (t := 2) (Has.t rfl) (.cons (t := 6) (Has.t rfl) (.cons (t := 7) (Has.t rfl) (.cons (t := 22) (Has.t rfl) (.cons (t := 23) (Has.t rfl) .nil))))))) ?_)
    · show rs.length - (i + 1) < rs.length - i; omega
    · exact isI_eq (by omega)
    · exact grF_eq (by rw [flatP_succ hr, List.map_append, List.length_append]) (by rw [flatP_succ hr, List.map_append])
  · have hc1 := BP.f hc1
    refine Tri.exit ?_
    refine At.the ?_
    refine At.the ?_
    refine At.blh ?_
    refine At.thn (hK3 _ _ ?_); clear hK3
    refine Tri.cv (Cv.wk (.cons (t := 6) (Has.t rfl) (.cons (t := 7) (Has.t rfl) .nil))) ?_
    refine Tri.seq fun K10 hK10 => ?_
    refine Tri.cv (Cv.freezeF (k := 2) (i := 0) (j := 0) (o := 2) rfl rfl rfl rfl (gr_lenK zc_len) (gr_takeK zc_len) (Ss' := [_, _, SlK 2 zc ((flatP lo hi (rs.take i)).map nz)]) rfl) ?_
    refine Tri.memEq (M' := [(some _, cellM [_, _, SlK 2 zc ((flatP lo hi (rs.take i)).map nz)]), _]) rfl ?_
    refine Tri.cv (Cv.wk (.cons (t := 6) (Has.t rfl) (.cons (t := 7) (Has.t rfl) .nil))) ?_
    refine Tri.region ?_
    refine st (OK1.load (Has.t rfl) (i := 0) rfl ty63 rfl (Ss' := [_, _, _]) rfl) rfl ?_
    refine Ops.store (Has.t rfl) (Has.t rfl) (i := 1) rfl ty63 rfl rfl (Ss' := [_, _, _]) rfl (M' := [_, (some _, cellM [_, _, _])]) rfl ?_
    refine nl ?_
    refine At.thn (hK10 _ _ ?_); clear hK10
    refine Tri.ret ?_
    refine rt1 (.inl rfl) Try.results116 rfl (.cell rfl (i := 1) rfl ty63 rfl ?_ .nil)
    all_goals (exact isMz_eq (by rw [List.take_of_length_le (by omega)]))
end Go.Proofs.Ytiieaohnpnojmaa
/- Contracts: Hermite's form. -/
namespace Go.Proofs.Ytiieaohnpnojmaa
open Go.En Go.RowKit
set_option linter.unusedVariables false
set_option maxRecDepth 10000
open Go.Nt
open Go.Pz
open Go.Mz
open Go.Hn
theorem hm_step {bw C c : Nat} {gt : Gr (List Int)} {s : HS} {m : Mem} (h : (hred s c).top < (hred s c).rows.length) : (hw0 bw gt (hcol (hred s c) c).rows.length C (hcol (hred s c) c).top :: grM isP gt (hcol (hred s c) c).rows :: m : Mem) = hw0 bw gt (hred s (c + 1)).rows.length C (hred s (c + 1)).top :: grM isP gt (hred s (c + 1)).rows :: m := by
  have e : hred s (c + 1) = hcol (hred s c) c := if_pos h
  rw [e]
theorem col_bd {K R c : Nat} (h : (K + 4) * (R + 2) ^ c ≤ 1000000) : ((K + 4) * (R + 2) ^ c - 3 + 3) * (R + 2) ≤ 1000000 * (R + 2) := Nat.mul_le_mul_right _ (by
  have : 1 ≤ (R + 2) ^ c := Nat.one_le_pow _ _ (by omega)
  have := Nat.mul_le_mul_left (K + 4) this
  omega)
theorem isMzp_eq {R C : Nat} {L : List Int} {s : HS} (hlen : s.rows.length = R) (h : s = hrm R C L) : isMz s.rows.length (C - 0) (flatP 0 C s.rows) = isMz R C (flatP 0 C (hrm R C L).rows) := by rw [hlen, h]; rfl
theorem isMzq_eq {R C : Nat} {L : List Int} {s : HS} (hlen : s.rows.length = R) (h : s = hrm R C L) : isMz s.rows.length (C + R - C) (flatP C (C + R) s.rows) = isMz R R (flatP C (C + R) (hrm R C L).rows) := by rw [hlen, h, Nat.add_sub_cancel_left]
set_option maxHeartbeats 4000000 in
theorem hnf_Hermite {R C K : Nat} {xs : List (Bool × List Nat)} (hx : Bd (vals xs) K) (hK : (K + 4) * (R + 2) ^ C ≤ 1000000) (hR : R ≤ 64) (hC : C ≤ 64) (hl : xs.length = R * C) : Ctr Try.prog 50 [isM (R : Int) (C : Int) xs] (isTup [isMz R C (flatP 0 C (hrm R C (vals xs)).rows), isMz R R (flatP C (C + R) (hrm R C (vals xs)).rows), isI 0]) := by
  refine Ctr.intro Try.func50 rfl (by kernel_rfl) Try.ntmps50 rfl fun w0 F0 => ?_
  refine Tri.cv (Cv.wk (.cons (t := 0) (Has.t rfl) .nil)) ?_
  have hfo := formB_true hR hC hl
  have hpw : ∀ c, c ≤ C → (K + 4) * (R + 2) ^ c ≤ 1000000 := fun c hc => Nat.le_trans (Nat.mul_le_mul_left _ (Nat.pow_le_pow_right (by omega) hc)) hK
  have hp0 := hpw 0 (Nat.zero_le _)
  rw [Nat.pow_zero] at hp0
  have hok := hred_ok (rows0_ok (R := R) (C := C) hx)
  obtain ⟨n0, hn0⟩ : ∃ n0 : Nat, n0 = R := ⟨_, rfl⟩
  refine Tri.seq fun K1 hK1 => ?_
  refine Tri.region ?_
  refine Ops.box (Has.t rfl) rfl fun b1 => ?_
  refine Ops.alloc [isI 0, isI 0, nilS] zero63 (fun _ _ => ⟨⟨rfl, by decide, by decide⟩, ⟨rfl, by decide, by decide⟩, rfl, trivial⟩) rfl fun b2 => ?_
  refine Ops.alloc [isI 0, isI 0, nilS] zero63 (fun _ _ => ⟨⟨rfl, by decide, by decide⟩, ⟨rfl, by decide, by decide⟩, rfl, trivial⟩) rfl fun b3 => ?_
  refine st (OK1.as (Has.cI 0 rfl)) rfl ?_
  refine nl ?_
  refine At.thn (hK1 _ _ ?_); clear hK1
  refine Tri.seq fun K2 hK2 => ?_
  refine Tri.seq fun K3 hK3 => ?_
  refine Tri.region ?_
  refine st (OK1.load (Has.t rfl) (i := 2) rfl ty63 rfl (Ss' := [_, _, _]) rfl) rfl ?_
  refine st (OK1.eq (OK1.call (zmat_Formed) (.cons (Has.t rfl) .nil)) ((show isB _ = isB true from isB_eq hfo))) rfl ?_
  refine st (OK1.not (Has.t rfl)) rfl ?_
  refine nl ?_
  refine At.thn (hK3 _ _ ?_); clear hK3
  refine Tri.cond (Has.t rfl) (fun hc1 => ?_) (fun hc1 => ?_)
  · have hc1 := BP.t hc1
    simp at hc1
  · have hc1 := BP.f hc1
    refine Tri.skip ?_
    refine At.thn (hK2 _ _ ?_); clear hK2
    refine Tri.seq fun K4 hK4 => ?_
    refine Tri.region ?_
    refine st (OK1.load (Has.t rfl) (i := 2) rfl ty63 rfl (Ss' := [_, _, _]) rfl) rfl ?_
    refine Ops.callX (hnf_begun hx (by omega) hR hC hl) (List.Perm.refl _) (.cons (Has.t rfl) .nil) rfl ?_
    rintro _ _ ⟨bw, gt, rfl, rfl⟩
    refine Ops.memEq (M' := [hw0 bw gt (rows0 C R (vals xs) R).length C 0, grM isP gt (rows0 C R (vals xs) R), _, _, _]) rfl ?_
    refine st (OK1.as (Has.t rfl)) rfl ?_
    refine nl ?_
    refine At.thn (hK4 _ _ ?_); clear hK4
    refine Tri.cv (Cv.wk (.cons (t := 1) (Has.t rfl) (.cons (t := 2) (Has.t rfl) (.cons (t := 3) (Has.t rfl) (.cons (t := 4) (Has.t rfl) (.cons (t := 5) (Has.t rfl) .nil)))))) ?_
    refine Tri.seq fun K5 hK5 => ?_
    refine Tri.seq fun K6 hK6 => ?_
    refine Tri.region ?_
    refine st (OK1.as (Has.cI 0 rfl)) rfl ?_
    refine nl ?_
    refine At.thn (hK6 _ _ ?_); clear hK6
    refine Tri.block ?_
    refine Tri.loopF [1, 2, 3, 4, 5] (fun (z : { c : Nat // c ≤ C }) => match z with | ⟨c, hc⟩ => [(6, isI (c : Int))]) (fun M => fun (z : { c : Nat // c ≤ C }) => match z with | ⟨c, hc⟩ => [hw0 bw gt (hred ⟨rows0 C R (vals xs) R, 0⟩ c).rows.length C (hred ⟨rows0 C R (vals xs) R, 0⟩ c).top, grM isP gt (hred ⟨rows0 C R (vals xs) R, 0⟩ c).rows, (some b3, cellM [isI 0, isI 0, nilS]), (some b2, cellM [isI 0, isI 0, nilS]), (some b1, cellM [isI (R : Int), isI (C : Int), SlK 2 zc xs])]) (fun (z : { c : Nat // c ≤ C }) => match z with | ⟨c, hc⟩ => C - c) (⟨0, Nat.zero_le _⟩) (Cv.mem (.cons (t := 6) (Has.t' rfl ?_) (.cons (t := 1) (Has.t rfl) (.cons (t := 2) (Has.t rfl) (.cons (t := 3) (Has.t rfl) (.cons (t := 4) (Has.t rfl) (.cons (t := 5) (Has.t rfl) .nil)))))) ?_) ?_
    · rfl
    · rfl
    rintro ⟨c, hc⟩ K7 hK7
    refine Tri.cv (Cv.wk (.cons (t := 6) (Has.t rfl) (.cons (t := 1) (Has.t rfl) (.cons (t := 2) (Has.t rfl) (.cons (t := 3) (Has.t rfl) (.cons (t := 4) (Has.t rfl) (.cons (t := 5) (Has.t rfl) .nil))))))) ?_
    refine Tri.memEq (M' := [hw0 bw gt (hred ⟨rows0 C R (vals xs) R, 0⟩ c).rows.length C (hred ⟨rows0 C R (vals xs) R, 0⟩ c).top, grM isP gt (hred ⟨rows0 C R (vals xs) R, 0⟩ c).rows, (some b3, cellM [isI 0, isI 0, nilS]), (some b2, cellM [isI 0, isI 0, nilS]), (some b1, cellM [isI (R : Int), isI (C : Int), SlK 2 zc xs])]) rfl ?_
    have hoc := hok c
    have hlen := hoc.len
    have htop := hoc.top
    have hpc := hpw c hc
    refine Tri.seq fun K8 hK8 => ?_
    refine Tri.seq fun K9 hK9 => ?_
    refine Tri.dr ?_
    refine DrG.st (i := 0) [] rfl rfl rfl (by kernel_rfl) (OKG.o rfl (OK1.mv (Has.t rfl))) ?_
    refine DrG.st (i := 1) [] rfl rfl rfl (by kernel_rfl) (OKG.o rfl (OK1.fieldAddr (Has.t rfl) fld63_1 ty3)) ?_
    refine DrG.st (i := 2) [15] rfl rfl rfl (by kernel_rfl) (OKG.o rfl (OK1.load1 (Has.t rfl) (i := 4) rfl ty3 rfl)) ?_
    refine DrG.st (i := 3) [14, 16] rfl rfl rfl (by kernel_rfl) (OKG.o rfl (OK1.ltI (Has.t rfl) (Has.t rfl))) ?_
    refine DrG.st (i := 4) [17] rfl rfl rfl (by kernel_rfl) (OKG.o rfl (OK1.mv (Has.t rfl))) ?_
    refine DrG.st (i := 5) [18] rfl rfl rfl (by kernel_rfl) (OKG.T rfl rfl rfl (fun hg => have hg' := BP.t hg; OK1.mv (Has.t rfl))) ?_
    refine DrG.st (i := 6) [18, 19] rfl rfl rfl (by kernel_rfl) (OKG.T rfl rfl rfl (fun hg => have hg' := BP.t hg; OK1.nilc (Has.g rfl hg))) ?_
    refine DrG.st (i := 7) [18, 20] rfl rfl rfl (by kernel_rfl) (OKG.T rfl rfl rfl (fun hg => have hg' := BP.t hg; OK1.fieldAddr (Has.g rfl hg) fld133_2 ty3)) ?_
    refine DrG.st (i := 8) [18, 21] rfl rfl rfl (by kernel_rfl) (OKG.T rfl rfl rfl (fun hg => have hg' := BP.t hg; OK1.load1 (Has.g rfl hg) (i := 0) rfl ty3 rfl)) ?_
    refine DrG.st (i := 9) [18] rfl rfl rfl (by kernel_rfl) (OKG.T rfl rfl rfl (fun hg => have hg' := BP.t hg; OK1.fieldAddr (Has.t rfl) fld63_0 ty3)) ?_
    refine DrG.st (i := 10) [18, 23] rfl rfl rfl (by kernel_rfl) (OKG.T rfl rfl rfl (fun hg => have hg' := BP.t hg; OK1.load1 (Has.g rfl hg) (i := 4) rfl ty3 rfl)) ?_
    refine DrG.fin (n := 11) mixed (by kernel_rfl) (by kernel_rfl) (by kernel_rfl) ?_
    refine Ops.cv (Cv.wk (.cons (t := 1) (Has.t rfl) (.cons (t := 2) (Has.t rfl) (.cons (t := 3) (Has.t rfl) (.cons (t := 4) (Has.t rfl) (.cons (t := 5) (Has.t rfl) (.cons (t := 6) (Has.t rfl) (.cons (t := 14) (Has.t rfl) (.cons (t := 15) (Has.t rfl) (.cons (t := 16) (Has.t rfl) (.cons (t := 17) (Has.t rfl) (.cons (t := 18) (Has.t rfl) (.cons (t := 19) (Has.t rfl) (.cons (t := 20) (Has.t rfl) (.cons (t := 21) (Has.t rfl) (.cons (t := 22) (Has.t rfl) (.cons (t := 23) (Has.t rfl) (.cons (t := 24) (Has.t rfl) .nil)))))))))))))))))) ?_
    refine stT rfl rfl (fun hg => have hg' := BP.t hg; OK1.ltI (Has.g rfl hg) (Has.g rfl hg)) rfl ?_
    refine st (OK1.pickAnd (Has.t rfl) (fun h => Has.g rfl h)) rfl ?_
    refine nl ?_
    refine At.thn (hK9 _ _ ?_); clear hK9
    refine Tri.cond (Has.t rfl) (fun hc2 => ?_) (fun hc2 => ?_)
    · have hc2 := BP.t hc2
      obtain ⟨hc1', hc2'⟩ := hc2
      refine Tri.skip ?_
      refine At.thn (hK8 _ _ ?_); clear hK8
      refine Tri.seq fun K10 hK10 => ?_
      refine Tri.block ?_
      refine Tri.region ?_
      refine st (OK1.mv (Has.t rfl)) rfl ?_
      refine st (OK1.mv (Has.t rfl)) rfl ?_
      refine Ops.callX (hnf_column (rs := (hred ⟨rows0 C R (vals xs) R, 0⟩ c).rows) (t := (hred ⟨rows0 C R (vals xs) R, 0⟩ c).top) (col := c) (W := C + R) (K := (K + 4) * (R + 2) ^ c - 3) hoc.row (by omega) (by omega) (by omega) (by omega) hoc.bd (by rw [hlen]; exact Nat.le_trans (col_bd hpc) (by omega))) (List.Perm.refl _) (.cons (Has.t rfl) (.cons (Has.t rfl) .nil)) rfl ?_
      rintro _ _ ⟨rfl, rfl⟩
      refine Ops.memEq (M' := [hw0 bw gt (hcol (hred ⟨rows0 C R (vals xs) R, 0⟩ c) c).rows.length C (hcol (hred ⟨rows0 C R (vals xs) R, 0⟩ c) c).top, grM isP gt (hcol (hred ⟨rows0 C R (vals xs) R, 0⟩ c) c).rows, _, _, _]) rfl ?_
      refine nl ?_
      refine At.bln ?_
      refine At.thn (hK10 _ _ ?_); clear hK10
      refine Tri.region ?_
      refine st (OK1.mv (Has.t rfl)) rfl ?_
      refine st (OK1.addI (Has.t rfl) (Has.cI 1 rfl) (by first | omega | assumption) (by first | omega | assumption)) rfl ?_
      refine st (OK1.as (Has.t rfl)) rfl ?_
      refine nl ?_
      refine At.thn ?_
      refine hK7 (⟨c + 1, by omega⟩) _ _ ?_ (Cv.mem (.cons (t := 6) (Has.t' rfl ?_) (.cons (t := 1) (Has.t rfl) (.cons (t := 2) (Has.t rfl) (.cons (t := 3) (Has.t rfl) (.cons (t := 4) (Has.t rfl) (.cons (t := 5) (Has.t rfl) .nil)))))) ?_)
      · show C - (c + 1) < C - c; omega
      · exact isI_eq (by omega)
      · exact hm_step (show (hred ⟨rows0 C R (vals xs) R, 0⟩ c).top < _ by omega)
    · have hc2 := BP.f hc2
      have hst := hred_stop (rows0_ok (R := R) (C := C) hx) hc (show ¬ (c < C ∧ _) from fun h => by omega)
      refine Tri.exit ?_
      refine At.the ?_
      refine At.the ?_
      refine At.blh ?_
      refine At.thn (hK5 _ _ ?_); clear hK5
      refine Tri.cv (Cv.wk (.cons (t := 1) (Has.t rfl) (.cons (t := 2) (Has.t rfl) (.cons (t := 3) (Has.t rfl) (.cons (t := 4) (Has.t rfl) (.cons (t := 5) (Has.t rfl) .nil)))))) ?_
      refine Tri.seq fun K11 hK11 => ?_
      refine Tri.cv (Cv.freezeF (k := 1) (i := 1) (j := 0) (o := 0) rfl rfl rfl rfl gr_lenM gr_takeM (Ss' := [SlM isP ((hred ⟨rows0 C R (vals xs) R, 0⟩ c).rows), _, _]) rfl) ?_
      refine Tri.memEq (M' := [(some _, cellM [SlM isP ((hred ⟨rows0 C R (vals xs) R, 0⟩ c).rows), _, _]), _, _, _]) rfl ?_
      refine Tri.cv (Cv.wk (.cons (t := 1) (Has.t rfl) (.cons (t := 2) (Has.t rfl) (.cons (t := 3) (Has.t rfl) (.cons (t := 4) (Has.t rfl) (.cons (t := 5) (Has.t rfl) .nil)))))) ?_
      refine Tri.cv (Cv.freezeBox (t := 5) (i := 0) rfl rfl rfl) ?_
      refine Tri.memEq (M' := [_, _, _]) rfl ?_
      refine Tri.cv (Cv.wk (.cons (t := 1) (Has.t rfl) (.cons (t := 2) (Has.t rfl) (.cons (t := 3) (Has.t rfl) (.cons (t := 4) (Has.t rfl) (.cons (t := 5) (Has.t rfl) .nil)))))) ?_
      refine Tri.dr ?_
      refine DrG.st (i := 0) [] rfl rfl rfl (by kernel_rfl) (OKG.o rfl (OK1.mv (Has.t rfl))) ?_
      refine DrG.st (i := 1) [] rfl rfl rfl (by kernel_rfl) (OKG.o rfl (OK1.fieldAddr (Has.t rfl) fld63_1 ty3)) ?_
      refine DrG.st (i := 2) [33] rfl rfl rfl (by kernel_rfl) (OKG.o rfl (OK1.load1 (Has.t rfl) (i := 2) rfl ty3 rfl)) ?_
      refine DrG.st (i := 3) [32, 34] rfl rfl rfl (by kernel_rfl) (OKG.o rfl (OK1.call (hnf_part (lo := 0) (hi := C) hoc.row (by omega) (by omega) (by omega) (by omega)) (.cons (Has.t rfl) (.cons (Has.cI 0 rfl) (.cons (Has.t rfl) .nil))))) ?_
      refine DrG.st (i := 4) [] rfl rfl rfl (by kernel_rfl) (OKG.o rfl (OK1.mv (Has.t rfl))) ?_
      refine DrG.st (i := 5) [] rfl rfl rfl (by kernel_rfl) (OKG.o rfl (OK1.fieldAddr (Has.t rfl) fld63_1 ty3)) ?_
      refine DrG.st (i := 6) [37] rfl rfl rfl (by kernel_rfl) (OKG.o rfl (OK1.load1 (Has.t rfl) (i := 2) rfl ty3 rfl)) ?_
      refine DrG.st (i := 7) [] rfl rfl rfl (by kernel_rfl) (OKG.o rfl (OK1.fieldAddr (Has.t rfl) fld63_1 ty3)) ?_
      refine DrG.st (i := 8) [39] rfl rfl rfl (by kernel_rfl) (OKG.o rfl (OK1.load1 (Has.t rfl) (i := 2) rfl ty3 rfl)) ?_
      refine DrG.st (i := 9) [] rfl rfl rfl (by kernel_rfl) (OKG.o rfl (OK1.fieldAddr (Has.t rfl) fld63_0 ty3)) ?_
      refine DrG.st (i := 10) [41] rfl rfl rfl (by kernel_rfl) (OKG.o rfl (OK1.load1 (Has.t rfl) (i := 2) rfl ty3 rfl)) ?_
      refine DrG.st (i := 11) [40, 42] rfl rfl rfl (by kernel_rfl) (OKG.o rfl (OK1.eq (OK1.addI (Has.t rfl) (Has.t rfl) (by first | omega | assumption) (by first | omega | assumption)) ((show isI _ = isI ((C + R : Nat) : Int) from isI_eq (by omega))))) ?_
      refine DrG.fin (n := 12) mixed (by kernel_rfl) (by kernel_rfl) (by kernel_rfl) ?_
      refine Ops.cv (Cv.wk (.cons (t := 2) (Has.t rfl) (.cons (t := 3) (Has.t rfl) (.cons (t := 4) (Has.t rfl) (.cons (t := 35) (Has.t rfl) (.cons (t := 36) (Has.t rfl) (.cons (t := 38) (Has.t rfl) (.cons (t := 43) (Has.t rfl) .nil)))))))) ?_
      refine st (OK1.call (hnf_part (lo := C) (hi := C + R) hoc.row (by omega) (by omega) (by omega) (by omega)) (.cons (Has.t rfl) (.cons (Has.t rfl) (.cons (Has.t rfl) .nil)))) rfl ?_
      refine Ops.store (Has.t rfl) (Has.t rfl) (i := 1) rfl ty63 rfl rfl (Ss' := [_, _, _]) rfl (M' := [_, (some _, cellM [_, _, _]), _]) rfl ?_
      refine Ops.store (Has.t rfl) (Has.t rfl) (i := 0) rfl ty63 rfl rfl (Ss' := [_, _, _]) rfl (M' := [(some _, cellM [_, _, _]), _, _]) rfl ?_
      refine st (OK1.as (Has.cI 0 rfl)) rfl ?_
      refine nl ?_
      refine At.thn (hK11 _ _ ?_); clear hK11
      refine Tri.cv (Cv.wk (.cons (t := 2) (Has.t rfl) (.cons (t := 3) (Has.t rfl) (.cons (t := 4) (Has.t rfl) .nil)))) ?_
      refine Tri.ret ?_
      refine rtN (.inl rfl) Try.results50 rfl rfl (.cell rfl (i := 1) rfl ty63 rfl ?_ (.cell rfl (i := 0) rfl ty63 rfl ?_ (.tmp (Has.t' rfl ?_) .nil)))
      · exact isMzp_eq hlen hst.symm
      · exact isMzq_eq hlen hst.symm
      · rfl
end Go.Proofs.Ytiieaohnpnojmaa
/- Contracts: layer 14's laws: what a program that does nothing does not answer. -/
namespace Go.Proofs.Ytiieaohnpnojmaa
open Go.En Go.RowKit
set_option linter.unusedVariables false
set_option maxRecDepth 10000
open Go.Nt
open Go.Pz
open Go.Mz
open Go.Hn
open Go.Hp
open Go.Dt
theorem aw14_b : Bd [4, 6] 1 := bd64 (by decide)
theorem aw14_tab : tab (2 * 1) 1 (fun i k => cf [4, 6] (i * 1 + k)) = [4, 6] := by decide
theorem aw14_2 : (List.length (words (2 : Int).natAbs)) ≤ 1 := nw_small' (by decide)
set_option maxHeartbeats 4000000 in
theorem law14_awake  : Ctr Try.prog 48 [] (isB true) := by
  refine Ctr.intro Try.func48 rfl (by kernel_rfl) Try.ntmps48 rfl fun w0 F0 => ?_
  refine Tri.cv (Cv.wk .nil) ?_
  have h2 := aw14_2
  refine Tri.seq fun K1 hK1 => ?_
  refine Tri.region ?_
  refine st (OK1.as (Has.cB false)) rfl ?_
  refine nl ?_
  refine At.thn (hK1 _ _ ?_); clear hK1
  refine Tri.seq fun K2 hK2 => ?_
  refine Tri.region ?_
  refine st (OK1.buildS [isI 0, isI 0] sl172 ty2 zero2 (fun _ _ => ⟨⟨rfl, by decide, by decide⟩, ⟨rfl, by decide, by decide⟩, trivial⟩) rfl rfl (.cons (Has.cI 4 rfl) rfl rfl rfl (.cons (Has.cI 6 rfl) rfl rfl rfl .nil)) rfl (S := SlM isI [_, _]) rfl) rfl ?_
  refine st (OK1.eq (OK1.call (zmat_Of (R := 2) (C := 1) (l := [4, 6]) (by decide) (by decide) rfl (by decide)) (.cons (Has.cI 2 rfl) (.cons (Has.cI 1 rfl) (.cons (Has.t rfl) .nil)))) ((show isTup [isMz 2 1 _, isI 0] = isTup [isMz 2 1 [4, 6], isI 0] from by rw [aw14_tab]))) rfl ?_
  refine st (OK1.mv (Has.t rfl)) rfl ?_
  refine st (OK1.ext (Has.t rfl) rfl) rfl ?_
  refine st (OK1.ext (Has.t rfl) rfl) rfl ?_
  refine Ops.alloc [isI 0, isI 0, nilS] zero63 (fun _ _ => ⟨⟨rfl, by decide, by decide⟩, ⟨rfl, by decide, by decide⟩, rfl, trivial⟩) rfl fun b1 => ?_
  refine Ops.store (Has.t rfl) (Has.t rfl) (i := 0) rfl ty63 rfl rfl (Ss' := [_, _, _]) rfl (M' := [(some _, cellM [_, _, _])]) rfl ?_
  refine st (OK1.as (Has.t rfl)) rfl ?_
  refine nl ?_
  refine At.thn (hK2 _ _ ?_); clear hK2
  refine Tri.cv (Cv.wk (.cons (t := 0) (Has.t rfl) (.cons (t := 1) (Has.t rfl) .nil))) ?_
  refine Tri.seq fun K3 hK3 => ?_
  refine Tri.region ?_
  refine st (OK1.load (Has.t rfl) (i := 0) rfl ty63 rfl (Ss' := [_, _, _]) rfl) rfl ?_
  refine st (OK1.eq (OK1.call (hnf_Hermite (R := 2) (C := 1) (K := 1) (xs := [4, 6].map nz) (by rw [vals_nz]; exact aw14_b) (by decide) (by decide) (by decide) rfl) (.cons (Has.t rfl) .nil)) ((show _ = isTup [isMz 2 1 (hL 2 1 [4, 6]), isMz 2 2 (uL 2 1 [4, 6]), isI 0] from by rw [vals_nz]; rfl))) rfl ?_
  refine st (OK1.mv (Has.t rfl)) rfl ?_
  refine st (OK1.ext (Has.t rfl) rfl) rfl ?_
  refine st (OK1.ext (Has.t rfl) rfl) rfl ?_
  refine st (OK1.ext (Has.t rfl) rfl) rfl ?_
  refine Ops.alloc [isI 0, isI 0, nilS] zero63 (fun _ _ => ⟨⟨rfl, by decide, by decide⟩, ⟨rfl, by decide, by decide⟩, rfl, trivial⟩) rfl fun b2 => ?_
  refine Ops.alloc [isI 0, isI 0, nilS] zero63 (fun _ _ => ⟨⟨rfl, by decide, by decide⟩, ⟨rfl, by decide, by decide⟩, rfl, trivial⟩) rfl fun b3 => ?_
  refine Ops.store (Has.t rfl) (Has.t rfl) (i := 1) rfl ty63 rfl rfl (Ss' := [_, _, _]) rfl (M' := [_, (some _, cellM [_, _, _]), _]) rfl ?_
  refine Ops.store (Has.t rfl) (Has.t rfl) (i := 0) rfl ty63 rfl rfl (Ss' := [_, _, _]) rfl (M' := [(some _, cellM [_, _, _]), _, _]) rfl ?_
  refine st (OK1.as (Has.t rfl)) rfl ?_
  refine nl ?_
  refine At.thn (hK3 _ _ ?_); clear hK3
  refine Tri.cv (Cv.wk (.cons (t := 0) (Has.t rfl) (.cons (t := 3) (Has.t rfl) (.cons (t := 5) (Has.t rfl) .nil)))) ?_
  refine Tri.seq fun K4 hK4 => ?_
  refine Tri.region ?_
  refine st (OK1.mv (Has.t rfl)) rfl ?_
  refine st (OK1.eqI (Has.t rfl) (Has.cI 0 rfl)) rfl ?_
  refine st (OK1.mv (Has.t rfl)) rfl ?_
  refine stT rfl rfl (fun hg => have hg' := BP.t hg; OK1.fieldAddr (Has.t rfl) fld63_0 ty3) rfl ?_
  refine stT rfl rfl (fun hg => have hg' := BP.t hg; OK1.load1 (Has.g rfl hg) (i := 1) rfl ty3 rfl) rfl ?_
  refine stT rfl rfl (fun hg => have hg' := BP.t hg; OK1.eqI (Has.g rfl hg) (Has.cI 2 rfl)) rfl ?_
  refine st (OK1.pickAnd (Has.t rfl) (fun h => Has.g rfl h)) rfl ?_
  refine st (OK1.mv (Has.t rfl)) rfl ?_
  refine stT rfl rfl (fun hg => have hg' := BP.t hg; OK1.load (Has.t rfl) (i := 1) rfl ty63 rfl (Ss' := [_, _, _]) rfl) rfl ?_
  refine stT rfl rfl (fun hg => have hg' := BP.t hg; OK1.eq (OK1.call (zmat_At (R := 2) (C := 1) (i := 0) (k := 0) (K := 20) (xs := (hL 2 1 [4, 6]).map nz) (by rw [vals_nz]; exact (hL_bd aw14_b).mono (by decide)) (by decide) (by decide) (by decide) (by rw [List.length_map, hL_len aw14_b]) (by decide) (by decide)) (.cons (Has.g rfl hg) (.cons (Has.cI 0 rfl) (.cons (Has.cI 0 rfl) .nil)))) ((show _ = isZ 2 from isZ_eq (by rw [vals_nz]; exact aw14)))) rfl ?_
  refine stT rfl rfl (fun hg => have hg' := BP.t hg; OK1.call (zint_Of) (.cons (Has.cI 2 rfl) .nil)) rfl ?_
  refine stT rfl rfl (fun hg => have hg' := BP.t hg; OK1.eq (OK1.call (zint_Same (by rw [val_words]; omega) (by rw [val_words]; omega)) (.cons (Has.g rfl hg) (.cons (Has.g rfl hg) .nil))) ((show isB _ = isB true from isB_eq (decide_eq_true (by first | rfl | simp only [zv_nf]))))) rfl ?_
  refine st (OK1.pickAnd (Has.t rfl) (fun h => Has.g rfl h)) rfl ?_
  refine st (OK1.mv (Has.t rfl)) rfl ?_
  refine stT rfl rfl (fun hg => have hg' := BP.t hg; OK1.load (Has.t rfl) (i := 1) rfl ty63 rfl (Ss' := [_, _, _]) rfl) rfl ?_
  refine stT rfl rfl (fun hg => have hg' := BP.t hg; OK1.eq (OK1.call (zmat_At (R := 2) (C := 1) (i := 0) (k := 0) (K := 20) (xs := (hL 2 1 [4, 6]).map nz) (by rw [vals_nz]; exact (hL_bd aw14_b).mono (by decide)) (by decide) (by decide) (by decide) (by rw [List.length_map, hL_len aw14_b]) (by decide) (by decide)) (.cons (Has.g rfl hg) (.cons (Has.cI 0 rfl) (.cons (Has.cI 0 rfl) .nil)))) ((show _ = isZ 2 from isZ_eq (by rw [vals_nz]; exact aw14)))) rfl ?_
  refine stT rfl rfl (fun hg => have hg' := BP.t hg; OK1.eq (OK1.call (zint_Sign (by rw [val_words]; omega)) (.cons (Has.g rfl hg) .nil)) ((show isI _ = isI 1 from isI_eq (by rw [zv_nf]; rfl)))) rfl ?_
  refine stT rfl rfl (fun hg => have hg' := BP.t hg; OK1.eqI (Has.g rfl hg) (Has.cI 1 rfl)) rfl ?_
  refine st (OK1.pickAnd (Has.t rfl) (fun h => Has.g rfl h)) rfl ?_
  refine st (OK1.as (Has.t rfl)) rfl ?_
  refine nl ?_
  refine At.thn (hK4 _ _ ?_); clear hK4
  refine Tri.cv (Cv.wk (.cons (t := 0) (Has.t rfl) .nil)) ?_
  refine Tri.ret ?_
  refine rt1 (.inl rfl) Try.results48 rfl (.tmp (Has.t' rfl ?_) .nil)
  all_goals (rfl)
end Go.Proofs.Ytiieaohnpnojmaa
/- Where the rows of a form begin; forms as lists. -/
namespace Go.Hp
open Go.Dt Go.Hn Go.Pz Go.Nt Go.Mz Go.En
/-- the first number that isn't 0; -1: there is none -/
def fir (C : Nat) (f : Nat → Int) : Int := if fc C f < C then ((fc C f : Nat) : Int) else -1
theorem fir_at {C i : Nat} {f : Nat → Int} (hi : i < C) (h0 : ∀ j, j < i → f j = 0) (h : f i ≠ 0) : fir C f = (i : Int) := by
  have := fc_at hi h0 h
  unfold fir
  rw [this, if_pos hi]
theorem fir_all {C : Nat} {f : Nat → Int} (h : ∀ j, j < C → f j = 0) : fir C f = -1 := by
  unfold fir
  rw [fc_all h, if_neg (Nat.lt_irrefl _)]
theorem fir_congr {C : Nat} {f g : Nat → Int} (h : ∀ k, k < C → f k = g k) : fir C f = fir C g := by unfold fir; rw [fc_congr h]
theorem fir_lt {C : Nat} {f : Nat → Int} (h : 0 ≤ fir C f) : fc C f < C := by
  unfold fir at h
  split at h
  · assumption
  · omega
theorem fir_no {C : Nat} {f : Nat → Int} (h : fir C f < 0) : ¬ fc C f < C := fun h2 => by
  unfold fir at h
  rw [if_pos h2] at h; omega
theorem vals_drop (xs : List (Bool × List Nat)) (n : Nat) : vals (xs.drop n) = (vals xs).drop n := List.map_drop
theorem vals_take (xs : List (Bool × List Nat)) (n : Nat) : vals (xs.take n) = (vals xs).take n := List.map_take
theorem cf_part_row {xs : List (Bool × List Nat)} {a b k : Nat} (h : a + k < b) : cf (vals ((xs.take b).drop a)) k = cf (vals xs) (a + k) := by
  rw [vals_drop, vals_take]
  unfold cf
  rw [List.getD, List.getElem?_drop, List.getElem?_take_of_lt h]; rfl
/-- the columns of the rows' first numbers -/
def pivL (C : Nat) (A : MatF) : Nat → List Nat
  | 0 => []
  | n + 1 => if fc C (A n) < C then pivL C A n ++ [fc C (A n)] else pivL C A n
theorem pivL_yes {C n : Nat} {A : MatF} (h : fc C (A n) < C) : pivL C A (n + 1) = pivL C A n ++ [fc C (A n)] := if_pos h
theorem pivL_no {C n : Nat} {A : MatF} (h : ¬ fc C (A n) < C) : pivL C A (n + 1) = pivL C A n := if_neg h
theorem pivL_len (C : Nat) (A : MatF) : ∀ n, (pivL C A n).length ≤ n
  | 0 => Nat.le_refl _
  | n + 1 => by
    have := pivL_len C A n
    by_cases h : fc C (A n) < C
    · rw [pivL_yes h, List.length_append]; show _ + 1 ≤ _; omega
    · rw [pivL_no h]; omega
theorem pv_app (l : List Nat) (n : Nat) : pv (l ++ [n]) = pv l ++ [(n : Int)] := by unfold pv; rw [List.map_append]; rfl
theorem ext_cf {a b : List Int} (hl : a.length = b.length) (h : ∀ j, j < a.length → cf a j = cf b j) : a = b := by
  refine List.ext_getElem? fun j => ?_
  rcases Nat.lt_or_ge j a.length with h1 | h1
  · rw [getElem_cf h1, getElem_cf (by omega), h j h1]
  · rw [List.getElem?_eq_none h1, List.getElem?_eq_none (by omega)]
theorem is_dead131 {R C i : Nat} {A : MatF} {last : Int} {ended : Bool} (hi : i < R) (hfk : fc C (A i) < C) (hh : HermF R C A) (hE1 : ended = true → 0 < i ∧ fc C (A (i - 1)) = C) (hE2 : ended = false → last = if i = 0 then -1 else ((fc C (A (i - 1)) : Nat) : Int))
    (h : ended = true ∨ ((fc C (A i) : Nat) : Int) ≤ last ∨ sgn (A i (fc C (A i))) < 0) : False := by
  obtain ⟨h1, h2, _⟩ := hh i hi hfk
  have hs := sgn_lt (A i (fc C (A i)))
  cases he : ended with
  | true =>
    obtain ⟨h3, h4⟩ := hE1 he
    have := h1 h3; omega
  | false =>
    have h5 := hE2 he
    rcases h with h | h | h
    · rw [he] at h; cases h
    · by_cases h0 : i = 0
      · rw [if_pos h0] at h5; omega
      · rw [if_neg h0] at h5
        have := h1 (by omega); omega
    · omega
end Go.Hp
/- Contracts: where rows begin. -/
namespace Go.Proofs.Ytiieaohnpnojmaa
open Go.En Go.RowKit
set_option linter.unusedVariables false
set_option maxRecDepth 10000
open Go.Nt
open Go.Pz
open Go.Mz
open Go.Hn
open Go.Hp
open Go.Dt
set_option maxHeartbeats 4000000 in
theorem sl_IndexFuncZ {xs : List (Bool × List Nat)} {K : Nat} (hx : Bd (vals xs) K) : Ctr Try.prog 175 [SlK 2 zc xs, isFun (ι := { p : Bool × List Nat // (List.length (words (val p.2))) ≤ K }) Try.prog (fun p => [Flat (zc p.1)]) (fun p => isB (decide (zv p.1.1 p.1.2 ≠ 0)))] (isI (fir xs.length (cf (vals xs)))) := by
  refine Ctr.intro Try.func175 rfl (by kernel_rfl) Try.ntmps175 rfl fun w0 F0 => ?_
  refine Tri.cv (Cv.wk (.cons (t := 0) (Has.t rfl) (.cons (t := 1) (Has.t rfl) .nil))) ?_
  refine Tri.fact (Has.lenLt (Has.t (t := 0) rfl)) fun lt0 => ?_
  refine Tri.seq fun K1 hK1 => ?_
  refine Tri.region ?_
  refine st (OK1.as (Has.cI 0 rfl)) rfl ?_
  refine nl ?_
  refine At.thn (hK1 _ _ ?_); clear hK1
  refine Tri.seq fun K2 hK2 => ?_
  refine Tri.seq fun K3 hK3 => ?_
  refine Tri.region ?_
  refine st (OK1.mv (Has.t rfl)) rfl ?_
  refine st (OK1.len sl61 (Has.t rfl)) rfl ?_
  refine st (OK1.mv (Has.cI 0 rfl)) rfl ?_
  refine nl ?_
  refine At.thn (hK3 _ _ ?_); clear hK3
  refine Tri.block ?_
  refine Tri.loopF [0, 1, 7] (fun (z : { i : Nat // i ≤ xs.length ∧ ∀ j, j < i → cf (vals xs) j = 0 }) => match z with | ⟨i, hI⟩ => [(8, isI (i : Int))]) (fun M => fun (z : { i : Nat // i ≤ xs.length ∧ ∀ j, j < i → cf (vals xs) j = 0 }) => match z with | ⟨i, hI⟩ => M) (fun (z : { i : Nat // i ≤ xs.length ∧ ∀ j, j < i → cf (vals xs) j = 0 }) => match z with | ⟨i, hI⟩ => xs.length - i) (⟨0, Nat.zero_le _, fun j hj => absurd hj (Nat.not_lt_zero _)⟩) (Cv.mem (.cons (t := 8) (Has.t' rfl ?_) (.cons (t := 0) (Has.t rfl) (.cons (t := 1) (Has.t rfl) (.cons (t := 7) (Has.t rfl) .nil)))) ?_) ?_
  · rfl
  · rfl
  rintro ⟨i, hi, hq⟩ K4 hK4
  refine Tri.cv (Cv.wk (.cons (t := 8) (Has.t rfl) (.cons (t := 0) (Has.t rfl) (.cons (t := 1) (Has.t rfl) (.cons (t := 7) (Has.t rfl) .nil))))) ?_
  refine Tri.seq fun K5 hK5 => ?_
  refine Tri.region ?_
  refine st (OK1.ltI (Has.t rfl) (Has.t rfl)) rfl ?_
  refine nl ?_
  refine At.thn (hK5 _ _ ?_); clear hK5
  refine Tri.seq fun K6 hK6 => ?_
  refine Tri.cond (Has.t rfl) (fun hc1 => ?_) (fun hc1 => ?_)
  · have hc1 := BP.t hc1
    refine Tri.skip ?_
    refine At.thn (hK6 _ _ ?_); clear hK6
    refine Tri.seq fun K7 hK7 => ?_
    refine Tri.block ?_
    refine Tri.seq fun K8 hK8 => ?_
    refine Tri.region ?_
    refine st (OK1.mv (Has.t rfl)) rfl ?_
    refine st (OK1.as (Has.t rfl)) rfl ?_
    refine nl ?_
    refine At.thn (hK8 _ _ ?_); clear hK8
    refine Tri.seq fun K9 hK9 => ?_
    refine Tri.region ?_
    refine st (OK1.mv (Has.t rfl)) rfl ?_
    refine st (OK1.mv (Has.t rfl)) rfl ?_
    refine st (OK1.mv (Has.t rfl)) rfl ?_
    refine st (OK1.ixK sl61 ty72 (Has.t rfl) (Has.t rfl) zc_len ⟨by omega, by omega⟩ (getD_some (d := (false, [])) (by first | omega | (simp only [Int.toNat_natCast, List.length_set]; omega)))) rfl ?_
    refine st (OK1.loadP (Has.t rfl) ty72 rfl (Ss' := [_, _]) rfl) rfl ?_
    refine st (OK1.eq (OK1.callV ⟨xs.getD i (false, []), hx.raw i⟩ (Has.t rfl) (.cons (Has.t rfl) .nil)) ((show _ = isB (decide (cf (vals xs) i ≠ 0)) from isB_eq (by rw [cf_vals])))) rfl ?_
    refine nl ?_
    refine At.thn (hK9 _ _ ?_); clear hK9
    refine Tri.cond (Has.t rfl) (fun hc2 => ?_) (fun hc2 => ?_)
    · have hc2 := BP.t hc2
      have HQ : cf (vals xs) i ≠ 0 := hc2
      refine Tri.seq fun K10 hK10 => ?_
      refine Tri.region ?_
      refine st (OK1.mv (Has.t rfl)) rfl ?_
      refine st (OK1.as (Has.t rfl)) rfl ?_
      refine nl ?_
      refine At.thn (hK10 _ _ ?_); clear hK10
      refine Tri.ret ?_
      refine At.blr ?_
      refine At.thr ?_
      refine At.thr ?_
      refine At.blr ?_
      refine At.thr ?_
      refine rt1 (.inl rfl) Try.results175 rfl (.tmp (Has.t' rfl ?_) .nil)
      all_goals (exact isI_eq (fir_at (by omega) hq HQ).symm)
    · have hc2 := BP.f hc2
      have HQ : ¬ cf (vals xs) i ≠ 0 := hc2
      refine Tri.skip ?_
      refine At.bln ?_
      refine At.thn (hK7 _ _ ?_); clear hK7
      refine Tri.region ?_
      refine st (OK1.addI (Has.t rfl) (Has.cI 1 rfl) (by first | omega | assumption) (by first | omega | assumption)) rfl ?_
      refine st (OK1.mv (Has.t rfl)) rfl ?_
      refine nl ?_
      refine At.thn ?_
      refine hK4 (⟨i + 1, by omega, fun j hj => by rcases Nat.lt_or_ge j i with h | h; exact hq j h; obtain rfl : j = i := (by omega); exact Classical.not_not.1 HQ⟩) _ _ ?_ (Cv.mem (.cons (t := 8) (Has.t' rfl ?_) (.cons (t := 0) (Has.t rfl) (.cons (t := 1) (Has.t rfl) (.cons (t := 7) (Has.t rfl) .nil)))) ?_)
      · show xs.length - (i + 1) < xs.length - i; omega
      · exact isI_eq (by omega)
      · rfl
  · have hc1 := BP.f hc1
    refine Tri.exit ?_
    refine At.the ?_
    refine At.the ?_
    refine At.blh ?_
    refine At.thn (hK2 _ _ ?_); clear hK2
    refine Tri.cv (Cv.wk .nil) ?_
    refine Tri.seq fun K11 hK11 => ?_
    refine Tri.region ?_
    refine st (OK1.as (Has.cI (-1) rfl)) rfl ?_
    refine nl ?_
    refine At.thn (hK11 _ _ ?_); clear hK11
    refine Tri.ret ?_
    refine rt1 (.inl rfl) Try.results175 rfl (.tmp (Has.t' rfl ?_) .nil)
    all_goals (exact isI_eq (fir_all fun j hj => hq j (by omega)).symm)
set_option maxHeartbeats 4000000 in
theorem hnf_first_1 {m : Bool} {xs : List Nat} (hx : (List.length (words (val xs))) < 4294700000) : Ctr Try.prog 176 [Flat [isB m, isWords xs]] (isB (decide (zv m xs ≠ 0))) := by
  refine Ctr.intro Try.func176 rfl (by kernel_rfl) Try.ntmps176 rfl fun w0 F0 => ?_
  refine Tri.cv (Cv.wk (.cons (t := 0) (Has.t rfl) .nil)) ?_
  refine Tri.fact (Has.okZ (Has.t (t := 0) rfl)) fun okz0 => ?_
  refine Tri.seq fun K1 hK1 => ?_
  refine Tri.region ?_
  refine Ops.box (Has.t rfl) rfl fun b1 => ?_
  refine st (OK1.as (Has.cB false)) rfl ?_
  refine nl ?_
  refine At.thn (hK1 _ _ ?_); clear hK1
  refine Tri.seq fun K2 hK2 => ?_
  refine Tri.region ?_
  refine st (OK1.load (Has.t rfl) (i := 0) rfl ty72 rfl (Ss' := [_, _]) rfl) rfl ?_
  refine st (OK1.call (zint_Sign (by omega)) (.cons (Has.t rfl) .nil)) rfl ?_
  refine st (OK1.neI (Has.t rfl) (Has.cI 0 rfl)) rfl ?_
  refine st (OK1.as (Has.t rfl)) rfl ?_
  refine nl ?_
  refine At.thn (hK2 _ _ ?_); clear hK2
  refine Tri.cv (Cv.wk (.cons (t := 2) (Has.t rfl) .nil)) ?_
  refine Tri.ret ?_
  refine rt1 (.inl rfl) Try.results176 rfl (.tmp (Has.t' rfl ?_) .nil)
  all_goals (exact isB_eq (by simp [sgn_eq0]))
set_option maxHeartbeats 4000000 in
theorem hnf_first {R C i K : Nat} {xs : List (Bool × List Nat)} (hx : Bd (vals xs) K) (hK : K ≤ 400000000) (hR : R ≤ 64) (hC : C ≤ 64) (hl : xs.length = R * C) (hi : i < R) : Ctr Try.prog 128 [isM (R : Int) (C : Int) xs, isI (i : Int)] (isI (fir C ((mf C (vals xs)) i))) := by
  refine Ctr.intro Try.func128 rfl (by kernel_rfl) Try.ntmps128 rfl fun w0 F0 => ?_
  refine Tri.cv (Cv.wk (.cons (t := 0) (Has.t rfl) (.cons (t := 1) (Has.t rfl) .nil))) ?_
  refine Tri.fact (Has.rngI (Has.t (t := 1) rfl)) fun lt1 => ?_
  have hRC := side_le hR hC
  have hpl1 : (i + 1) * C ≤ R * C := Nat.mul_le_mul_right _ hi
  have hpl2 : (i + 1) * C = i * C + C := Nat.succ_mul _ _
  have hc1 : ((i : Int) * (C : Int)) = ((i * C : Nat) : Int) := (Int.natCast_mul i C).symm
  have hc2 : (((i : Int) + 1) * (C : Int)) = (((i + 1) * C : Nat) : Int) := by rw [Int.natCast_mul]; rfl
  obtain ⟨ys, hys⟩ : ∃ ys, ys = (xs.take ((i + 1) * C)).drop (i * C) := ⟨_, rfl⟩
  have hyl : ys.length = C := by rw [hys, List.length_drop, List.length_take]; omega
  have hyv : ∀ k, k < C → cf (vals ys) k = (mf C (vals xs)) i k := fun k hk => by rw [hys]; exact cf_part_row (by omega)
  have hyb : Bd (vals ys) K := fun k => by
    rcases Nat.lt_or_ge k C with h | h
    · rw [hyv k h]; exact hx _
    · rw [cf_high (by rw [vals_len]; omega), Int.natAbs_zero, words_zero]; exact Nat.zero_le _
  refine Tri.seq fun K1 hK1 => ?_
  refine Tri.region ?_
  refine Ops.box (Has.t rfl) rfl fun b1 => ?_
  refine st (OK1.as (Has.cI 0 rfl)) rfl ?_
  refine nl ?_
  refine At.thn (hK1 _ _ ?_); clear hK1
  refine Tri.seq fun K2 hK2 => ?_
  refine Tri.region ?_
  refine st (OK1.fieldAddr (Has.t rfl) fld63_2 ty61) rfl ?_
  refine st (OK1.load1 (Has.t rfl) (i := 0) rfl ty61 rfl) rfl ?_
  refine st (OK1.mv (Has.t rfl)) rfl ?_
  refine st (OK1.fieldAddr (Has.t rfl) fld63_1 ty3) rfl ?_
  refine st (OK1.load1 (Has.t rfl) (i := 0) rfl ty3 rfl) rfl ?_
  refine st (OK1.eq (OK1.mulI (Has.t rfl) (Has.t rfl) (by first | omega | (rw [hc1]; omega) | (rw [hc2]; omega)) (by first | omega | (rw [hc1]; omega) | (rw [hc2]; omega))) ((show isI _ = isI ((i * C : Nat) : Int) from isI_eq hc1))) rfl ?_
  refine st (OK1.mv (Has.t rfl)) rfl ?_
  refine st (OK1.addI (Has.t rfl) (Has.cI 1 rfl) (by first | omega | (rw [hc1]; omega) | (rw [hc2]; omega)) (by first | omega | (rw [hc1]; omega) | (rw [hc2]; omega))) rfl ?_
  refine st (OK1.fieldAddr (Has.t rfl) fld63_1 ty3) rfl ?_
  refine st (OK1.load1 (Has.t rfl) (i := 0) rfl ty3 rfl) rfl ?_
  refine st (OK1.eq (OK1.mulI (Has.t rfl) (Has.t rfl) (by first | omega | (rw [hc1]; omega) | (rw [hc2]; omega)) (by first | omega | (rw [hc1]; omega) | (rw [hc2]; omega))) ((show isI _ = isI (((i + 1) * C : Nat) : Int) from isI_eq hc2))) rfl ?_
  refine st (OK1.eq (OK1.slLHK sl61 ty72 zc_len (Has.t rfl) (Has.t rfl) (Has.t rfl) ⟨by omega, by omega, by omega⟩) ((show _ = SlK 2 zc ys from SlK_eq (by rw [hys]; rfl)))) rfl ?_
  refine st (OK1.eq (OK1.call (sl_IndexFuncZ (K := K) hyb) (.cons (Has.t rfl) (.cons (Has.fn (fun p => hnf_first_1 (Nat.lt_of_le_of_lt p.2 (by omega)))) .nil))) ((show _ = isI (fir C ((mf C (vals xs)) i)) from isI_eq (by rw [hyl]; exact fir_congr hyv)))) rfl ?_
  refine st (OK1.as (Has.t rfl)) rfl ?_
  refine nl ?_
  refine At.thn (hK2 _ _ ?_); clear hK2
  refine Tri.cv (Cv.wk (.cons (t := 4) (Has.t rfl) .nil)) ?_
  refine Tri.ret ?_
  refine rt1 (.inl rfl) Try.results128 rfl (.tmp (Has.t' rfl ?_) .nil)
  all_goals (rfl)
set_option maxHeartbeats 4000000 in
theorem hnf_Pivots {R C K : Nat} {xs : List (Bool × List Nat)} (hx : Bd (vals xs) K) (hK : K ≤ 400000000) (hR : R ≤ 64) (hC : C ≤ 64) (hl : xs.length = R * C) : Ctr Try.prog 60 [isM (R : Int) (C : Int) xs] (SlM isI (pv (pivL C (mf C (vals xs)) R))) := by
  refine Ctr.intro Try.func60 rfl (by kernel_rfl) Try.ntmps60 rfl fun w0 F0 => ?_
  refine Tri.cv (Cv.wk (.cons (t := 0) (Has.t rfl) .nil)) ?_
  have hRC := side_le hR hC
  have hfo := formB_true hR hC hl
  refine Tri.seq fun K1 hK1 => ?_
  refine Tri.region ?_
  refine Ops.box (Has.t rfl) rfl fun b1 => ?_
  refine st (OK1.as (Has.cW (f := isI))) rfl ?_
  refine nl ?_
  refine At.thn (hK1 _ _ ?_); clear hK1
  refine Tri.seq fun K2 hK2 => ?_
  refine Tri.seq fun K3 hK3 => ?_
  refine Tri.region ?_
  refine st (OK1.load (Has.t rfl) (i := 0) rfl ty63 rfl (Ss' := [_, _, _]) rfl) rfl ?_
  refine st (OK1.eq (OK1.call (zmat_Formed) (.cons (Has.t rfl) .nil)) ((show isB _ = isB true from isB_eq (hfo)))) rfl ?_
  refine st (OK1.not (Has.t rfl)) rfl ?_
  refine nl ?_
  refine At.thn (hK3 _ _ ?_); clear hK3
  refine Tri.cond (Has.t rfl) (fun hc1 => ?_) (fun hc1 => ?_)
  · have hc1 := BP.t hc1
    exfalso; simp at hc1
  · have hc1 := BP.f hc1
    refine Tri.skip ?_
    refine At.thn (hK2 _ _ ?_); clear hK2
    refine Tri.seq fun K4 hK4 => ?_
    refine Tri.region ?_
    refine Ops.cv (Cv.grow0 (α := Int) isI) ?_
    refine st (OK1.as (Has.cGr (α := Int))) rfl ?_
    refine nl ?_
    refine At.thn (hK4 _ _ ?_); clear hK4
    refine Tri.seq fun K5 hK5 => ?_
    refine Tri.seq fun K6 hK6 => ?_
    refine Tri.region ?_
    refine st (OK1.fieldAddr (Has.t rfl) fld63_0 ty3) rfl ?_
    refine st (OK1.load1 (Has.t rfl) (i := 1) rfl ty3 rfl) rfl ?_
    refine st (OK1.mv (Has.cI 0 rfl)) rfl ?_
    refine nl ?_
    refine At.thn (hK6 _ _ ?_); clear hK6
    refine Tri.cv (Cv.wk (.cons (t := 1) (Has.t rfl) (.cons (t := 2) (Has.t rfl) (.cons (t := 3) (Has.t rfl) (.cons (t := 10) (Has.t rfl) (.cons (t := 11) (Has.t rfl) .nil)))))) ?_
    refine Tri.block ?_
    refine Tri.loopF [1, 2, 10] (fun (z : { z : Nat × Gr Int // z.1 ≤ R }) => match z with | ⟨(i, g), hI⟩ => [(11, isI (i : Int)), (3, isGr g (pv (pivL C (mf C (vals xs)) i)).length)]) (fun M => fun (z : { z : Nat × Gr Int // z.1 ≤ R }) => match z with | ⟨(i, g), hI⟩ => [grM isI g (pv (pivL C (mf C (vals xs)) i)), (some b1, cellM [isI (R : Int), isI (C : Int), SlK 2 zc xs])]) (fun (z : { z : Nat × Gr Int // z.1 ≤ R }) => match z with | ⟨(i, g), hI⟩ => R - i) (⟨(0, Gr.nil), Nat.zero_le _⟩) (Cv.mem (.cons (t := 11) (Has.t' rfl ?_) (.cons (t := 3) (Has.t' rfl ?_) (.cons (t := 1) (Has.t rfl) (.cons (t := 2) (Has.t rfl) (.cons (t := 10) (Has.t rfl) .nil))))) ?_) ?_
    · rfl
    · rfl
    · rfl
    rintro ⟨⟨i, g⟩, hI⟩ K7 hK7
    refine Tri.cv (Cv.wk (.cons (t := 11) (Has.t rfl) (.cons (t := 3) (Has.t rfl) (.cons (t := 1) (Has.t rfl) (.cons (t := 2) (Has.t rfl) (.cons (t := 10) (Has.t rfl) .nil)))))) ?_
    refine Tri.memEq (M' := [grM isI g (pv (pivL C (mf C (vals xs)) i)), (some b1, cellM [isI (R : Int), isI (C : Int), SlK 2 zc xs])]) rfl ?_
    simp only [] at hI
    have hpl := pivL_len C (mf C (vals xs)) i
    refine Tri.seq fun K8 hK8 => ?_
    refine Tri.region ?_
    refine st (OK1.ltI (Has.t rfl) (Has.t rfl)) rfl ?_
    refine nl ?_
    refine At.thn (hK8 _ _ ?_); clear hK8
    refine Tri.seq fun K9 hK9 => ?_
    refine Tri.cond (Has.t rfl) (fun hc2 => ?_) (fun hc2 => ?_)
    · have hc2 := BP.t hc2
      refine Tri.skip ?_
      refine At.thn (hK9 _ _ ?_); clear hK9
      refine Tri.seq fun K10 hK10 => ?_
      refine Tri.block ?_
      refine Tri.seq fun K11 hK11 => ?_
      refine Tri.region ?_
      refine st (OK1.mv (Has.t rfl)) rfl ?_
      refine st (OK1.as (Has.t rfl)) rfl ?_
      refine nl ?_
      refine At.thn (hK11 _ _ ?_); clear hK11
      refine Tri.seq fun K12 hK12 => ?_
      refine Tri.region ?_
      refine st (OK1.load (Has.t rfl) (i := 1) rfl ty63 rfl (Ss' := [_, _, _]) rfl) rfl ?_
      refine st (OK1.mv (Has.t rfl)) rfl ?_
      refine st (OK1.call (hnf_first (i := i) hx hK hR hC hl (by omega)) (.cons (Has.t rfl) (.cons (Has.t rfl) .nil))) rfl ?_
      refine st (OK1.as (Has.t rfl)) rfl ?_
      refine nl ?_
      refine At.thn (hK12 _ _ ?_); clear hK12
      refine Tri.seq fun K13 hK13 => ?_
      refine Tri.region ?_
      refine st (OK1.mv (Has.t rfl)) rfl ?_
      refine st (OK1.geI (Has.t rfl) (Has.cI 0 rfl)) rfl ?_
      refine nl ?_
      refine At.thn (hK13 _ _ ?_); clear hK13
      refine Tri.cond (Has.t rfl) (fun hc3 => ?_) (fun hc3 => ?_)
      · have hc3 := BP.t hc3
        have hfk := fir_lt hc3
        refine Tri.region ?_
        refine st (OK1.mv (Has.t rfl)) rfl ?_
        refine st (OK1.eq (OK1.mv (Has.t rfl)) ((show _ = isI ((fc C ((mf C (vals xs)) i) : Nat) : Int) from isI_eq (if_pos hfk)))) rfl ?_
        refine st (OK1.buildS [isI 0] sl32 ty3 zero3 (fun _ _ => ⟨⟨rfl, by decide, by decide⟩, trivial⟩) rfl rfl (.cons (Has.t rfl) rfl rfl rfl .nil) rfl (S := SlM isI [((fc C ((mf C (vals xs)) i) : Nat) : Int)]) rfl) rfl ?_
        refine Ops.appendG (f := isI) (u := 0) sl32 ty3 zero3 (fun _ _ => ⟨⟨rfl, by decide, by decide⟩, trivial⟩) (fun _ => inferInstance) by3 (Has.t rfl) (i := 0) rfl (Has.t rfl) (by rw [pv_len]; show _ + 1 ≤ _; omega) (by simp) rfl fun gr1 => ?_
        refine Ops.memEq (M' := [grM _ _ _, _]) rfl ?_
        refine st (OK1.as (Has.t rfl)) rfl ?_
        refine nl ?_
        refine At.bln ?_
        refine At.thn (hK10 _ _ ?_); clear hK10
        refine Tri.region ?_
        refine st (OK1.addI (Has.t rfl) (Has.cI 1 rfl) (by first | omega | assumption) (by first | omega | assumption)) rfl ?_
        refine st (OK1.mv (Has.t rfl)) rfl ?_
        refine nl ?_
        refine At.thn ?_
        refine hK7 (⟨(i + 1, gr1), by show i + 1 ≤ R; omega⟩) _ _ ?_ (Cv.mem (.cons (t := 11) (Has.t' rfl ?_) (.cons (t := 3) (Has.t' rfl ?_) (.cons (t := 1) (Has.t rfl) (.cons (t := 2) (Has.t rfl) (.cons (t := 10) (Has.t rfl) .nil))))) ?_)
        · show R - (i + 1) < R - i; omega
        · exact isI_eq (by omega)
        · exact isGr_eq (by rw [pivL_yes hfk, pv_app, List.length_append])
        · exact grM_eq (by rw [pivL_yes hfk, pv_app])
      · have hc3 := BP.f hc3
        have hfk := fir_no hc3
        refine Tri.skip ?_
        refine At.bln ?_
        refine At.thn (hK10 _ _ ?_); clear hK10
        refine Tri.region ?_
        refine st (OK1.addI (Has.t rfl) (Has.cI 1 rfl) (by first | omega | assumption) (by first | omega | assumption)) rfl ?_
        refine st (OK1.mv (Has.t rfl)) rfl ?_
        refine nl ?_
        refine At.thn ?_
        refine hK7 (⟨(i + 1, g), by show i + 1 ≤ R; omega⟩) _ _ ?_ (Cv.mem (.cons (t := 11) (Has.t' rfl ?_) (.cons (t := 3) (Has.t' rfl ?_) (.cons (t := 1) (Has.t rfl) (.cons (t := 2) (Has.t rfl) (.cons (t := 10) (Has.t rfl) .nil))))) ?_)
        · show R - (i + 1) < R - i; omega
        · exact isI_eq (by omega)
        · exact isGr_eq (by rw [pivL_no hfk])
        · exact grM_eq (by rw [pivL_no hfk])
    · have hc2 := BP.f hc2
      refine Tri.exit ?_
      refine At.the ?_
      refine At.the ?_
      refine At.blh ?_
      refine At.thn (hK5 _ _ ?_); clear hK5
      refine Tri.seq fun K14 hK14 => ?_
      refine Tri.cv (Cv.freezeG (t := 3) (i := 0) (ys := pv (pivL C (mf C (vals xs)) i)) rfl rfl rfl) ?_
      refine Tri.memEq (M' := [_]) rfl ?_
      refine Tri.cv (Cv.wk (.cons (t := 1) (Has.t rfl) (.cons (t := 2) (Has.t rfl) (.cons (t := 10) (Has.t rfl) (.cons (t := 11) (Has.t rfl) (.cons (t := 3) (Has.t rfl) (.cons (t := 12) (Has.t rfl) .nil))))))) ?_
      refine Tri.region ?_
      refine st (OK1.mv (Has.t rfl)) rfl ?_
      refine st (OK1.as (Has.t rfl)) rfl ?_
      refine nl ?_
      refine At.thn (hK14 _ _ ?_); clear hK14
      refine Tri.cv (Cv.wk (.cons (t := 2) (Has.t rfl) .nil)) ?_
      refine Tri.ret ?_
      refine rt1 (.inl rfl) Try.results60 rfl (.tmp (Has.t' rfl ?_) .nil)
      all_goals (exact SlM_eq (by rw [show i = R by omega]))
end Go.Proofs.Ytiieaohnpnojmaa
/- Contracts: is it a form? -/
namespace Go.Proofs.Ytiieaohnpnojmaa
open Go.En Go.RowKit
set_option linter.unusedVariables false
set_option maxRecDepth 10000
open Go.Nt
open Go.Pz
open Go.Mz
open Go.Hn
open Go.Hp
open Go.Dt
set_option maxHeartbeats 4000000 in
theorem hnf_Is {R C K : Nat} {xs : List (Bool × List Nat)} (hx : Bd (vals xs) K) (hK : K ≤ 400000000) (hR : R ≤ 64) (hC : C ≤ 64) (hl : xs.length = R * C) : Ctr Try.prog 61 [isM (R : Int) (C : Int) xs] (isB (hermB R C (mf C (vals xs)))) := by
  refine Ctr.intro Try.func61 rfl (by kernel_rfl) Try.ntmps61 rfl fun w0 F0 => ?_
  refine Tri.cv (Cv.wk (.cons (t := 0) (Has.t rfl) .nil)) ?_
  have hRC := side_le hR hC
  have hfo := formB_true hR hC hl
  refine Tri.seq fun K1 hK1 => ?_
  refine Tri.region ?_
  refine Ops.box (Has.t rfl) rfl fun b1 => ?_
  refine st (OK1.as (Has.cB false)) rfl ?_
  refine nl ?_
  refine At.thn (hK1 _ _ ?_); clear hK1
  refine Tri.seq fun K2 hK2 => ?_
  refine Tri.seq fun K3 hK3 => ?_
  refine Tri.region ?_
  refine st (OK1.load (Has.t rfl) (i := 0) rfl ty63 rfl (Ss' := [_, _, _]) rfl) rfl ?_
  refine st (OK1.eq (OK1.call (zmat_Formed) (.cons (Has.t rfl) .nil)) ((show isB _ = isB true from isB_eq (hfo)))) rfl ?_
  refine st (OK1.not (Has.t rfl)) rfl ?_
  refine nl ?_
  refine At.thn (hK3 _ _ ?_); clear hK3
  refine Tri.cond (Has.t rfl) (fun hc1 => ?_) (fun hc1 => ?_)
  · have hc1 := BP.t hc1
    exfalso; simp at hc1
  · have hc1 := BP.f hc1
    refine Tri.skip ?_
    refine At.thn (hK2 _ _ ?_); clear hK2
    refine Tri.seq fun K4 hK4 => ?_
    refine Tri.region ?_
    refine st (OK1.as (Has.cI (-1) rfl)) rfl ?_
    refine st (OK1.as (Has.cB false)) rfl ?_
    refine nl ?_
    refine At.thn (hK4 _ _ ?_); clear hK4
    refine Tri.seq fun K5 hK5 => ?_
    refine Tri.seq fun K6 hK6 => ?_
    refine Tri.region ?_
    refine st (OK1.fieldAddr (Has.t rfl) fld63_0 ty3) rfl ?_
    refine st (OK1.load1 (Has.t rfl) (i := 0) rfl ty3 rfl) rfl ?_
    refine st (OK1.mv (Has.cI 0 rfl)) rfl ?_
    refine nl ?_
    refine At.thn (hK6 _ _ ?_); clear hK6
    refine Tri.cv (Cv.wk (.cons (t := 1) (Has.t rfl) (.cons (t := 2) (Has.t rfl) (.cons (t := 3) (Has.t rfl) (.cons (t := 4) (Has.t rfl) (.cons (t := 14) (Has.t rfl) (.cons (t := 15) (Has.t rfl) .nil))))))) ?_
    refine Tri.block ?_
    refine Tri.loopF [1, 14] (fun (z : { z : Nat × Int × Bool // z.1 ≤ R ∧ HermF z.1 C (mf C (vals xs)) ∧ (z.2.2 = true → 0 < z.1 ∧ fc C ((mf C (vals xs)) (z.1 - 1)) = C) ∧ (z.2.2 = false → z.2.1 = if z.1 = 0 then -1 else ((fc C ((mf C (vals xs)) (z.1 - 1)) : Nat) : Int)) }) => match z with | ⟨(i, last, ended), hI⟩ => [(15, isI (i : Int)), (3, isI last), (4, isB ended)]) (fun M => fun (z : { z : Nat × Int × Bool // z.1 ≤ R ∧ HermF z.1 C (mf C (vals xs)) ∧ (z.2.2 = true → 0 < z.1 ∧ fc C ((mf C (vals xs)) (z.1 - 1)) = C) ∧ (z.2.2 = false → z.2.1 = if z.1 = 0 then -1 else ((fc C ((mf C (vals xs)) (z.1 - 1)) : Nat) : Int)) }) => match z with | ⟨(i, last, ended), hI⟩ => M) (fun (z : { z : Nat × Int × Bool // z.1 ≤ R ∧ HermF z.1 C (mf C (vals xs)) ∧ (z.2.2 = true → 0 < z.1 ∧ fc C ((mf C (vals xs)) (z.1 - 1)) = C) ∧ (z.2.2 = false → z.2.1 = if z.1 = 0 then -1 else ((fc C ((mf C (vals xs)) (z.1 - 1)) : Nat) : Int)) }) => match z with | ⟨(i, last, ended), hI⟩ => R - i) (⟨(0, -1, false), Nat.zero_le _, fun i hi => absurd hi (Nat.not_lt_zero _), fun h => (by cases h), fun _ => rfl⟩) (Cv.mem (.cons (t := 15) (Has.t' rfl ?_) (.cons (t := 3) (Has.t' rfl ?_) (.cons (t := 4) (Has.t' rfl ?_) (.cons (t := 1) (Has.t rfl) (.cons (t := 14) (Has.t rfl) .nil))))) ?_) ?_
    · rfl
    · rfl
    · rfl
    · rfl
    rintro ⟨⟨i, last, ended⟩, hI⟩ K7 hK7
    refine Tri.cv (Cv.wk (.cons (t := 15) (Has.t rfl) (.cons (t := 3) (Has.t rfl) (.cons (t := 4) (Has.t rfl) (.cons (t := 1) (Has.t rfl) (.cons (t := 14) (Has.t rfl) .nil)))))) ?_
    simp only [] at hI
    obtain ⟨hi, hF, hE1, hE2⟩ := hI
    refine Tri.seq fun K8 hK8 => ?_
    refine Tri.region ?_
    refine st (OK1.ltI (Has.t rfl) (Has.t rfl)) rfl ?_
    refine nl ?_
    refine At.thn (hK8 _ _ ?_); clear hK8
    refine Tri.seq fun K9 hK9 => ?_
    refine Tri.cond (Has.t rfl) (fun hc2 => ?_) (fun hc2 => ?_)
    · have hc2 := BP.t hc2
      refine Tri.skip ?_
      refine At.thn (hK9 _ _ ?_); clear hK9
      refine Tri.seq fun K10 hK10 => ?_
      refine Tri.block ?_
      refine Tri.seq fun K11 hK11 => ?_
      refine Tri.region ?_
      refine st (OK1.mv (Has.t rfl)) rfl ?_
      refine st (OK1.as (Has.t rfl)) rfl ?_
      refine nl ?_
      refine At.thn (hK11 _ _ ?_); clear hK11
      refine Tri.seq fun K12 hK12 => ?_
      refine Tri.region ?_
      refine st (OK1.load (Has.t rfl) (i := 0) rfl ty63 rfl (Ss' := [_, _, _]) rfl) rfl ?_
      refine st (OK1.mv (Has.t rfl)) rfl ?_
      refine st (OK1.call (hnf_first (i := i) hx hK hR hC hl (by omega)) (.cons (Has.t rfl) (.cons (Has.t rfl) .nil))) rfl ?_
      refine st (OK1.as (Has.t rfl)) rfl ?_
      refine nl ?_
      refine At.thn (hK12 _ _ ?_); clear hK12
      refine Tri.seq fun K13 hK13 => ?_
      refine Tri.seq fun K14 hK14 => ?_
      refine Tri.region ?_
      refine st (OK1.mv (Has.t rfl)) rfl ?_
      refine st (OK1.ltI (Has.t rfl) (Has.cI 0 rfl)) rfl ?_
      refine nl ?_
      refine At.thn (hK14 _ _ ?_); clear hK14
      refine Tri.cond (Has.t rfl) (fun hc3 => ?_) (fun hc3 => ?_)
      · have hc3 := BP.t hc3
        have hfk := fir_no (by omega)
        refine Tri.seq fun K15 hK15 => ?_
        refine Tri.region ?_
        refine st (OK1.as (Has.cB true)) rfl ?_
        refine nl ?_
        refine At.thn (hK15 _ _ ?_); clear hK15
        refine Tri.exit ?_
        refine At.the ?_
        refine At.blh ?_
        refine At.thn (hK10 _ _ ?_); clear hK10
        refine Tri.region ?_
        refine st (OK1.addI (Has.t rfl) (Has.cI 1 rfl) (by first | omega | assumption) (by first | omega | assumption)) rfl ?_
        refine st (OK1.mv (Has.t rfl)) rfl ?_
        refine nl ?_
        refine At.thn ?_
        refine hK7 (⟨(i + 1, last, true), by show i + 1 ≤ R; omega, hF.snoc (fun hc => absurd hc hfk), fun _ => ⟨Nat.succ_pos _, by have := fc_le ((mf C (vals xs)) i) C; show (fc C ((mf C (vals xs)) i)) = C; omega⟩, fun h => (by cases h)⟩) _ _ ?_ (Cv.mem (.cons (t := 15) (Has.t' rfl ?_) (.cons (t := 3) (Has.t' rfl ?_) (.cons (t := 4) (Has.t' rfl ?_) (.cons (t := 1) (Has.t rfl) (.cons (t := 14) (Has.t rfl) .nil))))) ?_)
        · show R - (i + 1) < R - i; omega
        · exact isI_eq (by omega)
        · rfl
        · rfl
        · rfl
      · have hc3 := BP.f hc3
        have hfk := fir_lt (by omega)
        have hbx : (List.length (words ((mf C (vals xs)) i (fc C ((mf C (vals xs)) i))).natAbs)) ≤ K := hx _
        have hne := fc_ne hfk
        refine Tri.skip ?_
        refine At.thn (hK13 _ _ ?_); clear hK13
        refine Tri.seq fun K16 hK16 => ?_
        refine Tri.region ?_
        refine st (OK1.load (Has.t rfl) (i := 0) rfl ty63 rfl (Ss' := [_, _, _]) rfl) rfl ?_
        refine st (OK1.mv (Has.t rfl)) rfl ?_
        refine st (OK1.eq (OK1.mv (Has.t rfl)) ((show _ = isI ((fc C ((mf C (vals xs)) i)) : Int) from isI_eq (if_pos hfk)))) rfl ?_
        refine st (OK1.eq (OK1.call (zmat_At (i := i) (k := (fc C ((mf C (vals xs)) i))) hx (by omega) hR hC hl (by omega) hfk) (.cons (Has.t rfl) (.cons (Has.t rfl) (.cons (Has.t rfl) .nil)))) ((show _ = isZ ((mf C (vals xs)) i (fc C ((mf C (vals xs)) i))) from rfl))) rfl ?_
        refine Ops.alloc [isB false, SlM isU []] zero72 (fun _ _ => ⟨rfl, nilM _ _, trivial⟩) rfl fun b2 => ?_
        refine Ops.store (Has.t rfl) (Has.t rfl) (i := 0) rfl ty72 rfl rfl (Ss' := [_, _]) rfl (M' := [(some _, cellM [_, _]), _]) rfl ?_
        refine nl ?_
        refine At.thn (hK16 _ _ ?_); clear hK16
        refine Tri.seq fun K17 hK17 => ?_
        refine Tri.seq fun K18 hK18 => ?_
        refine Tri.region ?_
        refine st (OK1.mv (Has.t rfl)) rfl ?_
        refine st (OK1.mv (Has.t rfl)) rfl ?_
        refine stF rfl rfl (fun hg => have hg' := BP.t hg; OK1.eq (OK1.mv (Has.t rfl)) ((show _ = isI ((fc C ((mf C (vals xs)) i)) : Int) from isI_eq (if_pos hfk)))) rfl ?_
        refine stF rfl rfl (fun hg => have hg' := BP.t hg; OK1.mv (Has.t rfl)) rfl ?_
        refine stF rfl rfl (fun hg => have hg' := BP.t hg; OK1.leI (Has.g rfl hg) (Has.g rfl hg)) rfl ?_
        refine st (OK1.pickOr (Has.t rfl) (fun h => Has.g rfl (ng h))) rfl ?_
        refine st (OK1.mv (Has.t rfl)) rfl ?_
        refine stF rfl rfl (fun hg => have hg' := BP.t hg; OK1.load (Has.t rfl) (i := 0) rfl ty72 rfl (Ss' := [_, _]) rfl) rfl ?_
        refine stF rfl rfl (fun hg => have hg' := BP.t hg; OK1.eq (OK1.call (zint_Sign (by rw [val_words]; omega)) (.cons (Has.g rfl hg) .nil)) ((show _ = isI (sgn ((mf C (vals xs)) i (fc C ((mf C (vals xs)) i)))) from isI_eq (by rw [zv_nf])))) rfl ?_
        refine stF rfl rfl (fun hg => have hg' := BP.t hg; OK1.ltI (Has.g rfl hg) (Has.cI 0 rfl)) rfl ?_
        refine st (OK1.pickOr (Has.t rfl) (fun h => Has.g rfl (ng h))) rfl ?_
        refine nl ?_
        refine At.thn (hK18 _ _ ?_); clear hK18
        refine Tri.cond (Has.t rfl) (fun hc4 => ?_) (fun hc4 => ?_)
        · have hc4 := BP.t hc4
          have HX131 := hc4
          refine Tri.seq fun K19 hK19 => ?_
          refine Tri.region ?_
          refine st (OK1.as (Has.cB false)) rfl ?_
          refine nl ?_
          refine At.thn (hK19 _ _ ?_); clear hK19
          refine Tri.ret ?_
          refine At.thr ?_
          refine At.blr ?_
          refine At.thr ?_
          refine At.thr ?_
          refine At.blr ?_
          refine At.thr ?_
          refine rt1 (.inl rfl) Try.results61 rfl (.tmp (Has.t' rfl ?_) .nil)
          all_goals (exact isB_eq (hermB_no fun hh => is_dead131 (by omega) hfk hh hE1 hE2 (by simpa [or_assoc] using HX131)))
        · have hc4 := BP.f hc4
          have hen : ended = false := by simpa using hc4.1.1
          have hpos : 0 < (mf C (vals xs)) i (fc C ((mf C (vals xs)) i)) := by
            have h2 := mt (sgn_lt ((mf C (vals xs)) i (fc C ((mf C (vals xs)) i)))).2
            omega
          refine Tri.skip ?_
          refine At.thn (hK17 _ _ ?_); clear hK17
          refine Tri.seq fun K20 hK20 => ?_
          refine Tri.seq fun K21 hK21 => ?_
          refine Tri.region ?_
          refine st (OK1.mv (Has.t rfl)) rfl ?_
          refine st (OK1.mv (Has.cI 0 rfl)) rfl ?_
          refine nl ?_
          refine At.thn (hK21 _ _ ?_); clear hK21
          refine Tri.block ?_
          refine Tri.loopF [1, 14, 15, 3, 4, 16, 17, 5, 18, 19, 20, 6, 21, 22, 23, 24, 25, 26, 7, 27, 28, 29, 30, 31, 32, 33, 34, 35, 36, 37, 38] (fun (z : { r : Nat // r ≤ i ∧ ∀ j, j < r → 0 ≤ (mf C (vals xs)) j (fc C ((mf C (vals xs)) i)) ∧ (mf C (vals xs)) j (fc C ((mf C (vals xs)) i)) < (mf C (vals xs)) i (fc C ((mf C (vals xs)) i)) }) => match z with | ⟨r, hI2⟩ => [(39, isI (r : Int))]) (fun M => fun (z : { r : Nat // r ≤ i ∧ ∀ j, j < r → 0 ≤ (mf C (vals xs)) j (fc C ((mf C (vals xs)) i)) ∧ (mf C (vals xs)) j (fc C ((mf C (vals xs)) i)) < (mf C (vals xs)) i (fc C ((mf C (vals xs)) i)) }) => match z with | ⟨r, hI2⟩ => M) (fun (z : { r : Nat // r ≤ i ∧ ∀ j, j < r → 0 ≤ (mf C (vals xs)) j (fc C ((mf C (vals xs)) i)) ∧ (mf C (vals xs)) j (fc C ((mf C (vals xs)) i)) < (mf C (vals xs)) i (fc C ((mf C (vals xs)) i)) }) => match z with | ⟨r, hI2⟩ => i - r) (⟨0, Nat.zero_le _, fun j hj => absurd hj (Nat.not_lt_zero _)⟩) (Cv.mem (.cons (t := 39) (Has.t' rfl ?_) (.cons (t := 1) (Has.t rfl) (.cons (t := 14) (Has.t rfl) (.cons (t := 15) (Has.t rfl) (.cons (t := 3) (Has.t rfl) (.cons (t := 4) (Has.t rfl) (.cons (t := 16) (Has.t rfl) (.cons (t := 17) (Has.t rfl) (.cons (t := 5) (Has.t rfl) (.cons (t := 18) (Has.t rfl) (.cons (t := 19) (Has.t rfl) (.cons (t := 20) (Has.t rfl) (.cons (t := 6) (Has.t rfl) (.cons (t := 21) (Has.t rfl) (.cons (t := 22) (Has.t rfl) (.cons (t := 23) (Has.t rfl) (.cons (t := 24) (Has.t rfl) (.cons (t := 25) (Has.t rfl) (.cons (t := 26) (Has.t rfl) (.cons (t := 7) (Has.t rfl) (.cons (t := 27) (Has.t rfl) (.cons (t := 28) (Has.t rfl) (.cons (t := 29) (Has.t rfl) (.cons (t := 30) (Has.t rfl) (.cons (t := 31) (Has.t rfl) (.cons (t := 32) (Has.t rfl) (.cons (t := 33) (Has.t rfl) (.cons (t := 34) (Has.t rfl) (.cons (t := 35) (Has.t rfl) (.cons (t := 36) (Has.t rfl) (.cons (t := 37) (Has.t rfl) (.cons (t := 38) (Has.t rfl) .nil)))))))))))))))))))))))))))))))) ?_) ?_
          · rfl
          · rfl
          rintro ⟨r, hr, hI2⟩ K22 hK22
          refine Tri.cv (Cv.wk (.cons (t := 39) (Has.t rfl) (.cons (t := 1) (Has.t rfl) (.cons (t := 14) (Has.t rfl) (.cons (t := 15) (Has.t rfl) (.cons (t := 3) (Has.t rfl) (.cons (t := 4) (Has.t rfl) (.cons (t := 16) (Has.t rfl) (.cons (t := 17) (Has.t rfl) (.cons (t := 5) (Has.t rfl) (.cons (t := 18) (Has.t rfl) (.cons (t := 19) (Has.t rfl) (.cons (t := 20) (Has.t rfl) (.cons (t := 6) (Has.t rfl) (.cons (t := 21) (Has.t rfl) (.cons (t := 22) (Has.t rfl) (.cons (t := 23) (Has.t rfl) (.cons (t := 24) (Has.t rfl) (.cons (t := 25) (Has.t rfl) (.cons (t := 26) (Has.t rfl) (.cons (t := 7) (Has.t rfl) (.cons (t := 27) (Has.t rfl) (.cons (t := 28) (Has.t rfl) (.cons (t := 29) (Has.t rfl) (.cons (t := 30) (Has.t rfl) (.cons (t := 31) (Has.t rfl) (.cons (t := 32) (Has.t rfl) (.cons (t := 33) (Has.t rfl) (.cons (t := 34) (Has.t rfl) (.cons (t := 35) (Has.t rfl) (.cons (t := 36) (Has.t rfl) (.cons (t := 37) (Has.t rfl) (.cons (t := 38) (Has.t rfl) .nil))))))))))))))))))))))))))))))))) ?_
          refine Tri.seq fun K23 hK23 => ?_
          refine Tri.region ?_
          refine st (OK1.ltI (Has.t rfl) (Has.t rfl)) rfl ?_
          refine nl ?_
          refine At.thn (hK23 _ _ ?_); clear hK23
          refine Tri.seq fun K24 hK24 => ?_
          refine Tri.cond (Has.t rfl) (fun hc5 => ?_) (fun hc5 => ?_)
          · have hc5 := BP.t hc5
            have hbr : (List.length (words ((mf C (vals xs)) r (fc C ((mf C (vals xs)) i))).natAbs)) ≤ K := hx _
            refine Tri.skip ?_
            refine At.thn (hK24 _ _ ?_); clear hK24
            refine Tri.seq fun K25 hK25 => ?_
            refine Tri.block ?_
            refine Tri.seq fun K26 hK26 => ?_
            refine Tri.region ?_
            refine st (OK1.mv (Has.t rfl)) rfl ?_
            refine st (OK1.as (Has.t rfl)) rfl ?_
            refine nl ?_
            refine At.thn (hK26 _ _ ?_); clear hK26
            refine Tri.seq fun K27 hK27 => ?_
            refine Tri.region ?_
            refine st (OK1.load (Has.t rfl) (i := 1) rfl ty63 rfl (Ss' := [_, _, _]) rfl) rfl ?_
            refine st (OK1.mv (Has.t rfl)) rfl ?_
            refine st (OK1.eq (OK1.mv (Has.t rfl)) ((show _ = isI ((fc C ((mf C (vals xs)) i)) : Int) from isI_eq (if_pos hfk)))) rfl ?_
            refine st (OK1.eq (OK1.call (zmat_At (i := r) (k := (fc C ((mf C (vals xs)) i))) hx (by omega) hR hC hl (by omega) hfk) (.cons (Has.t rfl) (.cons (Has.t rfl) (.cons (Has.t rfl) .nil)))) ((show _ = isZ ((mf C (vals xs)) r (fc C ((mf C (vals xs)) i))) from rfl))) rfl ?_
            refine Ops.alloc [isB false, SlM isU []] zero72 (fun _ _ => ⟨rfl, nilM _ _, trivial⟩) rfl fun b3 => ?_
            refine Ops.store (Has.t rfl) (Has.t rfl) (i := 0) rfl ty72 rfl rfl (Ss' := [_, _]) rfl (M' := [(some _, cellM [_, _]), _, _]) rfl ?_
            refine nl ?_
            refine At.thn (hK27 _ _ ?_); clear hK27
            refine Tri.seq fun K28 hK28 => ?_
            refine Tri.region ?_
            refine st (OK1.load (Has.t rfl) (i := 0) rfl ty72 rfl (Ss' := [_, _]) rfl) rfl ?_
            refine st (OK1.eq (OK1.call (zint_Sign (by rw [val_words]; omega)) (.cons (Has.t rfl) .nil)) ((show _ = isI (sgn ((mf C (vals xs)) r (fc C ((mf C (vals xs)) i)))) from isI_eq (by rw [zv_nf])))) rfl ?_
            refine st (OK1.ltI (Has.t rfl) (Has.cI 0 rfl)) rfl ?_
            refine st (OK1.mv (Has.t rfl)) rfl ?_
            refine stF rfl rfl (fun hg => have hg' := BP.t hg; OK1.load (Has.t rfl) (i := 0) rfl ty72 rfl (Ss' := [_, _]) rfl) rfl ?_
            refine stF rfl rfl (fun hg => have hg' := BP.t hg; OK1.load (Has.t rfl) (i := 1) rfl ty72 rfl (Ss' := [_, _]) rfl) rfl ?_
            refine stF rfl rfl (fun hg => have hg' := BP.t hg; OK1.eq (OK1.call (zint_Cmp (by rw [val_words]; omega) (by rw [val_words]; omega)) (.cons (Has.g rfl hg) (.cons (Has.g rfl hg) .nil))) ((show _ = isI (cmpZ ((mf C (vals xs)) r (fc C ((mf C (vals xs)) i))) ((mf C (vals xs)) i (fc C ((mf C (vals xs)) i)))) from isI_eq (by rw [zv_nf, zv_nf])))) rfl ?_
            refine stF rfl rfl (fun hg => have hg' := BP.t hg; OK1.geI (Has.g rfl hg) (Has.cI 0 rfl)) rfl ?_
            refine st (OK1.pickOr (Has.t rfl) (fun h => Has.g rfl (ng h))) rfl ?_
            refine nl ?_
            refine At.thn (hK28 _ _ ?_); clear hK28
            refine Tri.cond (Has.t rfl) (fun hc6 => ?_) (fun hc6 => ?_)
            · have hc6 := BP.t hc6
              skip
              refine Tri.seq fun K29 hK29 => ?_
              refine Tri.region ?_
              refine st (OK1.as (Has.cB false)) rfl ?_
              refine nl ?_
              refine At.thn (hK29 _ _ ?_); clear hK29
              refine Tri.ret ?_
              refine At.blr ?_
              refine At.thr ?_
              refine At.thr ?_
              refine At.blr ?_
              refine At.thr ?_
              refine At.blr ?_
              refine At.thr ?_
              refine At.thr ?_
              refine At.blr ?_
              refine At.thr ?_
              refine rt1 (.inl rfl) Try.results61 rfl (.tmp (Has.t' rfl ?_) .nil)
              all_goals (exact isB_eq (hermB_no fun hh => by have hsl := sgn_lt ((mf C (vals xs)) r (fc C ((mf C (vals xs)) i))); have hcz := cmpZ_cases ((mf C (vals xs)) r (fc C ((mf C (vals xs)) i))) ((mf C (vals xs)) i (fc C ((mf C (vals xs)) i))); have hx1 := (hh i (by omega) hfk).2.2 r (by omega); omega))
            · have hc6 := BP.f hc6
              have hrow : 0 ≤ (mf C (vals xs)) r (fc C ((mf C (vals xs)) i)) ∧ (mf C (vals xs)) r (fc C ((mf C (vals xs)) i)) < (mf C (vals xs)) i (fc C ((mf C (vals xs)) i)) := by
                have h1 := mt (sgn_lt ((mf C (vals xs)) r (fc C ((mf C (vals xs)) i)))).2
                have h2 := cmpZ_cases ((mf C (vals xs)) r (fc C ((mf C (vals xs)) i))) ((mf C (vals xs)) i (fc C ((mf C (vals xs)) i)))
                omega
              refine Tri.skip ?_
              refine At.bln ?_
              refine At.thn (hK25 _ _ ?_); clear hK25
              refine Tri.region ?_
              refine st (OK1.addI (Has.t rfl) (Has.cI 1 rfl) (by first | omega | assumption) (by first | omega | assumption)) rfl ?_
              refine st (OK1.mv (Has.t rfl)) rfl ?_
              refine nl ?_
              refine At.thn ?_
              refine hK22 (⟨r + 1, by omega, fun j hj => by rcases Nat.lt_or_ge j r with h | h; exact hI2 j h; obtain rfl : j = r := (by omega); exact hrow⟩) _ _ ?_ (Cv.trans (Cv.drop ((.cons _ (.cons_cons _ (.cons_cons _ .slnil))))) (Cv.mem (.cons (t := 39) (Has.t' rfl ?_) (.cons (t := 1) (Has.t rfl) (.cons (t := 14) (Has.t rfl) (.cons (t := 15) (Has.t rfl) (.cons (t := 3) (Has.t rfl) (.cons (t := 4) (Has.t rfl) (.cons (t := 16) (Has.t rfl) (.cons (t := 17) (Has.t rfl) (.cons (t := 5) (Has.t rfl) (.cons (t := 18) (Has.t rfl) (.cons (t := 19) (Has.t rfl) (.cons (t := 20) (Has.t rfl) (.cons (t := 6) (Has.t rfl) (.cons (t := 21) (Has.t rfl) (.cons (t := 22) (Has.t rfl) (.cons (t := 23) (Has.t rfl) (.cons (t := 24) (Has.t rfl) (.cons (t := 25) (Has.t rfl) (.cons (t := 26) (Has.t rfl) (.cons (t := 7) (Has.t rfl) (.cons (t := 27) (Has.t rfl) (.cons (t := 28) (Has.t rfl) (.cons (t := 29) (Has.t rfl) (.cons (t := 30) (Has.t rfl) (.cons (t := 31) (Has.t rfl) (.cons (t := 32) (Has.t rfl) (.cons (t := 33) (Has.t rfl) (.cons (t := 34) (Has.t rfl) (.cons (t := 35) (Has.t rfl) (.cons (t := 36) (Has.t rfl) (.cons (t := 37) (Has.t rfl) (.cons (t := 38) (Has.t rfl) .nil)))))))))))))))))))))))))))))))) ?_))
              · show i - (r + 1) < i - r; omega
              · exact isI_eq (by omega)
              · rfl
          · have hc5 := BP.f hc5
            skip
            refine Tri.exit ?_
            refine At.the ?_
            refine At.the ?_
            refine At.blh ?_
            refine At.thn (hK20 _ _ ?_); clear hK20
            refine Tri.region ?_
            refine st (OK1.eq (OK1.mv (Has.t rfl)) ((show _ = isI ((fc C ((mf C (vals xs)) i)) : Int) from isI_eq (if_pos hfk)))) rfl ?_
            refine st (OK1.as (Has.t rfl)) rfl ?_
            refine nl ?_
            refine At.bln ?_
            refine At.thn (hK10 _ _ ?_); clear hK10
            refine Tri.region ?_
            refine st (OK1.addI (Has.t rfl) (Has.cI 1 rfl) (by first | omega | assumption) (by first | omega | assumption)) rfl ?_
            refine st (OK1.mv (Has.t rfl)) rfl ?_
            refine nl ?_
            refine At.thn ?_
            refine hK7 (⟨(i + 1, ((fc C ((mf C (vals xs)) i)) : Int), ended), by show i + 1 ≤ R; omega, hF.snoc (fun _ => ⟨fun h0 => by have := hE2 hen; rw [if_neg (by omega)] at this; omega, hpos, fun r' hr' => hI2 r' (by omega)⟩), fun h => (by subst hen; cases h), fun _ => by show ((fc C ((mf C (vals xs)) i)) : Int) = if i + 1 = 0 then -1 else _; rw [if_neg (by omega)]; rfl⟩) _ _ ?_ (Cv.trans (Cv.drop ((.cons _ (.cons_cons _ .slnil)))) (Cv.mem (.cons (t := 15) (Has.t' rfl ?_) (.cons (t := 3) (Has.t' rfl ?_) (.cons (t := 4) (Has.t' rfl ?_) (.cons (t := 1) (Has.t rfl) (.cons (t := 14) (Has.t rfl) .nil))))) ?_))
            · show R - (i + 1) < R - i; omega
            · exact isI_eq (by omega)
            · rfl
            · rfl
            · rfl
    · have hc2 := BP.f hc2
      refine Tri.exit ?_
      refine At.the ?_
      refine At.the ?_
      refine At.blh ?_
      refine At.thn (hK5 _ _ ?_); clear hK5
      refine Tri.cv (Cv.wk .nil) ?_
      refine Tri.seq fun K30 hK30 => ?_
      refine Tri.region ?_
      refine st (OK1.as (Has.cB true)) rfl ?_
      refine nl ?_
      refine At.thn (hK30 _ _ ?_); clear hK30
      refine Tri.ret ?_
      refine rt1 (.inl rfl) Try.results61 rfl (.tmp (Has.t' rfl ?_) .nil)
      all_goals (exact isB_eq (hermB_yes (by rw [show R = i by omega]; exact hF)))
end Go.Proofs.Ytiieaohnpnojmaa
/- The multiples of a form's rows that make a row; lattices that are the same. No program here. -/
namespace Go.Hp
open Go.Dt Go.Hn Go.Pz Go.Nt Go.Mz Go.En
def rowL (C : Nat) (L : List Int) (i : Nat) : List Int := (List.range C).map fun k => cf L (i * C + k)
theorem rowL_len (C : Nat) (L : List Int) (i : Nat) : (rowL C L i).length = C := by unfold rowL; rw [List.length_map, List.length_range]
theorem cf_rowL {C i k : Nat} {L : List Int} (h : k < C) : cf (rowL C L i) k = mf C L i k := by unfold rowL; rw [cf_tab, if_pos h]; rfl
theorem rowL_of {C i : Nat} {xs : List (Bool × List Nat)} (h : (i + 1) * C ≤ xs.length) : vals ((xs.take ((i + 1) * C)).drop (i * C)) = rowL C (vals xs) i := by
  have h2 : (i + 1) * C = i * C + C := Nat.succ_mul _ _
  have hl : (vals ((xs.take ((i + 1) * C)).drop (i * C))).length = C := by rw [vals_len, List.length_drop, List.length_take]; omega
  refine ext_cf (by rw [hl, rowL_len]) fun j hj => ?_
  rw [hl] at hj
  rw [cf_part_row (by omega), cf_rowL hj]; rfl
/-- what is left of a row -/
def crs (C : Nat) (L v : List Int) : Nat → List Int
  | 0 => v
  | n + 1 => mx2 1 (crs C L v n) (-(cf (crs C L v n) (fc C (mf C L n)) / mf C L n (fc C (mf C L n)))) (rowL C L n)
def crn (C : Nat) (L v : List Int) (n : Nat) : Int := cf (crs C L v n) (fc C (mf C L n)) / mf C L n (fc C (mf C L n))
theorem crs_len {C : Nat} {L v : List Int} (hv : v.length = C) : ∀ n, (crs C L v n).length = C
  | 0 => hv
  | n + 1 => (mx2_len _ _ _ _).trans (crs_len hv n)
theorem crs_at {C n k : Nat} {L v : List Int} (hv : v.length = C) (hk : k < C) : cf (crs C L v (n + 1)) k = cf (crs C L v n) k - crn C L v n * mf C L n k := by
  show cf (mx2 _ _ _ _) k = _
  rw [cf_mx2 (by rw [rowL_len, crs_len hv]), cf_rowL hk]
  show 1 * cf (crs C L v n) k + (-(crn C L v n)) * mf C L n k = _
  grind
theorem crs_bd {C K Kv : Nat} {L v : List Int} (hL : Bd L K) (hv : Bd v Kv) : ∀ n, (∀ i, i < n → 0 < mf C L i (fc C (mf C L i))) → Bd (crs C L v n) (Kv + n * (K + 2))
  | 0, _ => hv.mono (by omega)
  | n + 1, h => by
    have ih := crs_bd hL hv n fun i hi => h i (by omega)
    have h1 : (List.length (words (1 : Int).natAbs)) ≤ 1 := nw_small' (by decide)
    have hr : Bd (rowL C L n) K := fun k => by
      unfold rowL
      rw [cf_tab]
      split
      · exact hL _
      · rw [Int.natAbs_zero, words_zero]; exact Nat.zero_le _
    exact Bd_mx2 (A := 1) (B := Kv + n * (K + 2)) h1 ih (by rw [Int.natAbs_neg]; exact div_nw (h n (by omega)) (ih _)) hr (by rw [Nat.succ_mul]; omega) (by rw [Nat.succ_mul]; omega)
theorem HermF.sub {R C n : Nat} {A : MatF} (h : HermF R C A) (hn : n ≤ R) : HermF n C A := fun i hi hc => h i (by omega) hc
/-- the rows that aren't noughts come first -/
theorem herm_piv {C : Nat} {A : MatF} : ∀ {R : Nat}, HermF R C A → ∃ P, P ≤ R ∧ (∀ i, i < P → fc C (A i) < C) ∧ (∀ i, P ≤ i → i < R → ¬ fc C (A i) < C) ∧ pivL C A R = (List.range P).map fun i => fc C (A i)
  | 0, _ => ⟨0, Nat.le_refl _, fun i h => absurd h (Nat.not_lt_zero _), fun i _ h => absurd h (Nat.not_lt_zero _), rfl⟩
  | n + 1, h => by
    obtain ⟨P, h1, h2, h3, h4⟩ := herm_piv (h.sub (Nat.le_succ n))
    by_cases hf : fc C (A n) < C
    · have hP : P = n := by
        rcases Nat.lt_or_ge P n with h5 | h5
        · have h6 := (h n (by omega) hf).1 (by omega)
          exact absurd (by omega) (h3 (n - 1) (by omega) (by omega))
        · omega
      subst hP
      refine ⟨P + 1, Nat.le_refl _, fun i hi => ?_, fun i g1 g2 => by omega, ?_⟩
      · rcases Nat.lt_or_ge i P with h5 | h5
        · exact h2 i h5
        · rw [show i = P by omega]; exact hf
      · rw [pivL_yes hf, h4, List.range_succ, List.map_append]; rfl
    · refine ⟨P, by omega, h2, fun i g1 g2 => ?_, by rw [pivL_no hf]; exact h4⟩
      rcases Nat.lt_or_ge i n with h5 | h5
      · exact h3 i g1 h5
      · rw [show i = n by omega]; exact hf
/-- is it spanned? -/
noncomputable def spB (R C : Nat) (A : MatF) (v : Nat → Int) : Bool := @decide (SpZ R C A v) (Classical.propDecidable _)
theorem spB_iff {R C : Nat} {A : MatF} {v : Nat → Int} : spB R C A v = true ↔ SpZ R C A v := by unfold spB; exact @decide_eq_true_iff _ (Classical.propDecidable _)
theorem sm_less {P R : Nat} {f : Nat → Int} (hP : P ≤ R) (h : ∀ i, P ≤ i → i < R → f i = 0) : sm R f = sm P f := by
  induction R with
  | zero => rw [show P = 0 by omega]
  | succ n ih =>
    rcases Nat.lt_or_ge n P with h1 | h1
    · rw [show P = n + 1 by omega]
    · show sm n f + f n = _
      rw [h n h1 (by omega), Int.add_zero]
      exact ih h1 fun i g1 g2 => h i g1 (by omega)
theorem crs_sum {C : Nat} {L v : List Int} (hv : v.length = C) {k : Nat} (hk : k < C) : ∀ n, cf v k = (sm n fun i => crn C L v i * mf C L i k) + cf (crs C L v n) k
  | 0 => by show _ = 0 + _; rw [Int.zero_add]; rfl
  | n + 1 => by
    rw [crs_sum (L := L) hv hk n, crs_at hv hk]
    show _ = ((sm n fun i => crn C L v i * mf C L i k) + crn C L v n * mf C L n k) + _
    omega
theorem crs_in {R C P : Nat} {L v : List Int} (hv : v.length = C) (hP : P ≤ R) (h : ∀ k, k < C → cf (crs C L v P) k = 0) : SpZ R C (mf C L) (cf v) := by
  refine ⟨fun i => if i < P then crn C L v i else 0, fun k hk => ?_⟩
  rw [crs_sum (L := L) hv hk P, h k hk, Int.add_zero, sm_less hP fun i g1 g2 => by show (if i < P then crn C L v i else 0) * _ = 0; rw [if_neg (by omega), Int.zero_mul]]
  exact sm_congr fun i hi => by show _ = (if i < P then crn C L v i else 0) * _; rw [if_pos hi]
theorem crs_out {R C P : Nat} {L v : List Int} (hF : HermF R C (mf C L)) (hv : v.length = C) (hP : P ≤ R) (h1 : ∀ i, i < P → fc C (mf C L i) < C) (h2 : ∀ i, P ≤ i → i < R → ¬ fc C (mf C L i) < C) (hs : SpZ R C (mf C L) (cf v)) : ∀ k, k < C → cf (crs C L v P) k = 0 := by
  obtain ⟨a, ha⟩ := hs
  have key : ∀ n, n ≤ P → ∃ a : Nat → Int, (∀ i, i < n → a i = 0) ∧ ∀ k, k < C → cf (crs C L v n) k = sm R fun i => a i * mf C L i k := by
    intro n
    induction n with
    | zero => intro _; exact ⟨a, fun i hi => absurd hi (Nat.not_lt_zero _), ha⟩
    | succ n ih =>
      intro hn
      obtain ⟨a, ha0, ha1⟩ := ih (by omega)
      have hfn := h1 n (by omega)
      have hp := (hF n (by omega) hfn).2.1
      have hpv : cf (crs C L v n) (fc C (mf C L n)) = a n * mf C L n (fc C (mf C L n)) := by
        rw [ha1 _ hfn]
        refine sm_one (by omega) fun i hi hne => ?_
        rcases Nat.lt_or_ge i n with h3 | h3
        · rw [ha0 i h3, Int.zero_mul]
        · rw [hF.later (show n < i by omega) hi hfn (Nat.le_refl _), Int.mul_zero]
      have hc : crn C L v n = a n := by
        unfold crn
        rw [hpv, Int.mul_ediv_cancel _ (by omega)]
      refine ⟨fun i => if i = n then 0 else a i, fun i hi => ?_, fun k hk => ?_⟩
      · show (if i = n then 0 else a i) = 0
        split
        · rfl
        · exact ha0 i (by omega)
      · show cf (crs C L v (n + 1)) k = sm R fun i => (if i = n then 0 else a i) * mf C L i k
        rw [crs_at hv hk, hc, ha1 k hk]
        have e1 : (sm R fun i => a i * mf C L i k) = sm R fun i => 1 * ((if i = n then 0 else a i) * mf C L i k) + a n * ((if i = n then 1 else 0) * mf C L i k) := sm_congr fun i _ => by
          by_cases h3 : i = n
          · subst h3; simp
          · simp [h3]
        rw [e1, sm_lin, sm_pick1 (fun i => mf C L i k) (show n < R by omega)]
        omega
  intro k hk
  obtain ⟨a, ha0, ha1⟩ := key P (Nat.le_refl _)
  rw [ha1 k hk]
  refine sm_zero fun i hi => ?_
  rcases Nat.lt_or_ge i P with h3 | h3
  · rw [ha0 i h3, Int.zero_mul]
  · have h4 := h2 i h3 hi
    rw [fc_zero (f := mf C L i) (C := C) (k := k) (by omega), Int.mul_zero]
def coL (R C P : Nat) (L v : List Int) : List Int := (List.range R).map fun i => if i < P then crn C L v i else 0
theorem coL_len (R C P : Nat) (L v : List Int) : (coL R C P L v).length = R := by unfold coL; rw [List.length_map, List.length_range]
theorem coL_at {R C P n : Nat} {L v : List Int} (h : n < P) (hP : P ≤ R) : ((coL R C P L v).map nz)[n]? = some (nz (crn C L v n)) := by
  rw [List.getElem?_map]
  unfold coL
  rw [List.getElem?_map, List.getElem?_range (by omega)]
  show some (nz (if n < P then _ else _)) = _
  rw [if_pos h]
theorem coL_fill {R C P n m : Nat} {L v : List Int} (hP : P ≤ R) (hn : n = P) (hm : m = R) : (fill ((coL R C P L v).map nz) n (false, [])).take m = (coL R C P L v).map nz := by
  subst hn; subst hm
  have hl : ((coL m C n L v).map nz).length = m := by rw [List.length_map, coL_len]
  refine List.ext_getElem? fun j => ?_
  rcases Nat.lt_or_ge j m with hj | hj
  · rw [List.getElem?_take_of_lt hj]
    unfold fill
    by_cases h2 : j < n
    · rw [List.getElem?_append_left (by rw [List.length_take]; omega), List.getElem?_take_of_lt h2]
    · rw [List.getElem?_append_right (by rw [List.length_take]; omega), List.length_take, List.getElem?_replicate, if_pos (by omega), List.getElem?_map]
      unfold coL
      rw [List.getElem?_map, List.getElem?_range hj]
      show some (false, []) = some (nz (if j < n then _ else 0))
      rw [if_neg h2, nz_zero]
  · rw [List.getElem?_eq_none (by rw [List.length_take]; omega), List.getElem?_eq_none (by omega)]
/-- what is told: is something left? -/
theorem left_sp {R C P : Nat} {L v : List Int} (hF : HermF R C (mf C L)) (hv : v.length = C) (hP : P ≤ R) (h1 : ∀ i, i < P → fc C (mf C L i) < C) (h2 : ∀ i, P ≤ i → i < R → ¬ fc C (mf C L i) < C) : decide (0 ≤ fir C (cf (crs C L v P))) = !spB R C (mf C L) (cf v) := by
  by_cases hs : SpZ R C (mf C L) (cf v)
  · rw [spB_iff.2 hs, fir_all (crs_out hF hv hP h1 h2 hs)]; rfl
  · have hb : spB R C (mf C L) (cf v) = false := by
      cases e : spB R C (mf C L) (cf v) with
      | false => rfl
      | true => exact absurd (spB_iff.1 e) hs
    rw [hb]
    refine decide_eq_true ?_
    refine Classical.byContradiction fun h => hs (crs_in hv hP fun k hk => ?_)
    have := fir_no (by omega : fir C (cf (crs C L v P)) < 0)
    exact fc_zero (f := cf (crs C L v P)) (C := C) (by have := fc_le (cf (crs C L v P)) C; omega)
/-! ### rows within others -/
noncomputable def winB (R R' C : Nat) (A B : MatF) : Bool := @decide (∀ i, i < R → SpZ R' C B (A i)) (Classical.propDecidable _)
theorem winB_iff {R R' C : Nat} {A B : MatF} : winB R R' C A B = true ↔ ∀ i, i < R → SpZ R' C B (A i) := by unfold winB; exact @decide_eq_true_iff _ (Classical.propDecidable _)
theorem winB_no {R R' C : Nat} {A B : MatF} (h : ¬ ∀ i, i < R → SpZ R' C B (A i)) : winB R R' C A B = false := by
  cases e : winB R R' C A B with
  | false => rfl
  | true => exact absurd (winB_iff.1 e) h
theorem sp_row {R' C i K : Nat} {L : List Int} {xs : List (Bool × List Nat)} (hb : Bd L K) : spB R' C (mf C (hL R' C L)) (cf (rowL C (vals xs) i)) = true ↔ SpZ R' C (mf C L) (mf C (vals xs) i) := by
  rw [spB_iff]
  constructor
  · intro h; exact (h.trans (hL_eqv hb).2).congr fun k hk => (cf_rowL hk).symm
  · intro h; exact (h.trans (hL_eqv hb).1).congr fun k hk => cf_rowL hk
/-- a product's rows are within the second factor's -/
theorem mul_win {R C D : Nat} {a b : List Int} : ∀ i, i < R → SpZ C D (mf D b) (mf D (tab (R * D) D fun i k => dotS (fun j => cf a (i * C + j)) (fun j => cf b (j * D + k)) C) i) := fun i hi =>
  ⟨fun j => cf a (i * C + j), fun k hk => by
    show cf _ (i * D + k) = _
    rw [cf_tab' _ hk (place_lt hi hk), dotS_sm]; rfl⟩
/-- the form's rows that aren't noughts -/
def latL (R C : Nat) (L : List Int) : List Int := tab ((pivL C (mf C (hL R C L)) R).length * C) C fun i k => cf (hL R C L) ((0 + i) * C + k)
theorem latL_at {R C i k : Nat} {L : List Int} (hi : i < (pivL C (mf C (hL R C L)) R).length) (hk : k < C) : mf C (latL R C L) i k = mf C (hL R C L) i k := by
  show cf _ (i * C + k) = _
  unfold latL
  rw [cf_tab' _ hk (place_lt hi hk), Nat.zero_add]; rfl
theorem latL_eqv {R C K : Nat} {L : List Int} (hb : Bd L K) : Eqv R (pivL C (mf C (hL R C L)) R).length C (mf C L) (mf C (latL R C L)) := by
  obtain ⟨P, h1, h2, h3, h4⟩ := herm_piv (hL_form (R := R) (C := C) hb)
  have hP : (pivL C (mf C (hL R C L)) R).length = P := by rw [h4, List.length_map, List.length_range]
  have hat : ∀ i k, i < P → k < C → mf C (latL R C L) i k = mf C (hL R C L) i k := fun i k hi hk => latL_at (by omega) hk
  refine (hL_eqv hb).trans ⟨fun i hi => ?_, fun i hi => ?_⟩
  · rcases Nat.lt_or_ge i P with h5 | h5
    · exact (SpZ.row (mf C (latL R C L)) (by omega)).congr fun k hk => (hat i k h5 hk).symm
    · refine (SpZ.zero _).congr fun k hk => fc_zero (f := mf C (hL R C L) i) (C := C) ?_
      have := h3 i h5 hi
      omega
  · exact (SpZ.row (mf C (hL R C L)) (by omega)).congr fun k hk => hat i k (by omega) hk
/-- lattices of two matrices are told as the same, just if they are -/
theorem lat_same {R R' C K K' : Nat} {L L' : List Int} (hb : Bd L K) (hb' : Bd L' K') :
    ((pivL C (mf C (hL R C L)) R).length = (pivL C (mf C (hL R' C L')) R').length ∧ latL R C L = latL R' C L') ↔ Eqv R R' C (mf C L) (mf C L') := by
  constructor
  · rintro ⟨h1, h2⟩
    have e1 := latL_eqv (R := R) (C := C) hb
    have e2 := latL_eqv (R := R') (C := C) hb'
    rw [h1, h2] at e1
    exact e1.trans e2.symm
  · intro h
    have he : Eqv R R' C (mf C (hL R C L)) (mf C (hL R' C L')) := (hL_eqv hb).symm.trans (h.trans (hL_eqv hb'))
    have f1 := hL_form (R := R) (C := C) hb
    have f2 := hL_form (R := R') (C := C) hb'
    obtain ⟨P, h1, h2, h3, h4⟩ := herm_piv f1
    obtain ⟨P', h1', h2', h3', h4'⟩ := herm_piv f2
    have hP : (pivL C (mf C (hL R C L)) R).length = P := by rw [h4, List.length_map, List.length_range]
    have hP' : (pivL C (mf C (hL R' C L')) R').length = P' := by rw [h4', List.length_map, List.length_range]
    have hPP : P = P' := by
      rcases Nat.lt_trichotomy P P' with g | g | g
      · have := (form_fc f1 f2 he P).2 (by omega) (h2' P g)
        exact absurd (by rw [this.2]; exact h2' P g) (h3 P (Nat.le_refl _) this.1)
      · exact g
      · have := (form_fc f1 f2 he P').1 (by omega) (h2 P' g)
        exact absurd (by rw [this.2]; exact h2 P' g) (h3' P' (Nat.le_refl _) this.1)
    refine ⟨by omega, ext_cf (by unfold latL; rw [tab_len, tab_len, hP, hP', hPP]) fun j hj => ?_⟩
    have hj2 : j < P * C := by unfold latL at hj; rwa [tab_len, hP] at hj
    obtain ⟨i, k, hi, hk, rfl⟩ := place_of hj2
    have e1 : mf C (latL R C L) i k = _ := latL_at (by omega) hk
    have e2 : mf C (latL R' C L') i k = _ := latL_at (by omega) hk
    have e3 := form_row f1 f2 he (show i < R by omega) (h2 i hi) k hk
    show mf C (latL R C L) i k = mf C (latL R' C L') i k
    rw [e1, e2, e3]
def stkL (R R' C : Nat) (L L' : List Int) : List Int := tab ((R + R') * C) C fun i k => if i < R then cf L (i * C + k) else cf L' ((i - R) * C + k)
/-- stacked rows make no other lattice, just if those on top are within -/
theorem stk_win {R R' C : Nat} {L L' : List Int} : Eqv (R + R') R' C (mf C (stkL R R' C L L')) (mf C L') ↔ ∀ i, i < R → SpZ R' C (mf C L') (mf C L i) := by
  have hat : ∀ i k, i < R + R' → k < C → mf C (stkL R R' C L L') i k = if i < R then mf C L i k else mf C L' (i - R) k := fun i k hi hk => by
    show cf _ (i * C + k) = _
    unfold stkL
    rw [cf_tab' _ hk (place_lt hi hk)]; rfl
  constructor
  · intro h i hi
    exact (h.1 i (by omega)).congr fun k hk => by rw [hat i k (by omega) hk, if_pos hi]
  · intro h
    refine ⟨fun i hi => ?_, fun i hi => ?_⟩
    · by_cases h1 : i < R
      · exact (h i h1).congr fun k hk => by rw [hat i k hi hk, if_pos h1]
      · exact (SpZ.row (mf C L') (show i - R < R' by omega)).congr fun k hk => by rw [hat i k hi hk, if_neg h1]
    · refine (SpZ.row (mf C (stkL R R' C L L')) (show R + i < R + R' by omega)).congr fun k hk => ?_
      rw [hat (R + i) k (by omega) hk, if_neg (by omega), Nat.add_sub_cancel_left]
end Go.Hp
namespace Go.Hp
open Go.Dt Go.Hn Go.Pz Go.Nt Go.Mz Go.En
theorem latL_bd {R C K : Nat} {L : List Int} (hb : Bd L K) : Bd (latL R C L) ((K + 4) * (R + 2) ^ C) := by
  unfold latL
  exact Bd_tab fun i k => hL_bd hb _
theorem within_same {R R' C K K' : Nat} {L L' T : List Int} (hT : Bd T K) (hb' : Bd L' K') (e : T = stkL R R' C L L') :
    (decide ((pivL C (mf C (hL (R + R') C T)) (R + R')).length = (pivL C (mf C (hL R' C L')) R').length) && decide (latL (R + R') C T = latL R' C L')) = winB R R' C (mf C L) (mf C L') := by
  have h1 := lat_same (R := R + R') (R' := R') (C := C) hT hb'
  have h2 : Eqv (R + R') R' C (mf C T) (mf C L') ↔ ∀ i, i < R → SpZ R' C (mf C L') (mf C L i) := by rw [e]; exact stk_win (R := R) (R' := R') (C := C) (L := L) (L' := L')
  by_cases h : ∀ i, i < R → SpZ R' C (mf C L') (mf C L i)
  · rw [winB_iff.2 h]
    obtain ⟨g1, g2⟩ := h1.2 (h2.2 h)
    rw [decide_eq_true g1, decide_eq_true g2]; rfl
  · rw [winB_no h]
    cases hd : (decide ((pivL C (mf C (hL (R + R') C T)) (R + R')).length = (pivL C (mf C (hL R' C L')) R').length) && decide (latL (R + R') C T = latL R' C L')) with
    | false => rfl
    | true =>
      rw [Bool.and_eq_true, decide_eq_true_eq, decide_eq_true_eq] at hd
      exact absurd (h2.1 (h1.1 hd)) h
end Go.Hp
/- Contracts: the multiples that make a row. -/
namespace Go.Proofs.Ytiieaohnpnojmaa
open Go.En Go.RowKit
set_option linter.unusedVariables false
set_option maxRecDepth 10000
open Go.Nt
open Go.Pz
open Go.Mz
open Go.Hn
open Go.Hp
open Go.Dt
set_option maxHeartbeats 4000000 in
theorem clone_Zs {xs : List (Bool × List Nat)} (hx : xs.length ≤ 4294967296) : Ctr Try.prog 129 [SlK 2 zc xs] (SlK 2 zc xs) := by
  refine Ctr.intro Try.func129 rfl (by kernel_rfl) Try.ntmps129 rfl fun w0 F0 => ?_
  refine Tri.cv (Cv.wk (.cons (t := 0) (Has.t rfl) .nil)) ?_
  refine Tri.fact (Has.lenLt (Has.t (t := 0) rfl)) fun lt0 => ?_
  refine Tri.seq fun K1 hK1 => ?_
  refine Tri.region ?_
  refine st (OK1.as (Has.cWK (k := 2) (fk := zc))) rfl ?_
  refine nl ?_
  refine At.thn (hK1 _ _ ?_); clear hK1
  refine Tri.seq fun K2 hK2 => ?_
  refine Tri.seq fun K3 hK3 => ?_
  refine Tri.region ?_
  refine st (OK1.mv (Has.t rfl)) rfl ?_
  refine Ops.eqNilK sl61 (Has.t rfl) rfl fun bn1 hn1 => ?_
  refine nl ?_
  refine At.thn (hK3 _ _ ?_); clear hK3
  refine Tri.cond (Has.t rfl) (fun hc2 => ?_) (fun hc2 => ?_)
  · have hc2 := BP.t hc2
    refine Tri.seq fun K4 hK4 => ?_
    refine Tri.region ?_
    refine st (OK1.as (Has.cWK (k := 2) (fk := zc))) rfl ?_
    refine nl ?_
    refine At.thn (hK4 _ _ ?_); clear hK4
    refine Tri.ret ?_
    refine At.thr ?_
    refine rt1 (.inl rfl) Try.results129 rfl (.tmp (Has.t' rfl ?_) .nil)
    all_goals (rw [hn1 hc2])
  · have hc2 := BP.f hc2
    refine Tri.skip ?_
    refine At.thn (hK2 _ _ ?_); clear hK2
    refine Tri.seq fun K5 hK5 => ?_
    refine Tri.region ?_
    refine Ops.buildS0 sl61 ty72 rfl ?_
    refine st (OK1.mv (Has.t rfl)) rfl ?_
    refine st (OK1.appendZK sl61 ty72 zero72 by72 (Has.t rfl) (Has.t rfl) (by first | omega | assumption)) rfl ?_
    refine st (OK1.as (Has.t rfl)) rfl ?_
    refine nl ?_
    refine At.thn (hK5 _ _ ?_); clear hK5
    refine Tri.cv (Cv.wk (.cons (t := 2) (Has.t rfl) .nil)) ?_
    refine Tri.ret ?_
    refine rt1 (.inl rfl) Try.results129 rfl (.tmp (Has.t' rfl ?_) .nil)
    all_goals (rfl)
set_option maxHeartbeats 4000000 in
theorem sl_ContainsFuncZ {xs : List (Bool × List Nat)} {K : Nat} (hx : Bd (vals xs) K) : Ctr Try.prog 133 [SlK 2 zc xs, isFun (ι := { p : Bool × List Nat // (List.length (words (val p.2))) ≤ K }) Try.prog (fun p => [Flat (zc p.1)]) (fun p => isB (decide (zv p.1.1 p.1.2 ≠ 0)))] (isB (decide (0 ≤ fir xs.length (cf (vals xs))))) := by
  refine Ctr.intro Try.func133 rfl (by kernel_rfl) Try.ntmps133 rfl fun w0 F0 => ?_
  refine Tri.cv (Cv.wk (.cons (t := 0) (Has.t rfl) (.cons (t := 1) (Has.t rfl) .nil))) ?_
  refine Tri.fact (Has.lenLt (Has.t (t := 0) rfl)) fun lt0 => ?_
  refine Tri.seq fun K1 hK1 => ?_
  refine Tri.region ?_
  refine st (OK1.as (Has.cB false)) rfl ?_
  refine nl ?_
  refine At.thn (hK1 _ _ ?_); clear hK1
  refine Tri.seq fun K2 hK2 => ?_
  refine Tri.region ?_
  refine st (OK1.mv (Has.t rfl)) rfl ?_
  refine st (OK1.mv (Has.t rfl)) rfl ?_
  refine st (OK1.call (sl_IndexFuncZ hx) (.cons (Has.t rfl) (.cons (Has.t rfl) .nil))) rfl ?_
  refine st (OK1.geI (Has.t rfl) (Has.cI 0 rfl)) rfl ?_
  refine st (OK1.as (Has.t rfl)) rfl ?_
  refine nl ?_
  refine At.thn (hK2 _ _ ?_); clear hK2
  refine Tri.cv (Cv.wk (.cons (t := 4) (Has.t rfl) .nil)) ?_
  refine Tri.ret ?_
  refine rt1 (.inl rfl) Try.results133 rfl (.tmp (Has.t' rfl ?_) .nil)
  all_goals (rfl)
set_option maxHeartbeats 4000000 in
theorem hnf_Coordinates_1 {m : Bool} {xs : List Nat} (hx : (List.length (words (val xs))) < 4294700000) : Ctr Try.prog 134 [Flat [isB m, isWords xs]] (isB (decide (zv m xs ≠ 0))) := by
  refine Ctr.intro Try.func134 rfl (by kernel_rfl) Try.ntmps134 rfl fun w0 F0 => ?_
  refine Tri.cv (Cv.wk (.cons (t := 0) (Has.t rfl) .nil)) ?_
  refine Tri.fact (Has.okZ (Has.t (t := 0) rfl)) fun okz0 => ?_
  refine Tri.seq fun K1 hK1 => ?_
  refine Tri.region ?_
  refine Ops.box (Has.t rfl) rfl fun b1 => ?_
  refine st (OK1.as (Has.cB false)) rfl ?_
  refine nl ?_
  refine At.thn (hK1 _ _ ?_); clear hK1
  refine Tri.seq fun K2 hK2 => ?_
  refine Tri.region ?_
  refine st (OK1.load (Has.t rfl) (i := 0) rfl ty72 rfl (Ss' := [_, _]) rfl) rfl ?_
  refine st (OK1.call (zint_Sign (by omega)) (.cons (Has.t rfl) .nil)) rfl ?_
  refine st (OK1.neI (Has.t rfl) (Has.cI 0 rfl)) rfl ?_
  refine st (OK1.as (Has.t rfl)) rfl ?_
  refine nl ?_
  refine At.thn (hK2 _ _ ?_); clear hK2
  refine Tri.cv (Cv.wk (.cons (t := 2) (Has.t rfl) .nil)) ?_
  refine Tri.ret ?_
  refine rt1 (.inl rfl) Try.results134 rfl (.tmp (Has.t' rfl ?_) .nil)
  all_goals (exact isB_eq (by simp [sgn_eq0]))
set_option maxHeartbeats 4000000 in
theorem hnf_Coordinates {R C K Kv : Nat} {xs vs : List (Bool × List Nat)} (hx : Bd (vals xs) K) (hR : R ≤ 64) (hC : C ≤ 64) (hl : xs.length = R * C) (hv : Bd (vals vs) Kv) (hvl : vs.length = C) (hK : Kv + 64 * (K + 2) ≤ 100000000) (hF : HermF R C (mf C (vals xs))) : Ctr Try.prog 63 [isM (R : Int) (C : Int) xs, SlK 2 zc vs] (isTup [isP (if spB R C (mf C (vals xs)) (cf (vals vs)) = true then coL R C (pivL C (mf C (vals xs)) R).length (vals xs) (vals vs) else []), isI (if spB R C (mf C (vals xs)) (cf (vals vs)) = true then 0 else 10)]) := by
  refine Ctr.intro Try.func63 rfl (by kernel_rfl) Try.ntmps63 rfl fun w0 F0 => ?_
  refine Tri.cv (Cv.wk (.cons (t := 0) (Has.t rfl) (.cons (t := 1) (Has.t rfl) .nil))) ?_
  refine Tri.fact (Has.lenLt (Has.t (t := 1) rfl)) fun lt1 => ?_
  have hRC := side_le hR hC
  have hfo := formB_true hR hC hl
  obtain ⟨P, hP, hp1, hp2, hpl⟩ := herm_piv hF
  have hPl : (pivL C (mf C (vals xs)) R).length = P := by rw [hpl, List.length_map, List.length_range]
  rw [hPl]
  have hpv := pv_len ((List.range P).map fun i => fc C ((mf C (vals xs)) i))
  rw [List.length_map, List.length_range] at hpv
  have hvv : (vals vs).length = C := by rw [vals_len]; exact hvl
  have hpos : ∀ i, i < P → 0 < (mf C (vals xs)) i (fc C ((mf C (vals xs)) i)) := fun i hi => (hF i (by omega) (hp1 i hi)).2.1
  refine Tri.seq fun K1 hK1 => ?_
  refine Tri.region ?_
  refine Ops.box (Has.t rfl) rfl fun b1 => ?_
  refine st (OK1.as (Has.cWK (k := 2) (fk := zc))) rfl ?_
  refine st (OK1.as (Has.cI 0 rfl)) rfl ?_
  refine nl ?_
  refine At.thn (hK1 _ _ ?_); clear hK1
  refine Tri.seq fun K2 hK2 => ?_
  refine Tri.block ?_
  refine Tri.seq fun K3 hK3 => ?_
  refine Tri.region ?_
  refine st (OK1.load (Has.t rfl) (i := 0) rfl ty63 rfl (Ss' := [_, _, _]) rfl) rfl ?_
  refine st (OK1.eq (OK1.call (zmat_Formed) (.cons (Has.t rfl) .nil)) ((show isB _ = isB true from isB_eq (hfo)))) rfl ?_
  refine st (OK1.not (Has.t rfl)) rfl ?_
  refine st (OK1.mv (Has.t rfl)) rfl ?_
  refine stF rfl rfl (fun hg => have hg' := BP.t hg; OK1.mv (Has.t rfl)) rfl ?_
  refine stF rfl rfl (fun hg => have hg' := BP.t hg; OK1.len sl61 (Has.g rfl hg)) rfl ?_
  refine stF rfl rfl (fun hg => have hg' := BP.t hg; OK1.fieldAddr (Has.t rfl) fld63_1 ty3) rfl ?_
  refine stF rfl rfl (fun hg => have hg' := BP.t hg; OK1.load1 (Has.g rfl hg) (i := 0) rfl ty3 rfl) rfl ?_
  refine stF rfl rfl (fun hg => have hg' := BP.t hg; OK1.neI (Has.g rfl hg) (Has.g rfl hg)) rfl ?_
  refine st (OK1.pickOr (Has.t rfl) (fun h => Has.g rfl (ng h))) rfl ?_
  refine st (OK1.as (Has.t rfl)) rfl ?_
  refine nl ?_
  refine At.thn (hK3 _ _ ?_); clear hK3
  refine Tri.cv (Cv.wk (.cons (t := 1) (Has.t rfl) (.cons (t := 2) (Has.t rfl) (.cons (t := 4) (Has.t rfl) (.cons (t := 5) (Has.t rfl) (.cons (t := 14) (Has.t rfl) .nil)))))) ?_
  refine Tri.cond (Has.t rfl) (fun hc1 => ?_) (fun hc1 => ?_)
  · have hc1 := BP.t hc1
    exfalso; omega
  · have hc1 := BP.f hc1
    refine Tri.seq fun K4 hK4 => ?_
    refine Tri.region ?_
    refine st (OK1.load (Has.t rfl) (i := 0) rfl ty63 rfl (Ss' := [_, _, _]) rfl) rfl ?_
    refine st (OK1.eq (OK1.call (hnf_Is (K := K) hx (by omega) hR hC hl) (.cons (Has.t rfl) .nil)) ((show isB _ = isB true from isB_eq (hermB_iff.2 hF)))) rfl ?_
    refine st (OK1.not (Has.t rfl)) rfl ?_
    refine st (OK1.as (Has.t rfl)) rfl ?_
    refine nl ?_
    refine At.thn (hK4 _ _ ?_); clear hK4
    refine Tri.cond (Has.t rfl) (fun hc2 => ?_) (fun hc2 => ?_)
    · have hc2 := BP.t hc2
      exfalso; simp at hc2
    · have hc2 := BP.f hc2
      refine Tri.skip ?_
      refine At.bln ?_
      refine At.thn (hK2 _ _ ?_); clear hK2
      refine Tri.cv (Cv.wk (.cons (t := 1) (Has.t rfl) (.cons (t := 2) (Has.t rfl) (.cons (t := 4) (Has.t rfl) (.cons (t := 5) (Has.t rfl) .nil))))) ?_
      refine Tri.seq fun K5 hK5 => ?_
      refine Tri.region ?_
      refine st (OK1.mv (Has.t rfl)) rfl ?_
      refine st (OK1.call (clone_Zs (by omega)) (.cons (Has.t rfl) .nil)) rfl ?_
      refine st (OK1.as (Has.t rfl)) rfl ?_
      refine nl ?_
      refine At.thn (hK5 _ _ ?_); clear hK5
      refine Tri.seq fun K6 hK6 => ?_
      refine Tri.region ?_
      refine st (OK1.fieldAddr (Has.t rfl) fld63_0 ty3) rfl ?_
      refine st (OK1.load1 (Has.t rfl) (i := 0) rfl ty3 rfl) rfl ?_
      refine Ops.makeK (fk := zc) (u := (false, [])) (n := R) (c := R) sl61 ty72 zero72 (fun _ _ => ⟨rfl, nilM _ _, trivial⟩) zc_len by72 (Has.t' rfl rfl) (Has.t' rfl rfl) ⟨by omega, by omega⟩ rfl fun b2 => ?_
      refine st (OK1.as (Has.t rfl)) rfl ?_
      refine nl ?_
      refine At.thn (hK6 _ _ ?_); clear hK6
      refine Tri.cv (Cv.wk (.cons (t := 2) (Has.t rfl) (.cons (t := 4) (Has.t rfl) (.cons (t := 5) (Has.t rfl) (.cons (t := 6) (Has.t rfl) (.cons (t := 7) (Has.t rfl) .nil)))))) ?_
      refine Tri.seq fun K7 hK7 => ?_
      refine Tri.seq fun K8 hK8 => ?_
      refine Tri.region ?_
      refine st (OK1.load (Has.t rfl) (i := 1) rfl ty63 rfl (Ss' := [_, _, _]) rfl) rfl ?_
      refine st (OK1.eq (OK1.call (hnf_Pivots (K := K) hx (by omega) hR hC hl) (.cons (Has.t rfl) .nil)) ((show _ = SlM isI (pv ((List.range P).map fun i => fc C ((mf C (vals xs)) i))) from by rw [hpl]))) rfl ?_
      refine st (OK1.eq (OK1.len sl32 (Has.t rfl)) ((show isI _ = isI (P : Int) from isI_eq (by rw [hpv])))) rfl ?_
      refine st (OK1.mv (Has.cI 0 rfl)) rfl ?_
      refine nl ?_
      refine At.thn (hK8 _ _ ?_); clear hK8
      refine Tri.block ?_
      refine Tri.loopF [2, 4, 5, 7, 35, 36] (fun (z : { z : Nat × List (Bool × List Nat) // z.1 ≤ P ∧ vals z.2 = crs C (vals xs) (vals vs) z.1 }) => match z with | ⟨(n, ys), hI⟩ => [(37, isI (n : Int)), (6, SlK 2 zc ys)]) (fun M => fun (z : { z : Nat × List (Bool × List Nat) // z.1 ≤ P ∧ vals z.2 = crs C (vals xs) (vals vs) z.1 }) => match z with | ⟨(n, ys), hI⟩ => [(some b2, cellM ((fill ((coL R C P (vals xs) (vals vs)).map nz) n (false, [])).flatMap zc)), (some b1, cellM [isI (R : Int), isI (C : Int), SlK 2 zc xs])]) (fun (z : { z : Nat × List (Bool × List Nat) // z.1 ≤ P ∧ vals z.2 = crs C (vals xs) (vals vs) z.1 }) => match z with | ⟨(n, ys), hI⟩ => P - n) (⟨(0, vs), Nat.zero_le _, rfl⟩) (Cv.mem (.cons (t := 37) (Has.t' rfl ?_) (.cons (t := 6) (Has.t' rfl ?_) (.cons (t := 2) (Has.t rfl) (.cons (t := 4) (Has.t rfl) (.cons (t := 5) (Has.t rfl) (.cons (t := 7) (Has.t rfl) (.cons (t := 35) (Has.t rfl) (.cons (t := 36) (Has.t rfl) .nil)))))))) ?_) ?_
      · rfl
      · rfl
      · exact memZ_eq (by rw [fill_zero, List.length_map, coL_len])
      rintro ⟨⟨n, ys⟩, hI⟩ K9 hK9
      refine Tri.cv (Cv.wk (.cons (t := 37) (Has.t rfl) (.cons (t := 6) (Has.t rfl) (.cons (t := 2) (Has.t rfl) (.cons (t := 4) (Has.t rfl) (.cons (t := 5) (Has.t rfl) (.cons (t := 7) (Has.t rfl) (.cons (t := 35) (Has.t rfl) (.cons (t := 36) (Has.t rfl) .nil))))))))) ?_
      refine Tri.memEq (M' := [(some b2, cellM ((fill ((coL R C P (vals xs) (vals vs)).map nz) n (false, [])).flatMap zc)), (some b1, cellM [isI (R : Int), isI (C : Int), SlK 2 zc xs])]) rfl ?_
      simp only [] at hI
      obtain ⟨hn, hyv⟩ := hI
      have hyl : ys.length = C := by rw [← vals_len, hyv]; exact crs_len hvv n
      have hnK : n * (K + 2) ≤ 64 * (K + 2) := Nat.mul_le_mul_right _ (by omega)
      have hyb : Bd (vals ys) (Kv + n * (K + 2)) := by rw [hyv]; exact crs_bd hx hv n fun i hi => hpos i (by omega)
      refine Tri.seq fun K10 hK10 => ?_
      refine Tri.region ?_
      refine st (OK1.ltI (Has.t rfl) (Has.t rfl)) rfl ?_
      refine nl ?_
      refine At.thn (hK10 _ _ ?_); clear hK10
      refine Tri.seq fun K11 hK11 => ?_
      refine Tri.cond (Has.t rfl) (fun hc3 => ?_) (fun hc3 => ?_)
      · have hc3 := BP.t hc3
        have hnP : n < P := (by omega)
        have hfn := hp1 n hnP
        have hpl1 : (n + 1) * C ≤ R * C := Nat.mul_le_mul_right _ (show n + 1 ≤ R by omega)
        have hpl2 : (n + 1) * C = n * C + C := Nat.succ_mul _ _
        have hc1 : ((n : Int) * (C : Int)) = ((n * C : Nat) : Int) := (Int.natCast_mul n C).symm
        have hc2 : (((n : Int) + 1) * (C : Int)) = (((n + 1) * C : Nat) : Int) := by rw [Int.natCast_mul]; rfl
        obtain ⟨rw', hrw'⟩ : ∃ r, r = (xs.take ((n + 1) * C)).drop (n * C) := ⟨_, rfl⟩
        have hrv : vals rw' = Go.Hp.rowL C (vals xs) n := by rw [hrw']; exact rowL_of (by omega)
        have hrl : rw'.length = C := by rw [← vals_len, hrv, Go.Hp.rowL_len]
        have hrc : ∀ k, k < C → cf (vals rw') k = (mf C (vals xs)) n k := fun k hk => by rw [hrv]; exact cf_rowL hk
        have hrb : Bd (vals rw') K := fun k => by
          rcases Nat.lt_or_ge k C with h | h
          · rw [hrc k h]; exact hx _
          · rw [cf_high (by rw [vals_len]; omega), Int.natAbs_zero, words_zero]; exact Nat.zero_le _
        have hpn : (pv ((List.range P).map fun i => fc C ((mf C (vals xs)) i)))[n]? = some (((fc C ((mf C (vals xs)) n)) : Nat) : Int) := by unfold pv; rw [List.getElem?_map, List.getElem?_map, List.getElem?_range hnP]; rfl
        have hcn : (List.length (words (crn C (vals xs) (vals vs) n).natAbs)) ≤ Kv + n * (K + 2) := by unfold crn; rw [← hyv]; exact div_nw (hpos n hnP) (hyb _)
        refine Tri.skip ?_
        refine At.thn (hK11 _ _ ?_); clear hK11
        refine Tri.seq fun K12 hK12 => ?_
        refine Tri.block ?_
        refine Tri.seq fun K13 hK13 => ?_
        refine Tri.region ?_
        refine st (OK1.mv (Has.t rfl)) rfl ?_
        refine st (OK1.ixP sl32 ty3 (Has.t rfl) (Has.t rfl) ⟨by omega, by omega⟩ hpn) rfl ?_
        refine st (OK1.loadP1 (Has.t rfl) ty3) rfl ?_
        refine st (OK1.as (Has.t rfl)) rfl ?_
        refine st (OK1.as (Has.t rfl)) rfl ?_
        refine nl ?_
        refine At.thn (hK13 _ _ ?_); clear hK13
        refine Tri.seq fun K14 hK14 => ?_
        refine Tri.region ?_
        refine st (OK1.fieldAddr (Has.t rfl) fld63_2 ty61) rfl ?_
        refine st (OK1.load1 (Has.t rfl) (i := 1) rfl ty61 rfl) rfl ?_
        refine st (OK1.mv (Has.t rfl)) rfl ?_
        refine st (OK1.fieldAddr (Has.t rfl) fld63_1 ty3) rfl ?_
        refine st (OK1.load1 (Has.t rfl) (i := 1) rfl ty3 rfl) rfl ?_
        refine st (OK1.eq (OK1.mulI (Has.t rfl) (Has.t rfl) (by first | omega | (rw [hc1]; omega) | (rw [hc2]; omega)) (by first | omega | (rw [hc1]; omega) | (rw [hc2]; omega))) ((show isI _ = isI ((n * C : Nat) : Int) from isI_eq hc1))) rfl ?_
        refine st (OK1.mv (Has.t rfl)) rfl ?_
        refine st (OK1.addI (Has.t rfl) (Has.cI 1 rfl) (by first | omega | (rw [hc1]; omega) | (rw [hc2]; omega)) (by first | omega | (rw [hc1]; omega) | (rw [hc2]; omega))) rfl ?_
        refine st (OK1.fieldAddr (Has.t rfl) fld63_1 ty3) rfl ?_
        refine st (OK1.load1 (Has.t rfl) (i := 1) rfl ty3 rfl) rfl ?_
        refine st (OK1.eq (OK1.mulI (Has.t rfl) (Has.t rfl) (by first | omega | (rw [hc1]; omega) | (rw [hc2]; omega)) (by first | omega | (rw [hc1]; omega) | (rw [hc2]; omega))) ((show isI _ = isI (((n + 1) * C : Nat) : Int) from isI_eq hc2))) rfl ?_
        refine st (OK1.eq (OK1.slLHK sl61 ty72 zc_len (Has.t rfl) (Has.t rfl) (Has.t rfl) ⟨by omega, by omega, by omega⟩) ((show _ = SlK 2 zc rw' from SlK_eq (by rw [hrw']; rfl)))) rfl ?_
        refine st (OK1.as (Has.t rfl)) rfl ?_
        refine nl ?_
        refine At.thn (hK14 _ _ ?_); clear hK14
        refine Tri.seq fun K15 hK15 => ?_
        refine Tri.drh [true, true] (Ms := [_, _]) rfl ?_
        refine DrH.st (i := 0) [] rfl rfl rfl (by kernel_rfl) (OKG.o rfl (OK1.mv (Has.t rfl))) ?_
        refine DrH.st (i := 1) [] rfl rfl rfl (by kernel_rfl) (OKG.o rfl (OK1.mv (Has.t rfl))) ?_
        refine DrH.st (i := 2) [55, 56] rfl rfl rfl (by kernel_rfl) (OKG.o rfl (OK1.ixK sl61 ty72 (Has.t rfl) (Has.t rfl) zc_len ⟨by omega, by omega⟩ (getD_some (d := (false, [])) (by first | omega | (simp only [Int.toNat_natCast, List.length_set]; omega))))) ?_
        refine DrH.st (i := 3) [57] rfl rfl rfl (by kernel_rfl) (OKG.o rfl (OK1.loadP (Has.t rfl) ty72 rfl (Ss' := [_, _]) rfl)) ?_
        refine DrH.st (i := 4) [] rfl rfl rfl (by kernel_rfl) (OKG.o rfl (OK1.mv (Has.t rfl))) ?_
        refine DrH.st (i := 5) [] rfl rfl rfl (by kernel_rfl) (OKG.o rfl (OK1.mv (Has.t rfl))) ?_
        refine DrH.st (i := 6) [59, 60] rfl rfl rfl (by kernel_rfl) (OKG.o rfl (OK1.ixK sl61 ty72 (Has.t rfl) (Has.t rfl) zc_len ⟨by omega, by omega⟩ (getD_some (d := (false, [])) (by first | omega | (simp only [Int.toNat_natCast, List.length_set]; omega))))) ?_
        refine DrH.st (i := 7) [61] rfl rfl rfl (by kernel_rfl) (OKG.o rfl (OK1.loadP (Has.t rfl) ty72 rfl (Ss' := [_, _]) rfl)) ?_
        refine DrH.st (i := 8) [58, 62] rfl rfl rfl (by kernel_rfl) (OKG.o rfl (OK1.eq (OK1.call (zint_Floor (by show (List.length (words (val (ys.getD (fc C ((mf C (vals xs)) n)) (false, [])).2))) < _; have := hyb.raw (fc C ((mf C (vals xs)) n)); omega) (by show (List.length (words (val (rw'.getD (fc C ((mf C (vals xs)) n)) (false, [])).2))) < _; have := hrb.raw (fc C ((mf C (vals xs)) n)); omega) (by show 0 < zv (rw'.getD (fc C ((mf C (vals xs)) n)) (false, [])).1 (rw'.getD (fc C ((mf C (vals xs)) n)) (false, [])).2; rw [← cf_vals, hrc _ hfn]; exact hpos n hnP)) (.cons (Has.t rfl) (.cons (Has.t rfl) .nil))) ((show _ = isTup [isZ (crn C (vals xs) (vals vs) n), isZ (cf (crs C (vals xs) (vals vs) n) (fc C ((mf C (vals xs)) n)) % (mf C (vals xs)) n (fc C ((mf C (vals xs)) n))), isB true] from by rw [show (mf C (vals xs)) n (fc C ((mf C (vals xs)) n)) = cf (vals rw') (fc C ((mf C (vals xs)) n)) from (hrc _ hfn).symm, show (crn C (vals xs) (vals vs) n) = cf (vals ys) (fc C ((mf C (vals xs)) n)) / cf (vals rw') (fc C ((mf C (vals xs)) n)) from by unfold crn; rw [hyv, hrc _ hfn], ← hyv, cf_vals, cf_vals]; rfl)))) ?_
        refine DrH.st (i := 9) [63] rfl rfl rfl (by kernel_rfl) (OKG.o rfl (OK1.mv (Has.t rfl))) ?_
        refine DrH.st (i := 10) [54] rfl rfl rfl (by kernel_rfl) (OKG.o rfl (OK1.ext (Has.t rfl) rfl)) ?_
        refine DrH.st (i := 11) [54] rfl rfl rfl (by kernel_rfl) (OKG.o rfl (OK1.ext (Has.t rfl) rfl)) ?_
        refine DrH.st (i := 12) [54] rfl rfl rfl (by kernel_rfl) (OKG.o rfl (OK1.ext (Has.t rfl) rfl)) ?_
        refine DrH.als (n1 := 15) (ds := [11, 12]) (zs := [[isB false, SlM isU []], [isB false, SlM isU []]]) rfl (.cons rfl rfl zero72 (fun _ _ => ⟨rfl, nilM _ _, trivial⟩) (.cons rfl rfl zero72 (fun _ _ => ⟨rfl, nilM _ _, trivial⟩) .nil)) (.cons_cons _ (.cons_cons _ .slnil)) (Cs := [_, _]) rfl ?_
        refine DrN.new [64] 0 (Ss' := [_, _]) (Cs' := [cellM [_, _], _]) rfl (by kernel_rfl) (by kernel_rfl) rfl rfl rfl (by kernel_rfl) rfl (Has.t rfl) ty72 rfl rfl rfl rfl ?_
        refine DrN.new [65] 1 (Ss' := [_, _]) (Cs' := [_, cellM [_, _]]) rfl (by kernel_rfl) (by kernel_rfl) rfl rfl rfl (by kernel_rfl) rfl (Has.t rfl) ty72 rfl rfl rfl rfl ?_
        refine DrN.fin (n := 17) mixed rfl (by kernel_rfl) (by kernel_rfl) (by kernel_rfl) (fun bs hbs => ?_)
        obtain ⟨b3, b4, rfl⟩ := len2 hbs
        refine Ops.memEq (M' := [_, _, _, _]) rfl ?_
        refine Ops.cv (Cv.wk (.cons (t := 2) (Has.t rfl) (.cons (t := 4) (Has.t rfl) (.cons (t := 5) (Has.t rfl) (.cons (t := 7) (Has.t rfl) (.cons (t := 35) (Has.t rfl) (.cons (t := 36) (Has.t rfl) (.cons (t := 37) (Has.t rfl) (.cons (t := 6) (Has.t rfl) (.cons (t := 38) (Has.t rfl) (.cons (t := 39) (Has.t rfl) (.cons (t := 40) (Has.t rfl) (.cons (t := 41) (Has.t rfl) (.cons (t := 8) (Has.t rfl) (.cons (t := 9) (Has.t rfl) (.cons (t := 42) (Has.t rfl) (.cons (t := 43) (Has.t rfl) (.cons (t := 44) (Has.t rfl) (.cons (t := 45) (Has.t rfl) (.cons (t := 46) (Has.t rfl) (.cons (t := 47) (Has.t rfl) (.cons (t := 48) (Has.t rfl) (.cons (t := 49) (Has.t rfl) (.cons (t := 50) (Has.t rfl) (.cons (t := 51) (Has.t rfl) (.cons (t := 52) (Has.t rfl) (.cons (t := 53) (Has.t rfl) (.cons (t := 10) (Has.t rfl) (.cons (t := 55) (Has.t rfl) (.cons (t := 56) (Has.t rfl) (.cons (t := 57) (Has.t rfl) (.cons (t := 58) (Has.t rfl) (.cons (t := 59) (Has.t rfl) (.cons (t := 60) (Has.t rfl) (.cons (t := 61) (Has.t rfl) (.cons (t := 62) (Has.t rfl) (.cons (t := 63) (Has.t rfl) (.cons (t := 54) (Has.t rfl) (.cons (t := 64) (Has.t rfl) (.cons (t := 65) (Has.t rfl) (.cons (t := 66) (Has.t rfl) (.cons (t := 11) (Has.op rfl) (.cons (t := 12) (Has.op rfl) .nil))))))))))))))))))))))))))))))))))))))))))) ?_
        refine st (OK1.as (Has.t rfl)) rfl ?_
        refine nl ?_
        refine At.thn (hK15 _ _ ?_); clear hK15
        refine Tri.dry mixed ?_
        refine DrB.take (i := 0) rfl rfl rfl rfl (by kernel_rfl) (by kernel_rfl) (by kernel_rfl) (by kernel_rfl) (fun _ _ _ _ h => h) (OKY.mv (Has.t rfl)) ?_
        refine DrB.take (i := 1) rfl rfl rfl rfl (by kernel_rfl) (by kernel_rfl) (by kernel_rfl) (by kernel_rfl) (fun _ _ _ _ h => h) (OKY.mv (Has.t rfl)) ?_
        refine DrB.take (i := 3) rfl rfl rfl rfl (by kernel_rfl) (by kernel_rfl) (by kernel_rfl) (by kernel_rfl) (fun _ _ _ _ h => h) (OKY.mv (Has.t rfl)) ?_
        refine DrB.take (i := 6) rfl rfl rfl rfl (by kernel_rfl) (by kernel_rfl) (by kernel_rfl) (by kernel_rfl) (fun _ _ _ _ h => h) (OKY.mv (Has.t rfl)) ?_
        refine DrB.cv (Cv.wk (.cons (t := 2) (Has.t rfl) (.cons (t := 4) (Has.t rfl) (.cons (t := 5) (Has.t rfl) (.cons (t := 7) (Has.t rfl) (.cons (t := 35) (Has.t rfl) (.cons (t := 36) (Has.t rfl) (.cons (t := 37) (Has.t rfl) (.cons (t := 38) (Has.t rfl) (.cons (t := 39) (Has.t rfl) (.cons (t := 40) (Has.t rfl) (.cons (t := 41) (Has.t rfl) (.cons (t := 8) (Has.t rfl) (.cons (t := 9) (Has.t rfl) (.cons (t := 42) (Has.t rfl) (.cons (t := 43) (Has.t rfl) (.cons (t := 44) (Has.t rfl) (.cons (t := 45) (Has.t rfl) (.cons (t := 46) (Has.t rfl) (.cons (t := 47) (Has.t rfl) (.cons (t := 48) (Has.t rfl) (.cons (t := 49) (Has.t rfl) (.cons (t := 50) (Has.t rfl) (.cons (t := 51) (Has.t rfl) (.cons (t := 52) (Has.t rfl) (.cons (t := 53) (Has.t rfl) (.cons (t := 10) (Has.t rfl) (.cons (t := 55) (Has.t rfl) (.cons (t := 56) (Has.t rfl) (.cons (t := 57) (Has.t rfl) (.cons (t := 58) (Has.t rfl) (.cons (t := 59) (Has.t rfl) (.cons (t := 60) (Has.t rfl) (.cons (t := 61) (Has.t rfl) (.cons (t := 62) (Has.t rfl) (.cons (t := 63) (Has.t rfl) (.cons (t := 54) (Has.t rfl) (.cons (t := 64) (Has.t rfl) (.cons (t := 65) (Has.t rfl) (.cons (t := 66) (Has.t rfl) (.cons (t := 11) (Has.t rfl) (.cons (t := 12) (Has.t rfl) (.cons (t := 13) (Has.t rfl) (.cons (t := 67) (Has.t rfl) (.cons (t := 68) (Has.t rfl) (.cons (t := 70) (Has.t rfl) (.cons (t := 73) (Has.t rfl) .nil))))))))))))))))))))))))))))))))))))))))))))))) ?_
        refine DrB.go [] ?_
        refine DrC.st (i := 2) [] rfl rfl rfl (by kernel_rfl) (by kernel_rfl) (OKG.o rfl (OK1.call (zint_Of) (.cons (Has.cI 1 rfl) .nil))) ?_
        refine DrC.st (i := 4) [] rfl rfl rfl (by kernel_rfl) (by kernel_rfl) (OKG.o rfl (OK1.load (Has.t rfl) (i := 0) rfl ty72 rfl (Ss' := [_, _]) rfl)) ?_
        refine DrC.st (i := 5) [71] rfl rfl rfl (by kernel_rfl) (by kernel_rfl) (OKG.o rfl (OK1.call (zint_Neg (by rw [val_words]; omega)) (.cons (Has.t rfl) .nil))) ?_
        refine DrC.st (i := 7) [69, 72] rfl rfl rfl (by kernel_rfl) (by kernel_rfl) (OKG.o rfl (OK1.eq (OK1.call (hnf_mixed (A := 1) (B := Kv + n * (K + 2)) (K := Kv + n * (K + 2)) (L := K) (by rw [val_words]; exact nw_small' (by decide)) hyb (by rw [val_words, zv_nf, Int.natAbs_neg]; exact hcn) hrb (by omega) (by omega) (by omega) (by omega)) (.cons (Has.t rfl) (.cons (Has.t rfl) (.cons (Has.t rfl) (.cons (Has.t rfl) .nil))))) ((show _ = isP (crs C (vals xs) (vals vs) (n + 1)) from isPl_eq (by simp only [zv_nf]; rw [hyv, hrv]; rfl))))) ?_
        refine DrC.st (i := 8) [] rfl rfl rfl (by kernel_rfl) (by kernel_rfl) (OKG.o rfl (OK1.eq (OK1.load (Has.t rfl) (i := 0) rfl ty72 rfl (Ss' := [_, _]) rfl) ((show _ = Flat (zc (nz (crn C (vals xs) (vals vs) n))) from rfl)))) ?_
        refine DrC.st (i := 9) [74] rfl rfl rfl (by kernel_rfl) (by kernel_rfl) (OKG.o rfl (OK1.as (Has.t rfl))) ?_
        refine DrC.fin [10, 11] (by kernel_rfl) (by kernel_rfl) (fun _ _ _ _ _ h => h) (by kernel_rfl) (by kernel_rfl) (by kernel_rfl) (by kernel_rfl) (by kernel_rfl) (by kernel_rfl) (by kernel_rfl) (by kernel_rfl) (by kernel_rfl) ?_
        refine Ops.cv (Cv.wk (.cons (t := 2) (Has.t rfl) (.cons (t := 4) (Has.t rfl) (.cons (t := 5) (Has.t rfl) (.cons (t := 7) (Has.t rfl) (.cons (t := 35) (Has.t rfl) (.cons (t := 36) (Has.t rfl) (.cons (t := 37) (Has.t rfl) (.cons (t := 38) (Has.t rfl) (.cons (t := 39) (Has.t rfl) (.cons (t := 40) (Has.t rfl) (.cons (t := 41) (Has.t rfl) (.cons (t := 8) (Has.t rfl) (.cons (t := 9) (Has.t rfl) (.cons (t := 42) (Has.t rfl) (.cons (t := 43) (Has.t rfl) (.cons (t := 44) (Has.t rfl) (.cons (t := 45) (Has.t rfl) (.cons (t := 46) (Has.t rfl) (.cons (t := 47) (Has.t rfl) (.cons (t := 48) (Has.t rfl) (.cons (t := 49) (Has.t rfl) (.cons (t := 50) (Has.t rfl) (.cons (t := 51) (Has.t rfl) (.cons (t := 52) (Has.t rfl) (.cons (t := 53) (Has.t rfl) (.cons (t := 10) (Has.t rfl) (.cons (t := 55) (Has.t rfl) (.cons (t := 56) (Has.t rfl) (.cons (t := 57) (Has.t rfl) (.cons (t := 58) (Has.t rfl) (.cons (t := 59) (Has.t rfl) (.cons (t := 60) (Has.t rfl) (.cons (t := 61) (Has.t rfl) (.cons (t := 62) (Has.t rfl) (.cons (t := 63) (Has.t rfl) (.cons (t := 54) (Has.t rfl) (.cons (t := 64) (Has.t rfl) (.cons (t := 65) (Has.t rfl) (.cons (t := 66) (Has.t rfl) (.cons (t := 11) (Has.t rfl) (.cons (t := 12) (Has.t rfl) (.cons (t := 67) (Has.t rfl) (.cons (t := 68) (Has.t rfl) (.cons (t := 70) (Has.t rfl) (.cons (t := 73) (Has.t rfl) (.cons (t := 69) (Has.t rfl) (.cons (t := 71) (Has.t rfl) (.cons (t := 72) (Has.t rfl) (.cons (t := 74) (Has.t rfl) (.cons (t := 75) (Has.t rfl) (.cons (t := 6) (Has.t rfl) .nil)))))))))))))))))))))))))))))))))))))))))))))))))))) ?_
        refine st (OK1.eq (OK1.ixWin sl61 ty72 (Has.t rfl) (Has.t rfl) ⟨by omega, by omega⟩) (isPtr_eq (by first | exact ixo0 | exact ixo2 | exact ixo1))) rfl ?_
        refine Ops.storeK (z := nz (crn C (vals xs) (vals vs) n)) zc_len (Has.t rfl) (Has.t rfl) (i := 2) rfl ty72 (by rw [fill_len _ _ _ (by rw [List.length_map, coL_len]; omega), List.length_map, coL_len]; simp only [Int.toNat_natCast]; omega) (M' := [_, _, (_, _), _]) rfl ?_
        refine nl ?_
        refine At.bln ?_
        refine At.thn (hK12 _ _ ?_); clear hK12
        refine Tri.region ?_
        refine st (OK1.addI (Has.t rfl) (Has.cI 1 rfl) (by first | omega | assumption) (by first | omega | assumption)) rfl ?_
        refine st (OK1.mv (Has.t rfl)) rfl ?_
        refine nl ?_
        refine At.thn ?_
        refine hK9 (⟨(n + 1, (crs C (vals xs) (vals vs) (n + 1)).map nz), by show n + 1 ≤ P; omega, vals_nz _⟩) _ _ ?_ (Cv.trans (Cv.drop ((.cons _ (.cons _ (.cons_cons _ (.cons_cons _ .slnil)))))) (Cv.mem (.cons (t := 37) (Has.t' rfl ?_) (.cons (t := 6) (Has.t' rfl ?_) (.cons (t := 2) (Has.t rfl) (.cons (t := 4) (Has.t rfl) (.cons (t := 5) (Has.t rfl) (.cons (t := 7) (Has.t rfl) (.cons (t := 35) (Has.t rfl) (.cons (t := 36) (Has.t rfl) .nil)))))))) ?_))
        · show P - (n + 1) < P - n; omega
        · exact isI_eq (by omega)
        · rfl
        · exact memF_eq (coL_at (by omega) hP)
      · have hc3 := BP.f hc3
        skip
        refine Tri.exit ?_
        refine At.the ?_
        refine At.the ?_
        refine At.blh ?_
        refine At.thn (hK7 _ _ ?_); clear hK7
        refine Tri.cv (Cv.wk (.cons (t := 4) (Has.t rfl) (.cons (t := 5) (Has.t rfl) (.cons (t := 7) (Has.t rfl) (.cons (t := 6) (Has.t rfl) .nil))))) ?_
        refine Tri.seq fun K16 hK16 => ?_
        refine Tri.seq fun K17 hK17 => ?_
        refine Tri.region ?_
        refine st (OK1.mv (Has.t rfl)) rfl ?_
        refine st (OK1.eq (OK1.call (sl_ContainsFuncZ (K := Kv + n * (K + 2)) hyb) (.cons (Has.t rfl) (.cons (Has.fn (fun p => hnf_Coordinates_1 (Nat.lt_of_le_of_lt p.2 (by omega)))) .nil))) ((show _ = isB (!spB R C (mf C (vals xs)) (cf (vals vs))) from isB_eq (by rw [hyl, hyv, show n = P by omega]; exact left_sp hF hvv hP hp1 hp2)))) rfl ?_
        refine nl ?_
        refine At.thn (hK17 _ _ ?_); clear hK17
        refine Tri.cond (Has.t rfl) (fun hc4 => ?_) (fun hc4 => ?_)
        · have hc4 := BP.t hc4
          have hsp : ¬ spB R C (mf C (vals xs)) (cf (vals vs)) = true := by simpa using hc4
          refine Tri.seq fun K18 hK18 => ?_
          refine Tri.region ?_
          refine st (OK1.as (Has.cWK (k := 2) (fk := zc))) rfl ?_
          refine st (OK1.as (Has.cI 10 rfl)) rfl ?_
          refine nl ?_
          refine At.thn (hK18 _ _ ?_); clear hK18
          refine Tri.ret ?_
          refine At.thr ?_
          refine rtN (.inl rfl) Try.results63 rfl rfl (.tmp (Has.t' rfl ?_) (.tmp (Has.t' rfl ?_) .nil))
          · rw [if_neg hsp]; rfl
          · exact isI_eq (by rw [if_neg hsp])
        · have hc4 := BP.f hc4
          have hsp : spB R C (mf C (vals xs)) (cf (vals vs)) = true := by simpa using hc4
          refine Tri.skip ?_
          refine At.thn (hK16 _ _ ?_); clear hK16
          refine Tri.seq fun K19 hK19 => ?_
          refine Tri.cv (Cv.freezeK (t := 7) (i := 0) (ys := (coL R C P (vals xs) (vals vs)).map nz) zc_len rfl rfl rfl (by rw [fill_len _ _ _ (by rw [List.length_map, coL_len]; omega), List.length_map, coL_len]; omega) (coL_fill hP (by omega) rfl)) ?_
          refine Tri.memEq (M' := [_]) rfl ?_
          refine Tri.cv (Cv.wk (.cons (t := 4) (Has.t rfl) (.cons (t := 5) (Has.t rfl) (.cons (t := 7) (Has.t rfl) (.cons (t := 6) (Has.t rfl) (.cons (t := 78) (Has.t rfl) (.cons (t := 79) (Has.t rfl) .nil))))))) ?_
          refine Tri.region ?_
          refine st (OK1.mv (Has.t rfl)) rfl ?_
          refine st (OK1.as (Has.t rfl)) rfl ?_
          refine st (OK1.as (Has.cI 0 rfl)) rfl ?_
          refine nl ?_
          refine At.thn (hK19 _ _ ?_); clear hK19
          refine Tri.cv (Cv.wk (.cons (t := 4) (Has.t rfl) (.cons (t := 5) (Has.t rfl) .nil))) ?_
          refine Tri.ret ?_
          refine rtN (.inl rfl) Try.results63 rfl rfl (.tmp (Has.t' rfl ?_) (.tmp (Has.t' rfl ?_) .nil))
          · exact isPl_eq (by rw [if_pos hsp])
          · exact isI_eq (by rw [if_pos hsp])
end Go.Proofs.Ytiieaohnpnojmaa
/- Contracts: rows within others. -/
namespace Go.Proofs.Ytiieaohnpnojmaa
open Go.En Go.RowKit
set_option linter.unusedVariables false
set_option maxRecDepth 10000
open Go.Nt
open Go.Pz
open Go.Mz
open Go.Hn
open Go.Hp
open Go.Dt
set_option maxHeartbeats 4000000 in
theorem hnf_Within {R R' C K Ka : Nat} {xs ys : List (Bool × List Nat)} (hx : Bd (vals xs) Ka) (hy : Bd (vals ys) K) (hKa : Ka ≤ 1000) (hK : (K + 4) * (R' + 2) ^ C ≤ 1000000) (hR : R ≤ 64) (hR' : R' ≤ 64) (hC : C ≤ 64) (hl : xs.length = R * C) (hyl : ys.length = R' * C) : Ctr Try.prog 71 [isM (R : Int) (C : Int) xs, isM (R' : Int) (C : Int) ys] (isTup [isB (winB R R' C (mf C (vals xs)) (mf C (vals ys))), isI 0]) := by
  refine Ctr.intro Try.func71 rfl (by kernel_rfl) Try.ntmps71 rfl fun w0 F0 => ?_
  refine Tri.cv (Cv.wk (.cons (t := 0) (Has.t rfl) (.cons (t := 1) (Has.t rfl) .nil))) ?_
  have hRC := side_le hR hC
  have hRC' := side_le hR' hC
  have hfo := formB_true hR hC hl
  have hfo' := formB_true hR' hC hyl
  obtain ⟨Hl, hHl⟩ : ∃ Hl, Hl = hL R' C (vals ys) := ⟨_, rfl⟩
  have hLl : (Hl.map nz).length = R' * C := by rw [List.length_map, hHl]; exact hL_len hy
  have hLb : Bd (vals (Hl.map nz)) 1000000 := by rw [vals_nz, hHl]; exact (hL_bd hy).mono hK
  have hLf : HermF R' C (mf C (vals (Hl.map nz))) := by rw [vals_nz, hHl]; exact hL_form hy
  refine Tri.seq fun K1 hK1 => ?_
  refine Tri.region ?_
  refine Ops.box (Has.t rfl) rfl fun b1 => ?_
  refine Ops.box (Has.t rfl) rfl fun b2 => ?_
  refine st (OK1.as (Has.cB false)) rfl ?_
  refine st (OK1.as (Has.cI 0 rfl)) rfl ?_
  refine nl ?_
  refine At.thn (hK1 _ _ ?_); clear hK1
  refine Tri.seq fun K2 hK2 => ?_
  refine Tri.seq fun K3 hK3 => ?_
  refine Tri.region ?_
  refine st (OK1.load (Has.t rfl) (i := 1) rfl ty63 rfl (Ss' := [_, _, _]) rfl) rfl ?_
  refine st (OK1.eq (OK1.call (zmat_Formed) (.cons (Has.t rfl) .nil)) ((show isB _ = isB true from isB_eq (hfo)))) rfl ?_
  refine st (OK1.not (Has.t rfl)) rfl ?_
  refine st (OK1.mv (Has.t rfl)) rfl ?_
  refine stF rfl rfl (fun hg => have hg' := BP.t hg; OK1.load (Has.t rfl) (i := 0) rfl ty63 rfl (Ss' := [_, _, _]) rfl) rfl ?_
  refine stF rfl rfl (fun hg => have hg' := BP.t hg; OK1.eq (OK1.call (zmat_Formed) (.cons (Has.g rfl hg) .nil)) ((show isB _ = isB true from isB_eq (hfo')))) rfl ?_
  refine stF rfl rfl (fun hg => have hg' := BP.t hg; OK1.not (Has.g rfl hg)) rfl ?_
  refine st (OK1.pickOr (Has.t rfl) (fun h => Has.g rfl (ng h))) rfl ?_
  refine st (OK1.mv (Has.t rfl)) rfl ?_
  refine stF rfl rfl (fun hg => have hg' := BP.t hg; OK1.fieldAddr (Has.t rfl) fld63_1 ty3) rfl ?_
  refine stF rfl rfl (fun hg => have hg' := BP.t hg; OK1.load1 (Has.g rfl hg) (i := 1) rfl ty3 rfl) rfl ?_
  refine stF rfl rfl (fun hg => have hg' := BP.t hg; OK1.fieldAddr (Has.t rfl) fld63_1 ty3) rfl ?_
  refine stF rfl rfl (fun hg => have hg' := BP.t hg; OK1.load1 (Has.g rfl hg) (i := 0) rfl ty3 rfl) rfl ?_
  refine stF rfl rfl (fun hg => have hg' := BP.t hg; OK1.neI (Has.g rfl hg) (Has.g rfl hg)) rfl ?_
  refine st (OK1.pickOr (Has.t rfl) (fun h => Has.g rfl (ng h))) rfl ?_
  refine nl ?_
  refine At.thn (hK3 _ _ ?_); clear hK3
  refine Tri.cv (Cv.wk (.cons (t := 2) (Has.t rfl) (.cons (t := 3) (Has.t rfl) (.cons (t := 4) (Has.t rfl) (.cons (t := 5) (Has.t rfl) (.cons (t := 26) (Has.t rfl) .nil)))))) ?_
  refine Tri.cond (Has.t rfl) (fun hc1 => ?_) (fun hc1 => ?_)
  · have hc1 := BP.t hc1
    exfalso; simp at hc1
  · have hc1 := BP.f hc1
    refine Tri.skip ?_
    refine At.thn (hK2 _ _ ?_); clear hK2
    refine Tri.seq fun K4 hK4 => ?_
    refine Tri.region ?_
    refine st (OK1.load (Has.t rfl) (i := 0) rfl ty63 rfl (Ss' := [_, _, _]) rfl) rfl ?_
    refine st (OK1.eq (OK1.call (hnf_Hermite hy hK hR' hC hyl) (.cons (Has.t rfl) .nil)) ((show _ = isTup [isMz R' C Hl, isMz R' R' (uL R' C (vals ys)), isI 0] from by rw [hHl]; rfl))) rfl ?_
    refine st (OK1.mv (Has.t rfl)) rfl ?_
    refine st (OK1.ext (Has.t rfl) rfl) rfl ?_
    refine st (OK1.ext (Has.t rfl) rfl) rfl ?_
    refine st (OK1.ext (Has.t rfl) rfl) rfl ?_
    refine Ops.alloc [isI 0, isI 0, nilS] zero63 (fun _ _ => ⟨⟨rfl, by decide, by decide⟩, ⟨rfl, by decide, by decide⟩, rfl, trivial⟩) rfl fun b3 => ?_
    refine Ops.alloc [isI 0, isI 0, nilS] zero63 (fun _ _ => ⟨⟨rfl, by decide, by decide⟩, ⟨rfl, by decide, by decide⟩, rfl, trivial⟩) rfl fun b4 => ?_
    refine Ops.store (Has.t rfl) (Has.t rfl) (i := 1) rfl ty63 rfl rfl (Ss' := [_, _, _]) rfl (M' := [_, (some _, cellM [_, _, _]), _, _]) rfl ?_
    refine Ops.store (Has.t rfl) (Has.t rfl) (i := 0) rfl ty63 rfl rfl (Ss' := [_, _, _]) rfl (M' := [(some _, cellM [_, _, _]), _, _, _]) rfl ?_
    refine st (OK1.as (Has.t rfl)) rfl ?_
    refine nl ?_
    refine At.thn (hK4 _ _ ?_); clear hK4
    refine Tri.cv (Cv.wk (.cons (t := 2) (Has.t rfl) (.cons (t := 4) (Has.t rfl) (.cons (t := 5) (Has.t rfl) (.cons (t := 6) (Has.t rfl) (.cons (t := 8) (Has.t rfl) .nil)))))) ?_
    refine Tri.seq fun K5 hK5 => ?_
    refine Tri.seq fun K6 hK6 => ?_
    refine Tri.region ?_
    refine st (OK1.mv (Has.t rfl)) rfl ?_
    refine st (OK1.neI (Has.t rfl) (Has.cI 0 rfl)) rfl ?_
    refine nl ?_
    refine At.thn (hK6 _ _ ?_); clear hK6
    refine Tri.cond (Has.t rfl) (fun hc2 => ?_) (fun hc2 => ?_)
    · have hc2 := BP.t hc2
      exact absurd rfl hc2
    · have hc2 := BP.f hc2
      skip
      refine Tri.skip ?_
      refine At.thn (hK5 _ _ ?_); clear hK5
      refine Tri.seq fun K7 hK7 => ?_
      refine Tri.seq fun K8 hK8 => ?_
      refine Tri.region ?_
      refine st (OK1.fieldAddr (Has.t rfl) fld63_0 ty3) rfl ?_
      refine st (OK1.load1 (Has.t rfl) (i := 3) rfl ty3 rfl) rfl ?_
      refine st (OK1.mv (Has.cI 0 rfl)) rfl ?_
      refine nl ?_
      refine At.thn (hK8 _ _ ?_); clear hK8
      refine Tri.block ?_
      refine Tri.loopF [2, 6, 37] (fun (z : { i : Nat // i ≤ R ∧ ∀ j, j < i → SpZ R' C (mf C (vals ys)) (mf C (vals xs) j) }) => match z with | ⟨i, hI⟩ => [(38, isI (i : Int))]) (fun M => fun (z : { i : Nat // i ≤ R ∧ ∀ j, j < i → SpZ R' C (mf C (vals ys)) (mf C (vals xs) j) }) => match z with | ⟨i, hI⟩ => M) (fun (z : { i : Nat // i ≤ R ∧ ∀ j, j < i → SpZ R' C (mf C (vals ys)) (mf C (vals xs) j) }) => match z with | ⟨i, hI⟩ => R - i) (⟨0, Nat.zero_le _, fun j hj => absurd hj (Nat.not_lt_zero _)⟩) (Cv.mem (.cons (t := 38) (Has.t' rfl ?_) (.cons (t := 2) (Has.t rfl) (.cons (t := 6) (Has.t rfl) (.cons (t := 37) (Has.t rfl) .nil)))) ?_) ?_
      · rfl
      · rfl
      rintro ⟨i, hi, hq⟩ K9 hK9
      refine Tri.cv (Cv.wk (.cons (t := 38) (Has.t rfl) (.cons (t := 2) (Has.t rfl) (.cons (t := 6) (Has.t rfl) (.cons (t := 37) (Has.t rfl) .nil))))) ?_
      refine Tri.seq fun K10 hK10 => ?_
      refine Tri.region ?_
      refine st (OK1.ltI (Has.t rfl) (Has.t rfl)) rfl ?_
      refine nl ?_
      refine At.thn (hK10 _ _ ?_); clear hK10
      refine Tri.seq fun K11 hK11 => ?_
      refine Tri.cond (Has.t rfl) (fun hc3 => ?_) (fun hc3 => ?_)
      · have hc3 := BP.t hc3
        have hiR : i < R := (by omega)
        have hpl1 : (i + 1) * C ≤ R * C := Nat.mul_le_mul_right _ hiR
        have hpl2 : (i + 1) * C = i * C + C := Nat.succ_mul _ _
        have hc1 : ((i : Int) * (C : Int)) = ((i * C : Nat) : Int) := (Int.natCast_mul i C).symm
        have hc2 : (((i : Int) + 1) * (C : Int)) = (((i + 1) * C : Nat) : Int) := by rw [Int.natCast_mul]; rfl
        obtain ⟨rw', hrw'⟩ : ∃ r, r = (xs.take ((i + 1) * C)).drop (i * C) := ⟨_, rfl⟩
        have hrv : vals rw' = Go.Hp.rowL C (vals xs) i := by rw [hrw']; exact rowL_of (by omega)
        have hrl : rw'.length = C := by rw [← vals_len, hrv, Go.Hp.rowL_len]
        have hrb : Bd (vals rw') Ka := fun k => by
          rcases Nat.lt_or_ge k C with h | h
          · rw [hrv, cf_rowL h]; exact hx _
          · rw [cf_high (by rw [vals_len]; omega), Int.natAbs_zero, words_zero]; exact Nat.zero_le _
        obtain ⟨Xc, hXc⟩ : ∃ X, X = if spB R' C (mf C (vals (Hl.map nz))) (cf (vals rw')) = true then coL R' C (pivL C (mf C (vals (Hl.map nz))) R').length (vals (Hl.map nz)) (vals rw') else [] := ⟨_, rfl⟩
        obtain ⟨ec, hec⟩ : ∃ e : Int, e = if spB R' C (mf C (vals (Hl.map nz))) (cf (vals rw')) = true then 0 else 10 := ⟨_, rfl⟩
        have hspi : spB R' C (mf C (vals (Hl.map nz))) (cf (vals rw')) = true ↔ SpZ R' C (mf C (vals ys)) (mf C (vals xs) i) := by rw [vals_nz, hHl, hrv]; exact sp_row hy
        refine Tri.skip ?_
        refine At.thn (hK11 _ _ ?_); clear hK11
        refine Tri.seq fun K12 hK12 => ?_
        refine Tri.block ?_
        refine Tri.seq fun K13 hK13 => ?_
        refine Tri.region ?_
        refine st (OK1.mv (Has.t rfl)) rfl ?_
        refine st (OK1.as (Has.t rfl)) rfl ?_
        refine nl ?_
        refine At.thn (hK13 _ _ ?_); clear hK13
        refine Tri.seq fun K14 hK14 => ?_
        refine Tri.dr ?_
        refine DrG.st (i := 0) [] rfl rfl rfl (by kernel_rfl) (OKG.o rfl (OK1.load (Has.t rfl) (i := 1) rfl ty63 rfl (Ss' := [_, _, _]) rfl)) ?_
        refine DrG.st (i := 1) [] rfl rfl rfl (by kernel_rfl) (OKG.o rfl (OK1.fieldAddr (Has.t rfl) fld63_2 ty61)) ?_
        refine DrG.st (i := 2) [43] rfl rfl rfl (by kernel_rfl) (OKG.o rfl (OK1.load1 (Has.t rfl) (i := 3) rfl ty61 rfl)) ?_
        refine DrG.st (i := 3) [] rfl rfl rfl (by kernel_rfl) (OKG.o rfl (OK1.mv (Has.t rfl))) ?_
        refine DrG.st (i := 4) [] rfl rfl rfl (by kernel_rfl) (OKG.o rfl (OK1.fieldAddr (Has.t rfl) fld63_1 ty3)) ?_
        refine DrG.st (i := 5) [46] rfl rfl rfl (by kernel_rfl) (OKG.o rfl (OK1.load1 (Has.t rfl) (i := 3) rfl ty3 rfl)) ?_
        refine DrG.st (i := 6) [45, 47] rfl rfl rfl (by kernel_rfl) (OKG.o rfl (OK1.eq (OK1.mulI (Has.t rfl) (Has.t rfl) (by first | omega | (rw [hc1]; omega) | (rw [hc2]; omega)) (by first | omega | (rw [hc1]; omega) | (rw [hc2]; omega))) ((show isI _ = isI ((i * C : Nat) : Int) from isI_eq hc1)))) ?_
        refine DrG.st (i := 7) [] rfl rfl rfl (by kernel_rfl) (OKG.o rfl (OK1.mv (Has.t rfl))) ?_
        refine DrG.st (i := 8) [49] rfl rfl rfl (by kernel_rfl) (OKG.o rfl (OK1.addI (Has.t rfl) (Has.cI 1 rfl) (by first | omega | (rw [hc1]; omega) | (rw [hc2]; omega)) (by first | omega | (rw [hc1]; omega) | (rw [hc2]; omega)))) ?_
        refine DrG.st (i := 9) [] rfl rfl rfl (by kernel_rfl) (OKG.o rfl (OK1.fieldAddr (Has.t rfl) fld63_1 ty3)) ?_
        refine DrG.st (i := 10) [51] rfl rfl rfl (by kernel_rfl) (OKG.o rfl (OK1.load1 (Has.t rfl) (i := 3) rfl ty3 rfl)) ?_
        refine DrG.st (i := 11) [50, 52] rfl rfl rfl (by kernel_rfl) (OKG.o rfl (OK1.eq (OK1.mulI (Has.t rfl) (Has.t rfl) (by first | omega | (rw [hc1]; omega) | (rw [hc2]; omega)) (by first | omega | (rw [hc1]; omega) | (rw [hc2]; omega))) ((show isI _ = isI (((i + 1) * C : Nat) : Int) from isI_eq hc2)))) ?_
        refine DrG.st (i := 12) [44, 48, 53] rfl rfl rfl (by kernel_rfl) (OKG.o rfl (OK1.eq (OK1.slLHK sl61 ty72 zc_len (Has.t rfl) (Has.t rfl) (Has.t rfl) ⟨by omega, by omega, by omega⟩) ((show _ = SlK 2 zc rw' from SlK_eq (by rw [hrw']; rfl))))) ?_
        refine DrG.st (i := 13) [42, 54] rfl rfl rfl (by kernel_rfl) (OKG.o rfl (OK1.eq (OK1.call (hnf_Coordinates (K := 1000000) (Kv := Ka) (vs := rw') hLb hR' hC hLl hrb hrl (by omega) hLf) (.cons (Has.t rfl) (.cons (Has.t rfl) .nil))) ((show _ = isTup [isP Xc, isI ec] from by rw [hXc, hec])))) ?_
        refine DrG.st (i := 14) [55] rfl rfl rfl (by kernel_rfl) (OKG.o rfl (OK1.mv (Has.t rfl))) ?_
        refine DrG.st (i := 15) [41] rfl rfl rfl (by kernel_rfl) (OKG.o rfl (OK1.ext (Has.t rfl) rfl)) ?_
        refine DrG.st (i := 16) [41] rfl rfl rfl (by kernel_rfl) (OKG.o rfl (OK1.ext (Has.t rfl) rfl)) ?_
        refine DrG.st (i := 17) [56] rfl rfl rfl (by kernel_rfl) (OKG.o rfl (OK1.as (Has.t rfl))) ?_
        refine DrG.fin (n := 18) mixed (by kernel_rfl) (by kernel_rfl) (by kernel_rfl) ?_
        refine Ops.cv (Cv.wk (.cons (t := 2) (Has.t rfl) (.cons (t := 6) (Has.t rfl) (.cons (t := 37) (Has.t rfl) (.cons (t := 38) (Has.t rfl) (.cons (t := 39) (Has.t rfl) (.cons (t := 40) (Has.t rfl) (.cons (t := 9) (Has.t rfl) (.cons (t := 42) (Has.t rfl) (.cons (t := 43) (Has.t rfl) (.cons (t := 44) (Has.t rfl) (.cons (t := 45) (Has.t rfl) (.cons (t := 46) (Has.t rfl) (.cons (t := 47) (Has.t rfl) (.cons (t := 48) (Has.t rfl) (.cons (t := 49) (Has.t rfl) (.cons (t := 50) (Has.t rfl) (.cons (t := 51) (Has.t rfl) (.cons (t := 52) (Has.t rfl) (.cons (t := 53) (Has.t rfl) (.cons (t := 54) (Has.t rfl) (.cons (t := 55) (Has.t rfl) (.cons (t := 41) (Has.t rfl) (.cons (t := 56) (Has.t rfl) (.cons (t := 57) (Has.t rfl) .nil))))))))))))))))))))))))) ?_
        refine st (OK1.as (Has.t rfl)) rfl ?_
        refine nl ?_
        refine At.thn (hK14 _ _ ?_); clear hK14
        refine Tri.seq fun K15 hK15 => ?_
        refine Tri.region ?_
        refine st (OK1.mv (Has.t rfl)) rfl ?_
        refine st (OK1.neI (Has.t rfl) (Has.cI 0 rfl)) rfl ?_
        refine nl ?_
        refine At.thn (hK15 _ _ ?_); clear hK15
        refine Tri.cond (Has.t rfl) (fun hc4 => ?_) (fun hc4 => ?_)
        · have hc4 := BP.t hc4
          have hno : ¬ SpZ R' C (mf C (vals ys)) (mf C (vals xs) i) := fun h => by rw [if_pos (hspi.2 h)] at hec; exact hc4 hec
          refine Tri.seq fun K16 hK16 => ?_
          refine Tri.region ?_
          refine st (OK1.as (Has.cB false)) rfl ?_
          refine st (OK1.as (Has.cI 0 rfl)) rfl ?_
          refine nl ?_
          refine At.thn (hK16 _ _ ?_); clear hK16
          refine Tri.ret ?_
          refine At.blr ?_
          refine At.thr ?_
          refine At.thr ?_
          refine At.blr ?_
          refine At.thr ?_
          refine rtN (.inl rfl) Try.results71 rfl rfl (.tmp (Has.t' rfl ?_) (.tmp (Has.t' rfl ?_) .nil))
          · exact isB_eq (winB_no fun h => hno (h i hiR)).symm
          · rfl
        · have hc4 := BP.f hc4
          have hyes : SpZ R' C (mf C (vals ys)) (mf C (vals xs) i) := hspi.1 (Classical.byContradiction fun h => by rw [if_neg h] at hec; omega)
          refine Tri.skip ?_
          refine At.bln ?_
          refine At.thn (hK12 _ _ ?_); clear hK12
          refine Tri.region ?_
          refine st (OK1.addI (Has.t rfl) (Has.cI 1 rfl) (by first | omega | assumption) (by first | omega | assumption)) rfl ?_
          refine st (OK1.mv (Has.t rfl)) rfl ?_
          refine nl ?_
          refine At.thn ?_
          refine hK9 (⟨i + 1, by omega, fun j hj => by rcases Nat.lt_or_ge j i with h | h; exact hq j h; obtain rfl : j = i := (by omega); exact hyes⟩) _ _ ?_ (Cv.mem (.cons (t := 38) (Has.t' rfl ?_) (.cons (t := 2) (Has.t rfl) (.cons (t := 6) (Has.t rfl) (.cons (t := 37) (Has.t rfl) .nil)))) ?_)
          · show R - (i + 1) < R - i; omega
          · exact isI_eq (by omega)
          · rfl
      · have hc3 := BP.f hc3
        skip
        refine Tri.exit ?_
        refine At.the ?_
        refine At.the ?_
        refine At.blh ?_
        refine At.thn (hK7 _ _ ?_); clear hK7
        refine Tri.cv (Cv.wk .nil) ?_
        refine Tri.seq fun K17 hK17 => ?_
        refine Tri.region ?_
        refine st (OK1.as (Has.cB true)) rfl ?_
        refine st (OK1.as (Has.cI 0 rfl)) rfl ?_
        refine nl ?_
        refine At.thn (hK17 _ _ ?_); clear hK17
        refine Tri.ret ?_
        refine rtN (.inl rfl) Try.results71 rfl rfl (.tmp (Has.t' rfl ?_) (.tmp (Has.t' rfl ?_) .nil))
        · exact isB_eq (winB_iff.2 fun j hj => hq j (by omega)).symm
        · rfl
set_option maxHeartbeats 4000000 in
theorem hnf_Within_bad {R R' C C' : Nat} {xs ys : List (Bool × List Nat)} (hR : R ≤ 64) (hR' : R' ≤ 64) (hC : C ≤ 64) (hC' : C' ≤ 64) (hl : xs.length = R * C) (hyl : ys.length = R' * C') (hne : C ≠ C') : Ctr Try.prog 71 [isM (R : Int) (C : Int) xs, isM (R' : Int) (C' : Int) ys] (isTup [isB false, isI 2]) := by
  refine Ctr.intro Try.func71 rfl (by kernel_rfl) Try.ntmps71 rfl fun w0 F0 => ?_
  refine Tri.cv (Cv.wk (.cons (t := 0) (Has.t rfl) (.cons (t := 1) (Has.t rfl) .nil))) ?_
  have hfo := formB_true hR hC hl
  have hfo' := formB_true hR' hC' hyl
  refine Tri.seq fun K1 hK1 => ?_
  refine Tri.region ?_
  refine Ops.box (Has.t rfl) rfl fun b1 => ?_
  refine Ops.box (Has.t rfl) rfl fun b2 => ?_
  refine st (OK1.as (Has.cB false)) rfl ?_
  refine st (OK1.as (Has.cI 0 rfl)) rfl ?_
  refine nl ?_
  refine At.thn (hK1 _ _ ?_); clear hK1
  refine Tri.seq fun K2 hK2 => ?_
  refine Tri.seq fun K3 hK3 => ?_
  refine Tri.region ?_
  refine st (OK1.load (Has.t rfl) (i := 1) rfl ty63 rfl (Ss' := [_, _, _]) rfl) rfl ?_
  refine st (OK1.eq (OK1.call (zmat_Formed) (.cons (Has.t rfl) .nil)) ((show isB _ = isB true from isB_eq (hfo)))) rfl ?_
  refine st (OK1.not (Has.t rfl)) rfl ?_
  refine st (OK1.mv (Has.t rfl)) rfl ?_
  refine stF rfl rfl (fun hg => have hg' := BP.t hg; OK1.load (Has.t rfl) (i := 0) rfl ty63 rfl (Ss' := [_, _, _]) rfl) rfl ?_
  refine stF rfl rfl (fun hg => have hg' := BP.t hg; OK1.eq (OK1.call (zmat_Formed) (.cons (Has.g rfl hg) .nil)) ((show isB _ = isB true from isB_eq (hfo')))) rfl ?_
  refine stF rfl rfl (fun hg => have hg' := BP.t hg; OK1.not (Has.g rfl hg)) rfl ?_
  refine st (OK1.pickOr (Has.t rfl) (fun h => Has.g rfl (ng h))) rfl ?_
  refine st (OK1.mv (Has.t rfl)) rfl ?_
  refine stF rfl rfl (fun hg => have hg' := BP.t hg; OK1.fieldAddr (Has.t rfl) fld63_1 ty3) rfl ?_
  refine stF rfl rfl (fun hg => have hg' := BP.t hg; OK1.load1 (Has.g rfl hg) (i := 1) rfl ty3 rfl) rfl ?_
  refine stF rfl rfl (fun hg => have hg' := BP.t hg; OK1.fieldAddr (Has.t rfl) fld63_1 ty3) rfl ?_
  refine stF rfl rfl (fun hg => have hg' := BP.t hg; OK1.load1 (Has.g rfl hg) (i := 0) rfl ty3 rfl) rfl ?_
  refine stF rfl rfl (fun hg => have hg' := BP.t hg; OK1.neI (Has.g rfl hg) (Has.g rfl hg)) rfl ?_
  refine st (OK1.pickOr (Has.t rfl) (fun h => Has.g rfl (ng h))) rfl ?_
  refine nl ?_
  refine At.thn (hK3 _ _ ?_); clear hK3
  refine Tri.cv (Cv.wk (.cons (t := 2) (Has.t rfl) (.cons (t := 3) (Has.t rfl) (.cons (t := 4) (Has.t rfl) (.cons (t := 5) (Has.t rfl) (.cons (t := 26) (Has.t rfl) .nil)))))) ?_
  refine Tri.cond (Has.t rfl) (fun hc1 => ?_) (fun hc1 => ?_)
  · have hc1 := BP.t hc1
    refine Tri.seq fun K4 hK4 => ?_
    refine Tri.region ?_
    refine st (OK1.as (Has.cB false)) rfl ?_
    refine st (OK1.as (Has.cI 2 rfl)) rfl ?_
    refine nl ?_
    refine At.thn (hK4 _ _ ?_); clear hK4
    refine Tri.ret ?_
    refine At.thr ?_
    refine rtN (.inl rfl) Try.results71 rfl rfl (.tmp (Has.t' rfl ?_) (.tmp (Has.t' rfl ?_) .nil))
    · rfl
    · rfl
  · have hc1 := BP.f hc1
    exfalso; simp at hc1; omega
end Go.Proofs.Ytiieaohnpnojmaa
/- Contracts: the same matrices. -/
namespace Go.Proofs.Ytiieaohnpnojmaa
open Go.En Go.RowKit
set_option linter.unusedVariables false
set_option maxRecDepth 10000
open Go.Nt
open Go.Pz
open Go.Mz
open Go.Hn
open Go.Hp
open Go.Dt
set_option maxHeartbeats 4000000 in
theorem zmat_alike {r c r2 c2 : Int} {xs ys : List (Bool × List Nat)} : Ctr Try.prog 126 [isM r c xs, isM r2 c2 ys] (isB (formB r c xs.length && formB r2 c2 ys.length && decide (r = r2) && decide (c = c2))) := by
  refine Ctr.intro Try.func126 rfl (by kernel_rfl) Try.ntmps126 rfl fun w0 F0 => ?_
  refine Tri.cv (Cv.wk (.cons (t := 0) (Has.t rfl) (.cons (t := 1) (Has.t rfl) .nil))) ?_
  refine Tri.seq fun K1 hK1 => ?_
  refine Tri.region ?_
  refine Ops.box (Has.t rfl) rfl fun b1 => ?_
  refine Ops.box (Has.t rfl) rfl fun b2 => ?_
  refine st (OK1.as (Has.cB false)) rfl ?_
  refine nl ?_
  refine At.thn (hK1 _ _ ?_); clear hK1
  refine Tri.seq fun K2 hK2 => ?_
  refine Tri.region ?_
  refine st (OK1.load (Has.t rfl) (i := 1) rfl ty63 rfl (Ss' := [_, _, _]) rfl) rfl ?_
  refine st (OK1.call (zmat_Formed) (.cons (Has.t rfl) .nil)) rfl ?_
  refine st (OK1.mv (Has.t rfl)) rfl ?_
  refine stT rfl rfl (fun hg => have hg' := BP.t hg; OK1.load (Has.t rfl) (i := 0) rfl ty63 rfl (Ss' := [_, _, _]) rfl) rfl ?_
  refine stT rfl rfl (fun hg => have hg' := BP.t hg; OK1.call (zmat_Formed) (.cons (Has.g rfl hg) .nil)) rfl ?_
  refine st (OK1.pickAnd (Has.t rfl) (fun h => Has.g rfl h)) rfl ?_
  refine st (OK1.mv (Has.t rfl)) rfl ?_
  refine stT rfl rfl (fun hg => have hg' := BP.t hg; OK1.fieldAddr (Has.t rfl) fld63_0 ty3) rfl ?_
  refine stT rfl rfl (fun hg => have hg' := BP.t hg; OK1.load1 (Has.g rfl hg) (i := 1) rfl ty3 rfl) rfl ?_
  refine stT rfl rfl (fun hg => have hg' := BP.t hg; OK1.fieldAddr (Has.t rfl) fld63_0 ty3) rfl ?_
  refine stT rfl rfl (fun hg => have hg' := BP.t hg; OK1.load1 (Has.g rfl hg) (i := 0) rfl ty3 rfl) rfl ?_
  refine stT rfl rfl (fun hg => have hg' := BP.t hg; OK1.eqI (Has.g rfl hg) (Has.g rfl hg)) rfl ?_
  refine st (OK1.pickAnd (Has.t rfl) (fun h => Has.g rfl h)) rfl ?_
  refine st (OK1.mv (Has.t rfl)) rfl ?_
  refine stT rfl rfl (fun hg => have hg' := BP.t hg; OK1.fieldAddr (Has.t rfl) fld63_1 ty3) rfl ?_
  refine stT rfl rfl (fun hg => have hg' := BP.t hg; OK1.load1 (Has.g rfl hg) (i := 1) rfl ty3 rfl) rfl ?_
  refine stT rfl rfl (fun hg => have hg' := BP.t hg; OK1.fieldAddr (Has.t rfl) fld63_1 ty3) rfl ?_
  refine stT rfl rfl (fun hg => have hg' := BP.t hg; OK1.load1 (Has.g rfl hg) (i := 0) rfl ty3 rfl) rfl ?_
  refine stT rfl rfl (fun hg => have hg' := BP.t hg; OK1.eqI (Has.g rfl hg) (Has.g rfl hg)) rfl ?_
  refine st (OK1.pickAnd (Has.t rfl) (fun h => Has.g rfl h)) rfl ?_
  refine st (OK1.as (Has.t rfl)) rfl ?_
  refine nl ?_
  refine At.thn (hK2 _ _ ?_); clear hK2
  refine Tri.cv (Cv.wk (.cons (t := 4) (Has.t rfl) .nil)) ?_
  refine Tri.ret ?_
  refine rt1 (.inl rfl) Try.results126 rfl (.tmp (Has.t' rfl ?_) .nil)
  all_goals (rfl)
set_option maxHeartbeats 4000000 in
theorem sl_EqualFuncZ {xs ys : List (Bool × List Nat)} {K : Nat} (hx : Bd (vals xs) K) (hy : Bd (vals ys) K) : Ctr Try.prog 127 [SlK 2 zc xs, SlK 2 zc ys, isFun (ι := PR K) Try.prog (fun p => [Flat (zc p.1.1), Flat (zc p.1.2)]) (fun p => isB (decide (zv p.1.1.1 p.1.1.2 = zv p.1.2.1 p.1.2.2)))] (isB (decide (vals xs = vals ys))) := by
  refine Ctr.intro Try.func127 rfl (by kernel_rfl) Try.ntmps127 rfl fun w0 F0 => ?_
  refine Tri.cv (Cv.wk (.cons (t := 0) (Has.t rfl) (.cons (t := 1) (Has.t rfl) (.cons (t := 2) (Has.t rfl) .nil)))) ?_
  refine Tri.fact (Has.lenLt (Has.t (t := 0) rfl)) fun lt0 => ?_
  refine Tri.fact (Has.lenLt (Has.t (t := 1) rfl)) fun lt1 => ?_
  refine Tri.seq fun K1 hK1 => ?_
  refine Tri.region ?_
  refine st (OK1.as (Has.cB false)) rfl ?_
  refine nl ?_
  refine At.thn (hK1 _ _ ?_); clear hK1
  refine Tri.seq fun K2 hK2 => ?_
  refine Tri.seq fun K3 hK3 => ?_
  refine Tri.region ?_
  refine st (OK1.mv (Has.t rfl)) rfl ?_
  refine st (OK1.len sl61 (Has.t rfl)) rfl ?_
  refine st (OK1.mv (Has.t rfl)) rfl ?_
  refine st (OK1.len sl61 (Has.t rfl)) rfl ?_
  refine st (OK1.neI (Has.t rfl) (Has.t rfl)) rfl ?_
  refine nl ?_
  refine At.thn (hK3 _ _ ?_); clear hK3
  refine Tri.cond (Has.t rfl) (fun hc1 => ?_) (fun hc1 => ?_)
  · have hc1 := BP.t hc1
    skip
    refine Tri.seq fun K4 hK4 => ?_
    refine Tri.region ?_
    refine st (OK1.as (Has.cB false)) rfl ?_
    refine nl ?_
    refine At.thn (hK4 _ _ ?_); clear hK4
    refine Tri.cv (Cv.wk (.cons (t := 0) (Has.t rfl) (.cons (t := 1) (Has.t rfl) (.cons (t := 2) (Has.t rfl) (.cons (t := 6) (Has.t rfl) .nil))))) ?_
    refine Tri.ret ?_
    refine At.thr ?_
    refine rt1 (.inl rfl) Try.results127 rfl (.tmp (Has.t' rfl ?_) .nil)
    all_goals (exact isB_eq (decide_eq_false fun h => by have := congrArg List.length h; rw [vals_len, vals_len] at this; omega).symm)
  · have hc1 := BP.f hc1
    have hll : xs.length = ys.length := (by omega)
    refine Tri.skip ?_
    refine At.thn (hK2 _ _ ?_); clear hK2
    refine Tri.cv (Cv.wk (.cons (t := 0) (Has.t rfl) (.cons (t := 1) (Has.t rfl) (.cons (t := 2) (Has.t rfl) (.cons (t := 6) (Has.t rfl) .nil))))) ?_
    refine Tri.seq fun K5 hK5 => ?_
    refine Tri.seq fun K6 hK6 => ?_
    refine Tri.region ?_
    refine st (OK1.mv (Has.t rfl)) rfl ?_
    refine st (OK1.len sl61 (Has.t rfl)) rfl ?_
    refine st (OK1.mv (Has.cI 0 rfl)) rfl ?_
    refine nl ?_
    refine At.thn (hK6 _ _ ?_); clear hK6
    refine Tri.block ?_
    refine Tri.loopF [1, 2, 15, 16] (fun (z : { i : Nat // i ≤ xs.length ∧ ∀ j, j < i → cf (vals xs) j = cf (vals ys) j }) => match z with | ⟨i, hI⟩ => [(17, isI (i : Int))]) (fun M => fun (z : { i : Nat // i ≤ xs.length ∧ ∀ j, j < i → cf (vals xs) j = cf (vals ys) j }) => match z with | ⟨i, hI⟩ => M) (fun (z : { i : Nat // i ≤ xs.length ∧ ∀ j, j < i → cf (vals xs) j = cf (vals ys) j }) => match z with | ⟨i, hI⟩ => xs.length - i) (⟨0, Nat.zero_le _, fun j hj => absurd hj (Nat.not_lt_zero _)⟩) (Cv.mem (.cons (t := 17) (Has.t' rfl ?_) (.cons (t := 1) (Has.t rfl) (.cons (t := 2) (Has.t rfl) (.cons (t := 15) (Has.t rfl) (.cons (t := 16) (Has.t rfl) .nil))))) ?_) ?_
    · rfl
    · rfl
    rintro ⟨i, hi, hq⟩ K7 hK7
    refine Tri.cv (Cv.wk (.cons (t := 17) (Has.t rfl) (.cons (t := 1) (Has.t rfl) (.cons (t := 2) (Has.t rfl) (.cons (t := 15) (Has.t rfl) (.cons (t := 16) (Has.t rfl) .nil)))))) ?_
    refine Tri.seq fun K8 hK8 => ?_
    refine Tri.region ?_
    refine st (OK1.ltI (Has.t rfl) (Has.t rfl)) rfl ?_
    refine nl ?_
    refine At.thn (hK8 _ _ ?_); clear hK8
    refine Tri.seq fun K9 hK9 => ?_
    refine Tri.cond (Has.t rfl) (fun hc2 => ?_) (fun hc2 => ?_)
    · have hc2 := BP.t hc2
      refine Tri.skip ?_
      refine At.thn (hK9 _ _ ?_); clear hK9
      refine Tri.seq fun K10 hK10 => ?_
      refine Tri.block ?_
      refine Tri.seq fun K11 hK11 => ?_
      refine Tri.region ?_
      refine st (OK1.mv (Has.t rfl)) rfl ?_
      refine st (OK1.ixK sl61 ty72 (Has.t rfl) (Has.t rfl) zc_len ⟨by omega, by omega⟩ (getD_some (d := (false, [])) (by first | omega | (simp only [Int.toNat_natCast, List.length_set]; omega)))) rfl ?_
      refine st (OK1.loadP (Has.t rfl) ty72 rfl (Ss' := [_, _]) rfl) rfl ?_
      refine Ops.alloc [isB false, SlM isU []] zero72 (fun _ _ => ⟨rfl, nilM _ _, trivial⟩) rfl fun b1 => ?_
      refine st (OK1.as (Has.t rfl)) rfl ?_
      refine Ops.store (Has.t rfl) (Has.t rfl) (i := 0) rfl ty72 rfl rfl (Ss' := [_, _]) rfl (M' := [(some _, cellM [_, _])]) rfl ?_
      refine nl ?_
      refine At.thn (hK11 _ _ ?_); clear hK11
      refine Tri.seq fun K12 hK12 => ?_
      refine Tri.region ?_
      refine st (OK1.mv (Has.t rfl)) rfl ?_
      refine st (OK1.mv (Has.t rfl)) rfl ?_
      refine st (OK1.ixK sl61 ty72 (Has.t rfl) (Has.t rfl) zc_len ⟨by omega, by omega⟩ (getD_some (d := (false, [])) (by first | omega | (simp only [Int.toNat_natCast, List.length_set]; omega)))) rfl ?_
      refine st (OK1.loadP (Has.t rfl) ty72 rfl (Ss' := [_, _]) rfl) rfl ?_
      refine Ops.alloc [isB false, SlM isU []] zero72 (fun _ _ => ⟨rfl, nilM _ _, trivial⟩) rfl fun b2 => ?_
      refine Ops.store (Has.t rfl) (Has.t rfl) (i := 0) rfl ty72 rfl rfl (Ss' := [_, _]) rfl (M' := [(some _, cellM [_, _]), _]) rfl ?_
      refine nl ?_
      refine At.thn (hK12 _ _ ?_); clear hK12
      refine Tri.seq fun K13 hK13 => ?_
      refine Tri.region ?_
      refine st (OK1.mv (Has.t rfl)) rfl ?_
      refine st (OK1.load (Has.t rfl) (i := 1) rfl ty72 rfl (Ss' := [_, _]) rfl) rfl ?_
      refine st (OK1.load (Has.t rfl) (i := 0) rfl ty72 rfl (Ss' := [_, _]) rfl) rfl ?_
      refine st (OK1.callV ⟨(xs.getD i (false, []), ys.getD i (false, [])), hx.raw i, hy.raw i⟩ (Has.t rfl) (.cons (Has.t rfl) (.cons (Has.t rfl) .nil))) rfl ?_
      refine st (OK1.not (Has.t rfl)) rfl ?_
      refine nl ?_
      refine At.thn (hK13 _ _ ?_); clear hK13
      refine Tri.cond (Has.t rfl) (fun hc3 => ?_) (fun hc3 => ?_)
      · have hc3 := BP.t hc3
        have HQ : ¬ cf (vals xs) i = cf (vals ys) i := (by rw [cf_vals, cf_vals]; simpa using hc3)
        refine Tri.seq fun K14 hK14 => ?_
        refine Tri.region ?_
        refine st (OK1.as (Has.cB false)) rfl ?_
        refine nl ?_
        refine At.thn (hK14 _ _ ?_); clear hK14
        refine Tri.ret ?_
        refine At.blr ?_
        refine At.thr ?_
        refine At.thr ?_
        refine At.blr ?_
        refine At.thr ?_
        refine rt1 (.inl rfl) Try.results127 rfl (.tmp (Has.t' rfl ?_) .nil)
        all_goals (exact isB_eq (decide_eq_false fun h => HQ (by rw [h])).symm)
      · have hc3 := BP.f hc3
        have HQ : cf (vals xs) i = cf (vals ys) i := (by rw [cf_vals, cf_vals]; simpa using hc3)
        refine Tri.skip ?_
        refine At.bln ?_
        refine At.thn (hK10 _ _ ?_); clear hK10
        refine Tri.region ?_
        refine st (OK1.addI (Has.t rfl) (Has.cI 1 rfl) (by first | omega | assumption) (by first | omega | assumption)) rfl ?_
        refine st (OK1.mv (Has.t rfl)) rfl ?_
        refine nl ?_
        refine At.thn ?_
        refine hK7 (⟨i + 1, by omega, fun j hj => by rcases Nat.lt_or_ge j i with h | h; exact hq j h; obtain rfl : j = i := (by omega); exact HQ⟩) _ _ ?_ (Cv.trans (Cv.drop ((.cons _ (.cons _ .slnil)))) (Cv.mem (.cons (t := 17) (Has.t' rfl ?_) (.cons (t := 1) (Has.t rfl) (.cons (t := 2) (Has.t rfl) (.cons (t := 15) (Has.t rfl) (.cons (t := 16) (Has.t rfl) .nil))))) ?_))
        · show xs.length - (i + 1) < xs.length - i; omega
        · exact isI_eq (by omega)
        · rfl
    · have hc2 := BP.f hc2
      refine Tri.exit ?_
      refine At.the ?_
      refine At.the ?_
      refine At.blh ?_
      refine At.thn (hK5 _ _ ?_); clear hK5
      refine Tri.cv (Cv.wk .nil) ?_
      refine Tri.seq fun K15 hK15 => ?_
      refine Tri.region ?_
      refine st (OK1.as (Has.cB true)) rfl ?_
      refine nl ?_
      refine At.thn (hK15 _ _ ?_); clear hK15
      refine Tri.ret ?_
      refine rt1 (.inl rfl) Try.results127 rfl (.tmp (Has.t' rfl ?_) .nil)
      all_goals (exact isB_eq (decide_eq_true (ext_cf (by rw [vals_len, vals_len]; exact hll) fun j hj => hq j (by rw [vals_len] at hj; omega))).symm)
set_option maxHeartbeats 4000000 in
theorem zmat_Same {r c r2 c2 : Int} {xs ys : List (Bool × List Nat)} {K : Nat} (hx : Bd (vals xs) K) (hy : Bd (vals ys) K) (hK : K ≤ 4000000000) : Ctr Try.prog 59 [isM r c xs, isM r2 c2 ys] (isB (formB r c xs.length && formB r2 c2 ys.length && decide (r = r2) && decide (c = c2) && decide (vals xs = vals ys))) := by
  refine Ctr.intro Try.func59 rfl (by kernel_rfl) Try.ntmps59 rfl fun w0 F0 => ?_
  refine Tri.cv (Cv.wk (.cons (t := 0) (Has.t rfl) (.cons (t := 1) (Has.t rfl) .nil))) ?_
  refine Tri.seq fun K1 hK1 => ?_
  refine Tri.region ?_
  refine Ops.box (Has.t rfl) rfl fun b1 => ?_
  refine Ops.box (Has.t rfl) rfl fun b2 => ?_
  refine st (OK1.as (Has.cB false)) rfl ?_
  refine nl ?_
  refine At.thn (hK1 _ _ ?_); clear hK1
  refine Tri.seq fun K2 hK2 => ?_
  refine Tri.region ?_
  refine st (OK1.load (Has.t rfl) (i := 1) rfl ty63 rfl (Ss' := [_, _, _]) rfl) rfl ?_
  refine st (OK1.load (Has.t rfl) (i := 0) rfl ty63 rfl (Ss' := [_, _, _]) rfl) rfl ?_
  refine st (OK1.call (zmat_alike) (.cons (Has.t rfl) (.cons (Has.t rfl) .nil))) rfl ?_
  refine st (OK1.mv (Has.t rfl)) rfl ?_
  refine stT rfl rfl (fun hg => have hg' := BP.t hg; OK1.fieldAddr (Has.t rfl) fld63_2 ty61) rfl ?_
  refine stT rfl rfl (fun hg => have hg' := BP.t hg; OK1.load1 (Has.g rfl hg) (i := 1) rfl ty61 rfl) rfl ?_
  refine stT rfl rfl (fun hg => have hg' := BP.t hg; OK1.fieldAddr (Has.t rfl) fld63_2 ty61) rfl ?_
  refine stT rfl rfl (fun hg => have hg' := BP.t hg; OK1.load1 (Has.g rfl hg) (i := 0) rfl ty61 rfl) rfl ?_
  refine stT rfl rfl (fun hg => have hg' := BP.t hg; OK1.call (sl_EqualFuncZ hx hy) (.cons (Has.g rfl hg) (.cons (Has.g rfl hg) (.cons (Has.fn (fun i => zint_Same (by have := i.2.1; omega) (by have := i.2.2; omega))) .nil)))) rfl ?_
  refine st (OK1.pickAnd (Has.t rfl) (fun h => Has.g rfl h)) rfl ?_
  refine st (OK1.as (Has.t rfl)) rfl ?_
  refine nl ?_
  refine At.thn (hK2 _ _ ?_); clear hK2
  refine Tri.cv (Cv.wk (.cons (t := 4) (Has.t rfl) .nil)) ?_
  refine Tri.ret ?_
  refine rt1 (.inl rfl) Try.results59 rfl (.tmp (Has.t' rfl ?_) .nil)
  all_goals (rfl)
end Go.Proofs.Ytiieaohnpnojmaa
/- Contracts: stacks, lattices. -/
namespace Go.Proofs.Ytiieaohnpnojmaa
open Go.En Go.RowKit
set_option linter.unusedVariables false
set_option maxRecDepth 10000
open Go.Nt
open Go.Pz
open Go.Mz
open Go.Hn
open Go.Hp
open Go.Dt
set_option maxHeartbeats 4000000 in
theorem zmat_Rows_1 {r : Int} {C i k lo : Nat} {xs : List (Bool × List Nat)} (hxm : xs.length ≤ 4096) (hlo : lo + i ≤ 100) (hp : (lo + i) * C + k < xs.length) : Ctr Try.prog 184 [isI (i : Int), isI (k : Int), ptM r (C : Int) xs, PtrL [isI (lo : Int)]] (Flat (zc (xs.getD ((lo + i) * C + k) (false, [])))) := by
  refine Ctr.intro Try.func184 rfl (by kernel_rfl) Try.ntmps184 rfl fun w0 F0 => ?_
  refine Tri.cv (Cv.wk (.cons (t := 0) (Has.t rfl) (.cons (t := 1) (Has.t rfl) (.cons (t := 2) (Has.t rfl) (.cons (t := 3) (Has.t rfl) .nil))))) ?_
  refine Tri.fact (Has.rngI (Has.t (t := 0) rfl)) fun lt0 => ?_
  refine Tri.fact (Has.rngI (Has.t (t := 1) rfl)) fun lt1 => ?_
  refine Tri.seq fun K1 hK1 => ?_
  refine Tri.region ?_
  refine Ops.alloc [isB false, SlM isU []] zero72 (fun _ _ => ⟨rfl, nilM _ _, trivial⟩) rfl fun b1 => ?_
  refine nl ?_
  refine At.thn (hK1 _ _ ?_); clear hK1
  refine Tri.seq fun K2 hK2 => ?_
  refine Tri.region ?_
  refine st (OK1.loadP (Has.t rfl) ty63 rfl (Ss' := [_, _, _]) rfl) rfl ?_
  refine st (OK1.loadP1 (Has.t rfl) ty3) rfl ?_
  refine st (OK1.mv (Has.t rfl)) rfl ?_
  refine st (OK1.eq (OK1.addI (Has.t rfl) (Has.t rfl) (by first | omega | assumption) (by first | omega | assumption)) ((show isI _ = isI ((lo + i : Nat) : Int) from isI_eq (by omega)))) rfl ?_
  refine st (OK1.mv (Has.t rfl)) rfl ?_
  refine st (OK1.call (zmat_get (i := lo + i) (k := k) hxm hp) (.cons (Has.t rfl) (.cons (Has.t rfl) (.cons (Has.t rfl) .nil)))) rfl ?_
  refine Ops.store (Has.t rfl) (Has.t rfl) (i := 0) rfl ty72 rfl rfl (Ss' := [_, _]) rfl (M' := [(some _, cellM [_, _])]) rfl ?_
  refine nl ?_
  refine At.thn (hK2 _ _ ?_); clear hK2
  refine Tri.cv (Cv.wk (.cons (t := 6) (Has.t rfl) .nil)) ?_
  refine Tri.ret ?_
  refine rt1 (.inl rfl) Try.results184 rfl (.cell rfl (i := 0) rfl ty72 rfl ?_ .nil)
  all_goals (rfl)
set_option maxHeartbeats 4000000 in
theorem zmat_Rows {R C K lo hi : Nat} {xs : List (Bool × List Nat)} (hx : Bd (vals xs) K) (hK : K ≤ 400000000) (hR : R ≤ 64) (hC : C ≤ 64) (hl : xs.length = R * C) (h1 : lo ≤ hi) (h2 : hi ≤ R) : Ctr Try.prog 147 [isM (R : Int) (C : Int) xs, isI (lo : Int), isI (hi : Int)] (isTup [isMz ((hi - lo : Nat)) C (tab ((hi - lo) * C) C fun i k => cf (vals xs) ((lo + i) * C + k)), isI 0]) := by
  refine Ctr.intro Try.func147 rfl (by kernel_rfl) Try.ntmps147 rfl fun w0 F0 => ?_
  refine Tri.cv (Cv.wk (.cons (t := 0) (Has.t rfl) (.cons (t := 1) (Has.t rfl) (.cons (t := 2) (Has.t rfl) .nil)))) ?_
  refine Tri.fact (Has.rngI (Has.t (t := 1) rfl)) fun lt1 => ?_
  refine Tri.fact (Has.rngI (Has.t (t := 2) rfl)) fun lt2 => ?_
  have hRC := side_le hR hC
  have hfo := formB_true hR hC hl
  refine Tri.seq fun K1 hK1 => ?_
  refine Tri.region ?_
  refine Ops.box (Has.t rfl) rfl fun b1 => ?_
  refine Ops.box (Has.t rfl) rfl fun b2 => ?_
  refine Ops.alloc [isI 0, isI 0, nilS] zero63 (fun _ _ => ⟨⟨rfl, by decide, by decide⟩, ⟨rfl, by decide, by decide⟩, rfl, trivial⟩) rfl fun b3 => ?_
  refine st (OK1.as (Has.cI 0 rfl)) rfl ?_
  refine nl ?_
  refine At.thn (hK1 _ _ ?_); clear hK1
  refine Tri.seq fun K2 hK2 => ?_
  refine Tri.block ?_
  refine Tri.seq fun K3 hK3 => ?_
  refine Tri.region ?_
  refine st (OK1.load (Has.t rfl) (i := 2) rfl ty63 rfl (Ss' := [_, _, _]) rfl) rfl ?_
  refine st (OK1.eq (OK1.call (zmat_Formed) (.cons (Has.t rfl) .nil)) ((show isB _ = isB true from isB_eq (hfo)))) rfl ?_
  refine st (OK1.not (Has.t rfl)) rfl ?_
  refine st (OK1.as (Has.t rfl)) rfl ?_
  refine nl ?_
  refine At.thn (hK3 _ _ ?_); clear hK3
  refine Tri.cv (Cv.wk (.cons (t := 2) (Has.t rfl) (.cons (t := 3) (Has.t rfl) (.cons (t := 4) (Has.t rfl) (.cons (t := 6) (Has.t rfl) (.cons (t := 7) (Has.t rfl) (.cons (t := 8) (Has.t rfl) .nil))))))) ?_
  refine Tri.cond (Has.t rfl) (fun hc1 => ?_) (fun hc1 => ?_)
  · have hc1 := BP.t hc1
    exfalso; simp at hc1
  · have hc1 := BP.f hc1
    refine Tri.seq fun K4 hK4 => ?_
    refine Tri.region ?_
    refine st (OK1.load1 (Has.t rfl) (i := 1) rfl ty3 rfl) rfl ?_
    refine st (OK1.ltI (Has.t rfl) (Has.cI 0 rfl)) rfl ?_
    refine st (OK1.mv (Has.t rfl)) rfl ?_
    refine stF rfl rfl (fun hg => have hg' := BP.t hg; OK1.load1 (Has.t rfl) (i := 1) rfl ty3 rfl) rfl ?_
    refine stF rfl rfl (fun hg => have hg' := BP.t hg; OK1.mv (Has.t rfl)) rfl ?_
    refine stF rfl rfl (fun hg => have hg' := BP.t hg; OK1.gtI (Has.g rfl hg) (Has.g rfl hg)) rfl ?_
    refine st (OK1.pickOr (Has.t rfl) (fun h => Has.g rfl (ng h))) rfl ?_
    refine st (OK1.mv (Has.t rfl)) rfl ?_
    refine stF rfl rfl (fun hg => have hg' := BP.t hg; OK1.mv (Has.t rfl)) rfl ?_
    refine stF rfl rfl (fun hg => have hg' := BP.t hg; OK1.fieldAddr (Has.t rfl) fld63_0 ty3) rfl ?_
    refine stF rfl rfl (fun hg => have hg' := BP.t hg; OK1.load1 (Has.g rfl hg) (i := 2) rfl ty3 rfl) rfl ?_
    refine stF rfl rfl (fun hg => have hg' := BP.t hg; OK1.gtI (Has.g rfl hg) (Has.g rfl hg)) rfl ?_
    refine st (OK1.pickOr (Has.t rfl) (fun h => Has.g rfl (ng h))) rfl ?_
    refine st (OK1.as (Has.t rfl)) rfl ?_
    refine nl ?_
    refine At.thn (hK4 _ _ ?_); clear hK4
    refine Tri.cv (Cv.wk (.cons (t := 2) (Has.t rfl) (.cons (t := 3) (Has.t rfl) (.cons (t := 4) (Has.t rfl) (.cons (t := 6) (Has.t rfl) (.cons (t := 7) (Has.t rfl) (.cons (t := 13) (Has.t rfl) .nil))))))) ?_
    refine Tri.cond (Has.t rfl) (fun hc2 => ?_) (fun hc2 => ?_)
    · have hc2 := BP.t hc2
      exfalso; omega
    · have hc2 := BP.f hc2
      refine Tri.skip ?_
      refine At.bln ?_
      refine At.thn (hK2 _ _ ?_); clear hK2
      refine Tri.seq fun K5 hK5 => ?_
      refine Tri.region ?_
      refine st (OK1.mv (Has.t rfl)) rfl ?_
      refine st (OK1.load1 (Has.t rfl) (i := 1) rfl ty3 rfl) rfl ?_
      refine st (OK1.eq (OK1.subI (Has.t rfl) (Has.t rfl) (by first | omega | assumption) (by first | omega | assumption)) ((show isI _ = isI ((hi - lo : Nat) : Int) from isI_eq (by omega)))) rfl ?_
      refine st (OK1.fieldAddr (Has.t rfl) fld63_1 ty3) rfl ?_
      refine st (OK1.load1 (Has.t rfl) (i := 2) rfl ty3 rfl) rfl ?_
      refine Ops.cv (Cv.freezeBox (t := 3) (i := 2) rfl rfl rfl) ?_
      refine Ops.memEq (M' := [_, _]) rfl ?_
      refine Ops.cv (Cv.wk (.cons (t := 2) (Has.t rfl) (.cons (t := 3) (Has.t rfl) (.cons (t := 4) (Has.t rfl) (.cons (t := 6) (Has.t rfl) (.cons (t := 7) (Has.t rfl) (.cons (t := 13) (Has.t rfl) (.cons (t := 28) (Has.t rfl) (.cons (t := 29) (Has.t rfl) (.cons (t := 30) (Has.t rfl) (.cons (t := 32) (Has.t rfl) .nil))))))))))) ?_
      refine Ops.cv (Cv.freezeBox (t := 4) (i := 1) rfl rfl rfl) ?_
      refine Ops.memEq (M' := [_]) rfl ?_
      refine Ops.cv (Cv.wk (.cons (t := 2) (Has.t rfl) (.cons (t := 3) (Has.t rfl) (.cons (t := 4) (Has.t rfl) (.cons (t := 6) (Has.t rfl) (.cons (t := 7) (Has.t rfl) (.cons (t := 13) (Has.t rfl) (.cons (t := 28) (Has.t rfl) (.cons (t := 29) (Has.t rfl) (.cons (t := 30) (Has.t rfl) (.cons (t := 32) (Has.t rfl) .nil))))))))))) ?_
      refine st (OK1.makeFn (ι := PI (hi - lo) C) (As := fun p => [isI (p.1.1 : Int), isI (p.1.2 : Int)]) (R := fun p => Flat (zc (xs.getD ((lo + p.1.1) * C + p.1.2) (false, [])))) (fun p => zmat_Rows_1 (by omega) (by have := p.2.1; omega) (by have := place_lt (show lo + p.1.1 < R by have := p.2.1; omega) p.2.2; omega)) .nil (.cons (Has.t rfl) (.cons (Has.t rfl) .nil))) rfl ?_
      refine st (OK1.call (zmat_made (f := fun i k => xs.getD ((lo + i) * C + k) (false, [])) (by omega) hC (fun i k _ _ => Nat.le_trans (hx.raw _) (by omega))) (.cons (Has.t rfl) (.cons (Has.t rfl) (.cons (Has.t rfl) .nil)))) rfl ?_
      refine Ops.store (Has.t rfl) (Has.t rfl) (i := 0) rfl ty63 rfl rfl (Ss' := [_, _, _]) rfl (M' := [(some _, cellM [_, _, _])]) rfl ?_
      refine st (OK1.as (Has.cI 0 rfl)) rfl ?_
      refine nl ?_
      refine At.thn (hK5 _ _ ?_); clear hK5
      refine Tri.cv (Cv.wk (.cons (t := 6) (Has.t rfl) (.cons (t := 7) (Has.t rfl) .nil))) ?_
      refine Tri.ret ?_
      refine rtN (.inl rfl) Try.results147 rfl rfl (.cell rfl (i := 0) rfl ty63 rfl ?_ (.tmp (Has.t' rfl ?_) .nil))
      · exact isMz_eq (by congr 1; funext i k; rw [cf_vals])
      · rfl
set_option maxHeartbeats 4000000 in
theorem zmat_Stack_1 {R R' C i k : Nat} {xs ys : List (Bool × List Nat)} (hxm : xs.length ≤ 4096) (hym : ys.length ≤ 4096) (hxl : xs.length = R * C) (hyl : ys.length = R' * C) (hi : i < R + R') (hk : k < C) : Ctr Try.prog 146 [isI (i : Int), isI (k : Int), ptM (R : Int) (C : Int) xs, ptM (R' : Int) (C : Int) ys] (Flat (zc (if i < R then xs.getD (i * C + k) (false, []) else ys.getD ((i - R) * C + k) (false, [])))) := by
  refine Ctr.intro Try.func146 rfl (by kernel_rfl) Try.ntmps146 rfl fun w0 F0 => ?_
  refine Tri.cv (Cv.wk (.cons (t := 0) (Has.t rfl) (.cons (t := 1) (Has.t rfl) (.cons (t := 2) (Has.t rfl) (.cons (t := 3) (Has.t rfl) .nil))))) ?_
  refine Tri.fact (Has.rngI (Has.t (t := 0) rfl)) fun lt0 => ?_
  refine Tri.fact (Has.rngI (Has.t (t := 1) rfl)) fun lt1 => ?_
  refine Tri.seq fun K1 hK1 => ?_
  refine Tri.region ?_
  refine Ops.alloc [isB false, SlM isU []] zero72 (fun _ _ => ⟨rfl, nilM _ _, trivial⟩) rfl fun b1 => ?_
  refine nl ?_
  refine At.thn (hK1 _ _ ?_); clear hK1
  refine Tri.seq fun K2 hK2 => ?_
  refine Tri.seq fun K3 hK3 => ?_
  refine Tri.region ?_
  refine st (OK1.mv (Has.t rfl)) rfl ?_
  refine st (OK1.fieldAddrP (Has.t rfl) fld63_0 ty3 (Ss' := [_, _, _]) rfl) rfl ?_
  refine st (OK1.loadP1 (Has.t rfl) ty3) rfl ?_
  refine st (OK1.ltI (Has.t rfl) (Has.t rfl)) rfl ?_
  refine nl ?_
  refine At.thn (hK3 _ _ ?_); clear hK3
  refine Tri.cond (Has.t rfl) (fun hc1 => ?_) (fun hc1 => ?_)
  · have hc1 := BP.t hc1
    refine Tri.seq fun K4 hK4 => ?_
    refine Tri.region ?_
    refine st (OK1.loadP (Has.t rfl) ty63 rfl (Ss' := [_, _, _]) rfl) rfl ?_
    refine st (OK1.mv (Has.t rfl)) rfl ?_
    refine st (OK1.mv (Has.t rfl)) rfl ?_
    refine st (OK1.call (zmat_get (i := i) (k := k) hxm (by have := place_lt (show i < R by omega) hk; omega)) (.cons (Has.t rfl) (.cons (Has.t rfl) (.cons (Has.t rfl) .nil)))) rfl ?_
    refine Ops.store (Has.t rfl) (Has.t rfl) (i := 0) rfl ty72 rfl rfl (Ss' := [_, _]) rfl (M' := [(some _, cellM [_, _])]) rfl ?_
    refine nl ?_
    refine At.thn (hK4 _ _ ?_); clear hK4
    refine Tri.cv (Cv.wk (.cons (t := 0) (Has.t rfl) (.cons (t := 1) (Has.t rfl) (.cons (t := 2) (Has.t rfl) (.cons (t := 3) (Has.t rfl) (.cons (t := 6) (Has.t rfl) .nil)))))) ?_
    refine Tri.ret ?_
    refine At.thr ?_
    refine rt1 (.inl rfl) Try.results146 rfl (.cell rfl (i := 0) rfl ty72 rfl ?_ .nil)
    all_goals (rw [if_pos (by omega)])
  · have hc1 := BP.f hc1
    refine Tri.skip ?_
    refine At.thn (hK2 _ _ ?_); clear hK2
    refine Tri.seq fun K5 hK5 => ?_
    refine Tri.region ?_
    refine st (OK1.loadP (Has.t rfl) ty63 rfl (Ss' := [_, _, _]) rfl) rfl ?_
    refine st (OK1.mv (Has.t rfl)) rfl ?_
    refine st (OK1.fieldAddrP (Has.t rfl) fld63_0 ty3 (Ss' := [_, _, _]) rfl) rfl ?_
    refine st (OK1.loadP1 (Has.t rfl) ty3) rfl ?_
    refine st (OK1.eq (OK1.subI (Has.t rfl) (Has.t rfl) (by first | omega | assumption) (by first | omega | assumption)) ((show isI _ = isI ((i - R : Nat) : Int) from isI_eq (by omega)))) rfl ?_
    refine st (OK1.mv (Has.t rfl)) rfl ?_
    refine st (OK1.call (zmat_get (i := i - R) (k := k) hym (by have := place_lt (show i - R < R' by omega) hk; omega)) (.cons (Has.t rfl) (.cons (Has.t rfl) (.cons (Has.t rfl) .nil)))) rfl ?_
    refine Ops.store (Has.t rfl) (Has.t rfl) (i := 0) rfl ty72 rfl rfl (Ss' := [_, _]) rfl (M' := [(some _, cellM [_, _])]) rfl ?_
    refine nl ?_
    refine At.thn (hK5 _ _ ?_); clear hK5
    refine Tri.cv (Cv.wk (.cons (t := 6) (Has.t rfl) .nil)) ?_
    refine Tri.ret ?_
    refine rt1 (.inl rfl) Try.results146 rfl (.cell rfl (i := 0) rfl ty72 rfl ?_ .nil)
    all_goals (rw [if_neg (by omega)])
set_option maxHeartbeats 4000000 in
theorem zmat_Stack {R R' C K : Nat} {xs ys : List (Bool × List Nat)} (hx : Bd (vals xs) K) (hy : Bd (vals ys) K) (hK : K ≤ 400000000) (hR : R + R' ≤ 64) (hC : C ≤ 64) (hl : xs.length = R * C) (hyl : ys.length = R' * C) : Ctr Try.prog 72 [isM (R : Int) (C : Int) xs, isM (R' : Int) (C : Int) ys] (isTup [isMz ((R + R' : Nat)) C (stkL R R' C (vals xs) (vals ys)), isI 0]) := by
  refine Ctr.intro Try.func72 rfl (by kernel_rfl) Try.ntmps72 rfl fun w0 F0 => ?_
  refine Tri.cv (Cv.wk (.cons (t := 0) (Has.t rfl) (.cons (t := 1) (Has.t rfl) .nil))) ?_
  have h1 := side_le (show R ≤ 64 by omega) hC
  have h2 := side_le (show R' ≤ 64 by omega) hC
  have hfo := formB_true (show R ≤ 64 by omega) hC hl
  have hfo' := formB_true (show R' ≤ 64 by omega) hC hyl
  refine Tri.seq fun K1 hK1 => ?_
  refine Tri.region ?_
  refine Ops.box (Has.t rfl) rfl fun b1 => ?_
  refine Ops.box (Has.t rfl) rfl fun b2 => ?_
  refine Ops.alloc [isI 0, isI 0, nilS] zero63 (fun _ _ => ⟨⟨rfl, by decide, by decide⟩, ⟨rfl, by decide, by decide⟩, rfl, trivial⟩) rfl fun b3 => ?_
  refine st (OK1.as (Has.cI 0 rfl)) rfl ?_
  refine nl ?_
  refine At.thn (hK1 _ _ ?_); clear hK1
  refine Tri.seq fun K2 hK2 => ?_
  refine Tri.block ?_
  refine Tri.seq fun K3 hK3 => ?_
  refine Tri.region ?_
  refine st (OK1.load (Has.t rfl) (i := 2) rfl ty63 rfl (Ss' := [_, _, _]) rfl) rfl ?_
  refine st (OK1.eq (OK1.call (zmat_Formed) (.cons (Has.t rfl) .nil)) ((show isB _ = isB true from isB_eq (hfo)))) rfl ?_
  refine st (OK1.not (Has.t rfl)) rfl ?_
  refine st (OK1.mv (Has.t rfl)) rfl ?_
  refine stF rfl rfl (fun hg => have hg' := BP.t hg; OK1.load (Has.t rfl) (i := 1) rfl ty63 rfl (Ss' := [_, _, _]) rfl) rfl ?_
  refine stF rfl rfl (fun hg => have hg' := BP.t hg; OK1.eq (OK1.call (zmat_Formed) (.cons (Has.g rfl hg) .nil)) ((show isB _ = isB true from isB_eq (hfo')))) rfl ?_
  refine stF rfl rfl (fun hg => have hg' := BP.t hg; OK1.not (Has.g rfl hg)) rfl ?_
  refine st (OK1.pickOr (Has.t rfl) (fun h => Has.g rfl (ng h))) rfl ?_
  refine st (OK1.mv (Has.t rfl)) rfl ?_
  refine stF rfl rfl (fun hg => have hg' := BP.t hg; OK1.fieldAddr (Has.t rfl) fld63_1 ty3) rfl ?_
  refine stF rfl rfl (fun hg => have hg' := BP.t hg; OK1.load1 (Has.g rfl hg) (i := 2) rfl ty3 rfl) rfl ?_
  refine stF rfl rfl (fun hg => have hg' := BP.t hg; OK1.fieldAddr (Has.t rfl) fld63_1 ty3) rfl ?_
  refine stF rfl rfl (fun hg => have hg' := BP.t hg; OK1.load1 (Has.g rfl hg) (i := 1) rfl ty3 rfl) rfl ?_
  refine stF rfl rfl (fun hg => have hg' := BP.t hg; OK1.neI (Has.g rfl hg) (Has.g rfl hg)) rfl ?_
  refine st (OK1.pickOr (Has.t rfl) (fun h => Has.g rfl (ng h))) rfl ?_
  refine st (OK1.as (Has.t rfl)) rfl ?_
  refine nl ?_
  refine At.thn (hK3 _ _ ?_); clear hK3
  refine Tri.cv (Cv.wk (.cons (t := 2) (Has.t rfl) (.cons (t := 3) (Has.t rfl) (.cons (t := 4) (Has.t rfl) (.cons (t := 5) (Has.t rfl) (.cons (t := 6) (Has.t rfl) .nil)))))) ?_
  refine Tri.cond (Has.t rfl) (fun hc1 => ?_) (fun hc1 => ?_)
  · have hc1 := BP.t hc1
    exfalso; simp at hc1
  · have hc1 := BP.f hc1
    refine Tri.seq fun K4 hK4 => ?_
    refine Tri.region ?_
    refine st (OK1.fieldAddr (Has.t rfl) fld63_0 ty3) rfl ?_
    refine st (OK1.load1 (Has.t rfl) (i := 2) rfl ty3 rfl) rfl ?_
    refine st (OK1.fieldAddr (Has.t rfl) fld63_0 ty3) rfl ?_
    refine st (OK1.load1 (Has.t rfl) (i := 1) rfl ty3 rfl) rfl ?_
    refine st (OK1.eq (OK1.addI (Has.t rfl) (Has.t rfl) (by first | omega | assumption) (by first | omega | assumption)) ((show isI _ = isI ((R + R' : Nat) : Int) from isI_eq (by omega)))) rfl ?_
    refine st (OK1.call (zmat_side) (.cons (Has.t rfl) .nil)) rfl ?_
    refine st (OK1.not (Has.t rfl)) rfl ?_
    refine st (OK1.as (Has.t rfl)) rfl ?_
    refine nl ?_
    refine At.thn (hK4 _ _ ?_); clear hK4
    refine Tri.cv (Cv.wk (.cons (t := 2) (Has.t rfl) (.cons (t := 3) (Has.t rfl) (.cons (t := 4) (Has.t rfl) (.cons (t := 5) (Has.t rfl) (.cons (t := 23) (Has.t rfl) .nil)))))) ?_
    refine Tri.cond (Has.t rfl) (fun hc2 => ?_) (fun hc2 => ?_)
    · have hc2 := BP.t hc2
      exfalso; simp at hc2; omega
    · have hc2 := BP.f hc2
      refine Tri.skip ?_
      refine At.bln ?_
      refine At.thn (hK2 _ _ ?_); clear hK2
      refine Tri.seq fun K5 hK5 => ?_
      refine Tri.region ?_
      refine st (OK1.fieldAddr (Has.t rfl) fld63_0 ty3) rfl ?_
      refine st (OK1.load1 (Has.t rfl) (i := 2) rfl ty3 rfl) rfl ?_
      refine st (OK1.fieldAddr (Has.t rfl) fld63_0 ty3) rfl ?_
      refine st (OK1.load1 (Has.t rfl) (i := 1) rfl ty3 rfl) rfl ?_
      refine st (OK1.eq (OK1.addI (Has.t rfl) (Has.t rfl) (by first | omega | assumption) (by first | omega | assumption)) ((show isI _ = isI ((R + R' : Nat) : Int) from isI_eq (by omega)))) rfl ?_
      refine st (OK1.fieldAddr (Has.t rfl) fld63_1 ty3) rfl ?_
      refine st (OK1.load1 (Has.t rfl) (i := 2) rfl ty3 rfl) rfl ?_
      refine Ops.cv (Cv.freezeBox (t := 2) (i := 2) rfl rfl rfl) ?_
      refine Ops.memEq (M' := [_, _]) rfl ?_
      refine Ops.cv (Cv.wk (.cons (t := 2) (Has.t rfl) (.cons (t := 3) (Has.t rfl) (.cons (t := 4) (Has.t rfl) (.cons (t := 5) (Has.t rfl) (.cons (t := 23) (Has.t rfl) (.cons (t := 33) (Has.t rfl) (.cons (t := 34) (Has.t rfl) (.cons (t := 35) (Has.t rfl) (.cons (t := 36) (Has.t rfl) (.cons (t := 38) (Has.t rfl) .nil))))))))))) ?_
      refine Ops.cv (Cv.freezeBox (t := 3) (i := 1) rfl rfl rfl) ?_
      refine Ops.memEq (M' := [_]) rfl ?_
      refine Ops.cv (Cv.wk (.cons (t := 2) (Has.t rfl) (.cons (t := 3) (Has.t rfl) (.cons (t := 4) (Has.t rfl) (.cons (t := 5) (Has.t rfl) (.cons (t := 23) (Has.t rfl) (.cons (t := 33) (Has.t rfl) (.cons (t := 35) (Has.t rfl) (.cons (t := 36) (Has.t rfl) (.cons (t := 38) (Has.t rfl) .nil)))))))))) ?_
      refine st (OK1.makeFn (ι := PI (R + R') C) (As := fun p => [isI (p.1.1 : Int), isI (p.1.2 : Int)]) (R := fun p => Flat (zc (if p.1.1 < R then xs.getD (p.1.1 * C + p.1.2) (false, []) else ys.getD ((p.1.1 - R) * C + p.1.2) (false, [])))) (fun p => zmat_Stack_1 (by omega) (by omega) hl hyl p.2.1 p.2.2) .nil (.cons (Has.t rfl) (.cons (Has.t rfl) .nil))) rfl ?_
      refine st (OK1.call (zmat_made (f := fun i k => if i < R then xs.getD (i * C + k) (false, []) else ys.getD ((i - R) * C + k) (false, [])) (by omega) hC (fun i k _ _ => by split; exact Nat.le_trans (hx.raw _) (by omega); exact Nat.le_trans (hy.raw _) (by omega))) (.cons (Has.t rfl) (.cons (Has.t rfl) (.cons (Has.t rfl) .nil)))) rfl ?_
      refine Ops.store (Has.t rfl) (Has.t rfl) (i := 0) rfl ty63 rfl rfl (Ss' := [_, _, _]) rfl (M' := [(some _, cellM [_, _, _])]) rfl ?_
      refine st (OK1.as (Has.cI 0 rfl)) rfl ?_
      refine nl ?_
      refine At.thn (hK5 _ _ ?_); clear hK5
      refine Tri.cv (Cv.wk (.cons (t := 4) (Has.t rfl) (.cons (t := 5) (Has.t rfl) .nil))) ?_
      refine Tri.ret ?_
      refine rtN (.inl rfl) Try.results72 rfl rfl (.cell rfl (i := 0) rfl ty63 rfl ?_ (.tmp (Has.t' rfl ?_) .nil))
      · exact isMz_eq (by unfold stkL; congr 1; funext i k; rw [cf_vals, cf_vals]; split <;> rfl)
      · rfl
set_option maxHeartbeats 4000000 in
theorem zmat_Mul_bad {R C C' D : Nat} {xs ys : List (Bool × List Nat)} (hR : R ≤ 64) (hC : C ≤ 64) (hC' : C' ≤ 64) (hD : D ≤ 64) (hl : xs.length = R * C) (hyl : ys.length = C' * D) (hne : C ≠ C') : Ctr Try.prog 66 [isM (R : Int) (C : Int) xs, isM (C' : Int) (D : Int) ys] (isTup [isM0, isI 2]) := by
  refine Ctr.intro Try.func66 rfl (by kernel_rfl) Try.ntmps66 rfl fun w0 F0 => ?_
  refine Tri.cv (Cv.wk (.cons (t := 0) (Has.t rfl) (.cons (t := 1) (Has.t rfl) .nil))) ?_
  have hfo := formB_true hR hC hl
  have hfo' := formB_true hC' hD hyl
  refine Tri.seq fun K1 hK1 => ?_
  refine Tri.region ?_
  refine Ops.box (Has.t rfl) rfl fun b1 => ?_
  refine Ops.box (Has.t rfl) rfl fun b2 => ?_
  refine Ops.alloc [isI 0, isI 0, SlK 2 zc ([] : List (Bool × List Nat))] zero63 (fun _ _ => ⟨⟨rfl, by decide, by decide⟩, ⟨rfl, by decide, by decide⟩, nilK, trivial⟩) rfl fun b3 => ?_
  refine st (OK1.as (Has.cI 0 rfl)) rfl ?_
  refine nl ?_
  refine At.thn (hK1 _ _ ?_); clear hK1
  refine Tri.seq fun K2 hK2 => ?_
  refine Tri.seq fun K3 hK3 => ?_
  refine Tri.region ?_
  refine st (OK1.load (Has.t rfl) (i := 2) rfl ty63 rfl (Ss' := [_, _, _]) rfl) rfl ?_
  refine st (OK1.eq (OK1.call (zmat_Formed) (.cons (Has.t rfl) .nil)) ((show isB _ = isB true from isB_eq (hfo)))) rfl ?_
  refine st (OK1.not (Has.t rfl)) rfl ?_
  refine st (OK1.mv (Has.t rfl)) rfl ?_
  refine stF rfl rfl (fun hg => have hg' := BP.t hg; OK1.load (Has.t rfl) (i := 1) rfl ty63 rfl (Ss' := [_, _, _]) rfl) rfl ?_
  refine stF rfl rfl (fun hg => have hg' := BP.t hg; OK1.eq (OK1.call (zmat_Formed) (.cons (Has.g rfl hg) .nil)) ((show isB _ = isB true from isB_eq (hfo')))) rfl ?_
  refine stF rfl rfl (fun hg => have hg' := BP.t hg; OK1.not (Has.g rfl hg)) rfl ?_
  refine st (OK1.pickOr (Has.t rfl) (fun h => Has.g rfl (ng h))) rfl ?_
  refine st (OK1.mv (Has.t rfl)) rfl ?_
  refine stF rfl rfl (fun hg => have hg' := BP.t hg; OK1.fieldAddr (Has.t rfl) fld63_1 ty3) rfl ?_
  refine stF rfl rfl (fun hg => have hg' := BP.t hg; OK1.load1 (Has.g rfl hg) (i := 2) rfl ty3 rfl) rfl ?_
  refine stF rfl rfl (fun hg => have hg' := BP.t hg; OK1.fieldAddr (Has.t rfl) fld63_0 ty3) rfl ?_
  refine stF rfl rfl (fun hg => have hg' := BP.t hg; OK1.load1 (Has.g rfl hg) (i := 1) rfl ty3 rfl) rfl ?_
  refine stF rfl rfl (fun hg => have hg' := BP.t hg; OK1.neI (Has.g rfl hg) (Has.g rfl hg)) rfl ?_
  refine st (OK1.pickOr (Has.t rfl) (fun h => Has.g rfl (ng h))) rfl ?_
  refine nl ?_
  refine At.thn (hK3 _ _ ?_); clear hK3
  refine Tri.cv (Cv.wk (.cons (t := 2) (Has.t rfl) (.cons (t := 3) (Has.t rfl) (.cons (t := 4) (Has.t rfl) (.cons (t := 5) (Has.t rfl) (.cons (t := 20) (Has.t rfl) .nil)))))) ?_
  refine Tri.cond (Has.t rfl) (fun hc1 => ?_) (fun hc1 => ?_)
  · have hc1 := BP.t hc1
    refine Tri.seq fun K4 hK4 => ?_
    refine Tri.region ?_
    refine st (OK1.build [isI 0, isI 0, SlK 2 zc ([] : List (Bool × List Nat))] pl63 zero63 (fun _ _ => ⟨⟨rfl, by decide, by decide⟩, ⟨rfl, by decide, by decide⟩, nilK, trivial⟩) .nil (Z'' := [_, _, _]) rfl) rfl ?_
    refine Ops.store (Has.t rfl) (Has.t rfl) (i := 0) rfl ty63 rfl rfl (Ss' := [_, _, _]) rfl (M' := [(some _, cellM [_, _, _]), _, _]) rfl ?_
    refine st (OK1.as (Has.cI 2 rfl)) rfl ?_
    refine nl ?_
    refine At.thn (hK4 _ _ ?_); clear hK4
    refine Tri.ret ?_
    refine At.thr ?_
    refine rtN (.inl rfl) Try.results66 rfl rfl (.cell rfl (i := 0) rfl ty63 rfl ?_ (.tmp (Has.t' rfl ?_) .nil))
    · rfl
    · rfl
  · have hc1 := BP.f hc1
    exfalso; simp at hc1; omega
set_option maxHeartbeats 4000000 in
theorem hnf_Lattice {R C K : Nat} {xs : List (Bool × List Nat)} (hx : Bd (vals xs) K) (hK : (K + 4) * (R + 2) ^ C ≤ 1000000) (hR : R ≤ 64) (hC : C ≤ 64) (hl : xs.length = R * C) : Ctr Try.prog 73 [isM (R : Int) (C : Int) xs] (isTup [isMz (pivL C (mf C (hL R C (vals xs))) R).length C (latL R C (vals xs)), isI 0]) := by
  refine Ctr.intro Try.func73 rfl (by kernel_rfl) Try.ntmps73 rfl fun w0 F0 => ?_
  refine Tri.cv (Cv.wk (.cons (t := 0) (Has.t rfl) .nil)) ?_
  have hpl := pivL_len C (mf C (hL R C (vals xs))) R
  obtain ⟨P, hP⟩ : ∃ P, P = (pivL C (mf C (hL R C (vals xs))) R).length := ⟨_, rfl⟩
  rw [← hP] at hpl
  have hlat : latL R C (vals xs) = tab (P * C) C fun i k => cf (hL R C (vals xs)) ((0 + i) * C + k) := by rw [hP]; rfl
  rw [← hP]
  obtain ⟨Hl, hHl⟩ : ∃ Hl, Hl = (hL R C (vals xs)) := ⟨_, rfl⟩
  have hLl : (Hl.map nz).length = R * C := by rw [List.length_map, hHl]; exact hL_len hx
  have hLb : Bd (vals (Hl.map nz)) 1000000 := by rw [vals_nz, hHl]; exact (hL_bd hx).mono hK
  rw [← hHl] at hlat hP
  refine Tri.seq fun K1 hK1 => ?_
  refine Tri.region ?_
  refine Ops.box (Has.t rfl) rfl fun b1 => ?_
  refine Ops.alloc [isI 0, isI 0, nilS] zero63 (fun _ _ => ⟨⟨rfl, by decide, by decide⟩, ⟨rfl, by decide, by decide⟩, rfl, trivial⟩) rfl fun b2 => ?_
  refine st (OK1.as (Has.cI 0 rfl)) rfl ?_
  refine nl ?_
  refine At.thn (hK1 _ _ ?_); clear hK1
  refine Tri.seq fun K2 hK2 => ?_
  refine Tri.region ?_
  refine st (OK1.load (Has.t rfl) (i := 1) rfl ty63 rfl (Ss' := [_, _, _]) rfl) rfl ?_
  refine st (OK1.eq (OK1.call (hnf_Hermite hx hK hR hC hl) (.cons (Has.t rfl) .nil)) ((show _ = isTup [isMz R C Hl, isMz R R (uL R C (vals xs)), isI 0] from by rw [hHl]; rfl))) rfl ?_
  refine st (OK1.mv (Has.t rfl)) rfl ?_
  refine st (OK1.ext (Has.t rfl) rfl) rfl ?_
  refine st (OK1.ext (Has.t rfl) rfl) rfl ?_
  refine st (OK1.ext (Has.t rfl) rfl) rfl ?_
  refine Ops.alloc [isI 0, isI 0, nilS] zero63 (fun _ _ => ⟨⟨rfl, by decide, by decide⟩, ⟨rfl, by decide, by decide⟩, rfl, trivial⟩) rfl fun b3 => ?_
  refine Ops.alloc [isI 0, isI 0, nilS] zero63 (fun _ _ => ⟨⟨rfl, by decide, by decide⟩, ⟨rfl, by decide, by decide⟩, rfl, trivial⟩) rfl fun b4 => ?_
  refine Ops.store (Has.t rfl) (Has.t rfl) (i := 1) rfl ty63 rfl rfl (Ss' := [_, _, _]) rfl (M' := [_, (some _, cellM [_, _, _]), _, _]) rfl ?_
  refine Ops.store (Has.t rfl) (Has.t rfl) (i := 0) rfl ty63 rfl rfl (Ss' := [_, _, _]) rfl (M' := [(some _, cellM [_, _, _]), _, _, _]) rfl ?_
  refine st (OK1.as (Has.t rfl)) rfl ?_
  refine nl ?_
  refine At.thn (hK2 _ _ ?_); clear hK2
  refine Tri.cv (Cv.wk (.cons (t := 2) (Has.t rfl) (.cons (t := 3) (Has.t rfl) (.cons (t := 4) (Has.t rfl) (.cons (t := 6) (Has.t rfl) .nil))))) ?_
  refine Tri.seq fun K3 hK3 => ?_
  refine Tri.seq fun K4 hK4 => ?_
  refine Tri.region ?_
  refine st (OK1.mv (Has.t rfl)) rfl ?_
  refine st (OK1.neI (Has.t rfl) (Has.cI 0 rfl)) rfl ?_
  refine nl ?_
  refine At.thn (hK4 _ _ ?_); clear hK4
  refine Tri.cond (Has.t rfl) (fun hc1 => ?_) (fun hc1 => ?_)
  · have hc1 := BP.t hc1
    exact absurd rfl hc1
  · have hc1 := BP.f hc1
    skip
    refine Tri.skip ?_
    refine At.thn (hK3 _ _ ?_); clear hK3
    refine Tri.seq fun K5 hK5 => ?_
    refine Tri.dr ?_
    refine DrG.st (i := 0) [] rfl rfl rfl (by kernel_rfl) (OKG.o rfl (OK1.load (Has.t rfl) (i := 1) rfl ty63 rfl (Ss' := [_, _, _]) rfl)) ?_
    refine DrG.st (i := 1) [] rfl rfl rfl (by kernel_rfl) (OKG.o rfl (OK1.load (Has.t rfl) (i := 1) rfl ty63 rfl (Ss' := [_, _, _]) rfl)) ?_
    refine DrG.st (i := 2) [18] rfl rfl rfl (by kernel_rfl) (OKG.o rfl (OK1.call (hnf_Pivots (K := 1000000) hLb (by decide) hR hC hLl) (.cons (Has.t rfl) .nil))) ?_
    refine DrG.st (i := 3) [19] rfl rfl rfl (by kernel_rfl) (OKG.o rfl (OK1.eq (OK1.len sl32 (Has.t rfl)) ((show isI _ = isI (P : Int) from isI_eq (by rw [pv_len, vals_nz, hP]))))) ?_
    refine DrG.st (i := 4) [17, 20] rfl rfl rfl (by kernel_rfl) (OKG.o rfl (OK1.call (zmat_Rows (K := 1000000) (lo := 0) (hi := P) hLb (by decide) hR hC hLl (Nat.zero_le _) hpl) (.cons (Has.t rfl) (.cons (Has.cI 0 rfl) (.cons (Has.t rfl) .nil))))) ?_
    refine DrG.st (i := 5) [21] rfl rfl rfl (by kernel_rfl) (OKG.o rfl (OK1.ext (Has.t rfl) rfl)) ?_
    refine DrG.st (i := 6) [21] rfl rfl rfl (by kernel_rfl) (OKG.o rfl (OK1.ext (Has.t rfl) rfl)) ?_
    refine DrG.fin (n := 7) mixed (by kernel_rfl) (by kernel_rfl) (by kernel_rfl) ?_
    refine Ops.cv (Cv.wk (.cons (t := 2) (Has.t rfl) (.cons (t := 3) (Has.t rfl) (.cons (t := 22) (Has.t rfl) (.cons (t := 23) (Has.t rfl) .nil))))) ?_
    refine Ops.store (Has.t rfl) (Has.t rfl) (i := 2) rfl ty63 rfl rfl (Ss' := [_, _, _]) rfl (M' := [_, _, (some _, cellM [_, _, _]), _]) rfl ?_
    refine st (OK1.as (Has.t rfl)) rfl ?_
    refine nl ?_
    refine At.thn (hK5 _ _ ?_); clear hK5
    refine Tri.ret ?_
    refine rtN (.inl rfl) Try.results73 rfl rfl (.cell rfl (i := 2) rfl ty63 rfl ?_ (.tmp (Has.t' rfl ?_) .nil))
    · exact (isMz_eq (by rw [vals_nz, hlat]; rfl))
    · rfl
end Go.Proofs.Ytiieaohnpnojmaa
