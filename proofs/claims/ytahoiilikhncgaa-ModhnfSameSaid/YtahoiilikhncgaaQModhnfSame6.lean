/- The law ModhnfSame, as it is stated, of the given program, for every input; no condition. -/
import Derived.Test.YtahoiilikhncgaaQModhnfSame5
import Derived.Deep.SlicePairs
import Derived.Test.YtahoiilikhncgaaRows
/- Contracts: rows to be brought into form. -/
namespace Go.Proofs.Ytahoiilikhncgaa
open Go.En Go.RowKit
set_option maxRecDepth 10000
set_option maxHeartbeats 4000000
open Go.Nt
open Go.Pz
open Go.Mz
open Go.Hn
theorem hnf_begun {R C K : Nat} {xs : List (Bool × List Nat)} (hx : Bd (vals xs) K) (hK : K ≤ 4000000000) (hR : R ≤ 64) (hC : C ≤ 64) (hl : xs.length = R * C) : CtrX Try.prog 49 [isM (R : Int) (C : Int) xs] ([]) (fun S M => ∃ bw gt, S = isPtr bw 0 ∧ M = hwM bw gt (rows0 C R (vals xs) R) C 0) := by
 refine CtrX.intro Try.func49 rfl (by kernel_rfl) Try.ntmps49 rfl fun w0 F0 => ?_
 refine .cv (Cv.wk (.k 0 rfl .nil)) ?_
 refine .seq fun _ k1 => .region (.box (.t rfl) rfl fun b1 => ?_)
 refine st (.as Has.cP) rfl ?_
 refine nl (.thn (k1 _ _ ?_)); clear k1
 refine .seq fun _ k2 => .region (st (.fieldAddr (.t rfl) fld24_1 ty3) rfl ?_)
 refine st (.load1 (.t rfl) (i := 0) rfl ty3 rfl) rfl ?_
 refine st (.build [nilS, isI 0, isI 0] pl77 zero77 (fun _ _ => ⟨rfl, ⟨rfl, by decide, by decide⟩, ⟨rfl, by decide, by decide⟩, trivial⟩) (.cons (.t rfl) rfl rfl rfl .nil) (Z'' := [_, _, _]) rfl) rfl ?_
 refine .box (.t rfl) rfl fun b2 => ?_
 refine st (.as (.t rfl)) rfl ?_
 refine nl (.thn (k2 _ _ ?_)); clear k2
 refine .cv (Cv.wk (.k 1 rfl (.k 2 rfl (.k 3 rfl .nil)))) ?_
 refine .seq fun _ k3 => ?_
 refine .seq fun _ k4 => ?_
 refine .cv (Cv.growF (List Int) (i := 0) (o := 0) rfl rfl rfl) ?_
 refine .memEq (M' := [grM isP Gr.nil [], _, _]) rfl ?_
 refine .region (st (.fieldAddr (.t rfl) fld24_0 ty3) rfl ?_)
 refine st (.load1 (.t rfl) (i := 2) rfl ty3 rfl) rfl ?_
 refine st (.mv (Has.cI 0 rfl)) rfl ?_
 refine nl (.thn (k4 _ _ ?_)); clear k4
 refine .block ?_
 refine .loopF [1, 2, 3, 12] (fun (z : { z : Nat × Gr (List Int) // z.1 ≤ R }) => match z with | ⟨(i, gt), hI⟩ => [(13, isI (i : Int))]) (fun M => fun (z : { z : Nat × Gr (List Int) // z.1 ≤ R }) => match z with | ⟨(i, gt), hI⟩ => (grM isP gt (rows0 C R (vals xs) i) :: (some b2, cellM [isGr gt (rows0 C R (vals xs) i).length, isI (C : Int), isI 0]) :: (some b1, cellM [isI (R : Int), isI (C : Int), SlK 2 zc xs]) :: [])) (fun (z : { z : Nat × Gr (List Int) // z.1 ≤ R }) => match z with | ⟨(i, gt), hI⟩ => R - i) (⟨(0, Gr.nil), Nat.zero_le _⟩) (Cv.mem (.cons (t := 13) (Has.t' rfl ?_) (.k 1 rfl (.k 2 rfl (.k 3 rfl (.k 12 rfl .nil))))) ?_) ?_
 ·rfl
 ·rfl
 rintro ⟨⟨i, gt⟩, hI⟩ K5 hK5
 refine .cv (Cv.wk (.k 13 rfl (.k 1 rfl (.k 2 rfl (.k 3 rfl (.k 12 rfl .nil)))))) ?_
 refine .memEq (M' := (grM isP gt (rows0 C R (vals xs) i) :: (some b2, cellM [isGr gt (rows0 C R (vals xs) i).length, isI (C : Int), isI 0]) :: (some b1, cellM [isI (R : Int), isI (C : Int), SlK 2 zc xs]) :: [])) rfl ?_
 simp only [] at hI
 have hrl := rows0_len C R (vals xs) i
 refine .seq fun _ k6 => .region (st (.ltI (.t rfl) (.t rfl)) rfl ?_)
 refine nl (.thn (k6 _ _ ?_)); clear k6
 refine .seq fun _ k7 => ?_
 refine .cond (.t rfl) (fun hc1 => ?_) (fun hc1 => ?_)
 ·have hc1 := BP.t hc1
  refine .skip ?_
  refine .thn (k7 _ _ ?_); clear k7
  refine .seq fun _ k8 => ?_
  refine .block ?_
  refine .seq fun _ k9 => .region (st (.mv (.t rfl)) rfl ?_)
  refine st (.as (.t rfl)) rfl ?_
  refine nl (.thn (k9 _ _ ?_)); clear k9
  refine .seq fun _ k10 => .region (st (.fieldAddr (.t rfl) fld24_1 ty3) rfl ?_)
  refine st (.load1 (.t rfl) (i := 2) rfl ty3 rfl) rfl ?_
  refine st (.fieldAddr (.t rfl) fld24_0 ty3) rfl ?_
  refine st (.load1 (.t rfl) (i := 2) rfl ty3 rfl) rfl ?_
  refine st (.eq (.addI (.t rfl) (.t rfl) (by first | omega | assumption) (by first | omega | assumption)) ((show isI _ = isI ((C + R : Nat) : Int) from isI_eq (by omega)))) rfl ?_
  refine .makeK (fk := zc) (u := (false, [])) (n := (C + R)) (c := (C + R)) sl22 ty32 zero32 (fun _ _ => ⟨rfl, nilM _ _, trivial⟩) zc_len by32 (Has.t' rfl rfl) (Has.t' rfl rfl) ⟨by omega, by omega⟩ rfl fun b3 => ?_
  refine st (.as (.t rfl)) rfl ?_
  refine nl (.thn (k10 _ _ ?_)); clear k10
  refine .seq fun _ k11 => ?_
  refine .seq fun _ k12 => .region (st (.fieldAddr (.t rfl) fld24_1 ty3) rfl ?_)
  refine st (.load1 (.t rfl) (i := 3) rfl ty3 rfl) rfl ?_
  refine st (.mv (Has.cI 0 rfl)) rfl ?_
  refine nl (.thn (k12 _ _ ?_)); clear k12
  refine .block ?_
  refine .loopF [1, 2, 3, 12, 13, 14, 15, 4, 16, 17, 18, 19, 20, 21, 5, 22, 23] (fun (z : { k : Nat // k ≤ C }) => match z with | ⟨k, hk⟩ => [(24, isI (k : Int))]) (fun M => fun (z : { k : Nat // k ≤ C }) => match z with | ⟨k, hk⟩ => ((some b3, cellM ((fill ((row0 C R (vals xs) i).map nz) k (false, [])).flatMap zc)) :: grM isP gt (rows0 C R (vals xs) i) :: (some b2, cellM [isGr gt (rows0 C R (vals xs) i).length, isI (C : Int), isI 0]) :: (some b1, cellM [isI (R : Int), isI (C : Int), SlK 2 zc xs]) :: [])) (fun (z : { k : Nat // k ≤ C }) => match z with | ⟨k, hk⟩ => C - k) (⟨0, Nat.zero_le _⟩) (Cv.mem (.cons (t := 24) (Has.t' rfl ?_) (.k 1 rfl (.k 2 rfl (.k 3 rfl (.k 12 rfl (.k 13 rfl (.k 14 rfl (.k 15 rfl (.k 4 rfl (.k 16 rfl (.k 17 rfl (.k 18 rfl (.k 19 rfl (.k 20 rfl (.k 21 rfl (.k 5 rfl (.k 22 rfl (.k 23 rfl .nil)))))))))))))))))) ?_) ?_
  ·rfl
  ·exact memZ_eq (by rw [fill_zero, List.length_map, row0_len])
  rintro ⟨k, hk⟩ K13 hK13
  refine .cv (Cv.wk (.k 24 rfl (.k 1 rfl (.k 2 rfl (.k 3 rfl (.k 12 rfl (.k 13 rfl (.k 14 rfl (.k 15 rfl (.k 4 rfl (.k 16 rfl (.k 17 rfl (.k 18 rfl (.k 19 rfl (.k 20 rfl (.k 21 rfl (.k 5 rfl (.k 22 rfl (.k 23 rfl .nil))))))))))))))))))) ?_
  refine .memEq (M' := ((some b3, cellM ((fill ((row0 C R (vals xs) i).map nz) k (false, [])).flatMap zc)) :: grM isP gt (rows0 C R (vals xs) i) :: (some b2, cellM [isGr gt (rows0 C R (vals xs) i).length, isI (C : Int), isI 0]) :: (some b1, cellM [isI (R : Int), isI (C : Int), SlK 2 zc xs]) :: [])) rfl ?_
  have hf := fill_len ((row0 C R (vals xs) i).map nz) k (false, []) (by rw [List.length_map, row0_len]; omega)
  rw [List.length_map, row0_len] at hf
  refine .seq fun _ k14 => .region (st (.ltI (.t rfl) (.t rfl)) rfl ?_)
  refine nl (.thn (k14 _ _ ?_)); clear k14
  refine .seq fun _ k15 => ?_
  refine .cond (.t rfl) (fun hc2 => ?_) (fun hc2 => ?_)
  ·have hc2 := BP.t hc2
   refine .skip ?_
   refine .thn (k15 _ _ ?_); clear k15
   refine .seq fun _ k16 => ?_
   refine .block ?_
   refine .seq fun _ k17 => .region (st (.mv (.t rfl)) rfl ?_)
   refine st (.as (.t rfl)) rfl ?_
   refine nl (.thn (k17 _ _ ?_)); clear k17
   refine .region (st (.mv (.t rfl)) rfl ?_)
   refine st (.mv (.t rfl)) rfl ?_
   refine st (.load (.t rfl) (i := 3) rfl ty24 rfl (Ss' := [_, _, _]) rfl) rfl ?_
   refine st (.mv (.t rfl)) rfl ?_
   refine st (.mv (.t rfl)) rfl ?_
   refine st (.call (zmat_At hx hK hR hC hl (i := i) (k := k) (by omega) (by omega)) (.cons (.t rfl) (.cons (.t rfl) (.cons (.t rfl) .nil)))) rfl ?_
   refine st (.eq (.ixWin sl22 ty32 (.t rfl) (.t rfl) ⟨by omega, by omega⟩) (isPtr_eq (by first | exact ixo0 | exact ixo2 | exact ixo1))) rfl ?_
   refine .storeK (z := nz (cf (vals xs) (i * C + k))) zc_len (.t rfl) (.t rfl) (i := 0) rfl ty32 (by simp only [Int.toNat_natCast]; omega) (M' := [(_, _), _, _, _]) rfl ?_
   refine nl ?_
   refine .bln ?_
   refine .thn (k16 _ _ ?_); clear k16
   refine .region (st (.addI (.t rfl) (Has.cI 1 rfl) (by first | omega | assumption) (by first | omega | assumption)) rfl ?_)
   refine st (.mv (.t rfl)) rfl ?_
   refine nl ?_
   refine .thn ?_
   refine hK13 (⟨k + 1, by omega⟩) _ _ ?_ (Cv.mem (.cons (t := 24) (Has.t' rfl ?_) (.k 1 rfl (.k 2 rfl (.k 3 rfl (.k 12 rfl (.k 13 rfl (.k 14 rfl (.k 15 rfl (.k 4 rfl (.k 16 rfl (.k 17 rfl (.k 18 rfl (.k 19 rfl (.k 20 rfl (.k 21 rfl (.k 5 rfl (.k 22 rfl (.k 23 rfl .nil)))))))))))))))))) ?_)
   ·show C - (k + 1) < C - k; omega
   ·exact isI_eq (by omega)
   ·exact memF_eq (row0_at (by omega))
  ·have hc2 := BP.f hc2
   refine .exit ?_
   refine .the ?_
   refine .the ?_
   refine .blh ?_
   refine .thn (k11 _ _ ?_); clear k11
   refine .seq fun _ k18 => ?_
   refine .dr ?_
   refine .st (i := 0) [] rfl rfl rfl (by kernel_rfl) (OKG.o rfl (.mv (.t rfl))) ?_
   refine .st (i := 1) [] rfl rfl rfl (by kernel_rfl) (OKG.o rfl (.fieldAddr (.t rfl) fld24_1 ty3)) ?_
   refine .st (i := 2) [36] rfl rfl rfl (by kernel_rfl) (OKG.o rfl (.load1 (.t rfl) (i := 3) rfl ty3 rfl)) ?_
   refine .st (i := 3) [] rfl rfl rfl (by kernel_rfl) (OKG.o rfl (.mv (.t rfl))) ?_
   refine .st (i := 4) [37, 38] rfl rfl rfl (by kernel_rfl) (OKG.o rfl (.eq (.addI (.t rfl) (.t rfl) (by first | omega | assumption) (by first | omega | assumption)) ((show isI _ = isI ((C + i : Nat) : Int) from isI_eq (by omega))))) ?_
   refine .st (i := 5) [] rfl rfl rfl (by kernel_rfl) (OKG.o rfl (.eq (.call (zint_Of) (.cons (Has.cI 1 rfl) .nil)) ((show isZ 1 = Flat (zc (nz 1)) from rfl)))) ?_
   refine .fin (n := 6) mixed (by kernel_rfl) (by kernel_rfl) (by kernel_rfl) ?_
   refine .cv (Cv.wk (.k 1 rfl (.k 2 rfl (.k 3 rfl (.k 12 rfl (.k 13 rfl (.k 14 rfl (.k 15 rfl (.k 4 rfl (.k 16 rfl (.k 17 rfl (.k 18 rfl (.k 19 rfl (.k 20 rfl (.k 21 rfl (.k 5 rfl (.k 22 rfl (.k 23 rfl (.k 24 rfl (.k 25 rfl (.k 35 rfl (.k 36 rfl (.k 37 rfl (.k 38 rfl (.k 39 rfl (.k 40 rfl .nil)))))))))))))))))))))))))) ?_
   refine st (.eq (.ixWin sl22 ty32 (.t rfl) (.t rfl) ⟨by omega, by omega⟩) (isPtr_eq (by first | exact ixo0 | exact ixo2 | exact ixo1))) rfl ?_
   refine .storeK (z := nz 1) zc_len (.t rfl) (.t rfl) (i := 0) rfl ty32 (by simp only [Int.toNat_natCast]; omega) (M' := [(_, _), _, _, _]) rfl ?_
   refine nl (.thn (k18 _ _ ?_)); clear k18
   refine .cv (Cv.freezeK (t := 5) (i := 0) (ys := (row0 C R (vals xs) i).map nz) zc_len rfl rfl rfl (by rw [List.length_set]; omega) (row0_fill (by omega) (by omega) rfl)) ?_
   refine .memEq (M' := [_, _, _]) rfl ?_
   refine .cv (Cv.wk (.k 1 rfl (.k 2 rfl (.k 3 rfl (.k 12 rfl (.k 13 rfl (.k 14 rfl (.k 15 rfl (.k 4 rfl (.k 16 rfl (.k 17 rfl (.k 18 rfl (.k 19 rfl (.k 20 rfl (.k 5 rfl (.k 22 rfl (.k 23 rfl (.k 24 rfl (.k 25 rfl (.k 36 rfl (.k 37 rfl (.k 38 rfl (.k 39 rfl (.k 40 rfl .nil)))))))))))))))))))))))) ?_
   refine .region (st (.mv (.t rfl)) rfl ?_)
   refine st (.mv (.t rfl)) rfl ?_
   refine st (.nilc (.t rfl)) rfl ?_
   refine st (.fieldAddr (.t rfl) fld77_0 ty75) rfl ?_
   refine st (.load1 (.t rfl) (i := 1) rfl ty75 rfl) rfl ?_
   refine st (.mv (.t rfl)) rfl ?_
   refine st (.buildS [nilS] sl75 ty22 zero22 (fun _ _ => ⟨rfl, trivial⟩) rfl rfl (.cons (.t rfl) rfl rfl rfl .nil) rfl (S := SlM isP [row0 C R (vals xs) i]) rfl) rfl ?_
   refine .appendG (f := isP) (u := ([] : List Int)) sl75 ty22 zero22 (fun _ _ => ⟨nilK, trivial⟩) (fun _ => inferInstance) by22 (.t rfl) (i := 0) rfl (.t rfl) (by rw [hrl]; show i + 1 ≤ _; omega) (by simp) rfl fun gr1 => ?_
   refine .memEq (M' := [grM _ _ _, _, _]) rfl ?_
   refine st (.nilc (.t rfl)) rfl ?_
   refine st (.fieldAddr (.t rfl) fld77_0 ty75) rfl ?_
   refine .store (.t rfl) (.t rfl) (i := 1) rfl ty75 rfl rfl (Ss' := [_, _, _]) rfl (M' := [_, (some _, cellM [_, _, _]), _]) rfl ?_
   refine nl ?_
   refine .bln ?_
   refine .thn (k8 _ _ ?_); clear k8
   refine .region (st (.addI (.t rfl) (Has.cI 1 rfl) (by first | omega | assumption) (by first | omega | assumption)) rfl ?_)
   refine st (.mv (.t rfl)) rfl ?_
   refine nl ?_
   refine .thn ?_
   refine hK5 (⟨(i + 1, gr1), by show i + 1 ≤ R; omega⟩) _ _ ?_ (Cv.mem (.cons (t := 13) (Has.t' rfl ?_) (.k 1 rfl (.k 2 rfl (.k 3 rfl (.k 12 rfl .nil))))) ?_)
   ·show R - (i + 1) < R - i; omega
   ·exact isI_eq (by omega)
   ·show _ = ([grM isP gr1 (rows0 C R (vals xs) (i + 1)), (some b2, cellM [isGr gr1 (rows0 C R (vals xs) (i + 1)).length, isI (C : Int), isI 0]), _] : Mem); rw [← rows0_succ, List.length_append]
 ·have hc1 := BP.f hc1
  refine .exit ?_
  refine .the ?_
  refine .the ?_
  refine .blh ?_
  refine .thn (k3 _ _ ?_); clear k3
  refine .seq fun _ k19 => ?_
  refine .cv (Cv.drop ((.cons_cons _ (.cons_cons _ (.cons _ .slnil))))) ?_
  refine .cv (Cv.wk (.k 2 rfl (.k 3 rfl (.k 12 rfl (.k 13 rfl (.k 14 rfl .nil)))))) ?_
  refine .cv (Cv.perm (List.Perm.swap _ _ _)) ?_
  refine .region (st (.mv (.t rfl)) rfl ?_)
  refine st (.as (.t rfl)) rfl ?_
  refine nl (.thn (k19 _ _ ?_)); clear k19
  refine .cv (Cv.wk (.k 2 rfl .nil)) ?_
  refine .ret ?_
  refine rtX1 (.inl rfl) Try.results49 rfl (.tmp (.t rfl) .nil) ?_
  exact ⟨b2, gt, rfl, by obtain rfl : i = R := (by omega); rfl⟩
end Go.Proofs.Ytahoiilikhncgaa
/- Contracts: two rows are joined. -/
namespace Go.Proofs.Ytahoiilikhncgaa
open Go.En Go.RowKit
set_option maxRecDepth 10000
set_option maxHeartbeats 4000000
open Go.Nt
open Go.Pz
open Go.Mz
open Go.Hn
theorem hnf_join {bw C : Nat} {gt : Gr (List Int)} {rs : List (List Int)} {t i col W P K : Nat} (hrow : ∀ r ∈ rs, r.length = W) (hti : t < i) (hi : i < rs.length) (hc : col < W) (hW : W ≤ 128) (hR : rs.length ≤ 64) (hpB : ∀ r ∈ rs, Bd r P) (hqB : Bd (rs.getD i []) K) (hPK : P + K ≤ 90000000) : CtrX Try.prog 97 [isPtr bw 0, isI (i : Int), isI (col : Int)] (hwM bw gt rs C t) (fun S M => S = isTup [] ∧ M = hwM bw gt (jn rs t i col) C t) := by
 refine CtrX.intro Try.func97 rfl (by kernel_rfl) Try.ntmps97 rfl fun w0 F0 => ?_
 refine .cv (Cv.wk (.k 0 rfl (.k 1 rfl (.k 2 rfl .nil)))) ?_
 refine .fact (Has.rngI (Has.t (t := 1) rfl)) fun lt1 => ?_
 refine .fact (Has.rngI (Has.t (t := 2) rfl)) fun lt2 => ?_
 obtain ⟨p, hp⟩ : ∃ p, rs[t]? = some p := ⟨_, List.getElem?_eq_getElem (by omega)⟩
 obtain ⟨q, hq⟩ : ∃ q, rs[i]? = some q := ⟨_, List.getElem?_eq_getElem hi⟩
 have hpl := hrow p (List.mem_of_getElem? hp)
 have hql := hrow q (List.mem_of_getElem? hq)
 rw [getD_of hq] at hqB
 have hpP := hpB p (List.mem_of_getElem? hp)
 have hpc := hpP col
 have hqc := hqB col
 have hxn := xgx_nw (cf p col) (cf q col) hqc
 have hyn := xgy_nw (cf p col) (cf q col) hpc
 have hgn : (List.length (words (xgg (cf p col) (cf q col)).natAbs)) ≤ P + K := by
  unfold xgg
  rw [Int.natAbs_natCast]
  refine Nat.le_trans (nw_mono (gcd_le_max _ _)) ?_
  have := nw_max (cf p col).natAbs (cf q col).natAbs
  omega
 have hun := nz_tdiv (cf p col) (xgg (cf p col) (cf q col))
 have hvn := nz_tdiv (cf q col) (xgg (cf p col) (cf q col))
 refine .seq fun _ k1 => ?_
 refine .dr ?_
 refine .st (i := 0) [] rfl rfl rfl (by kernel_rfl) (OKG.o rfl (.mv (.t rfl))) ?_
 refine .st (i := 1) [15] rfl rfl rfl (by kernel_rfl) (OKG.o rfl (.nilc (.t rfl))) ?_
 refine .st (i := 2) [16] rfl rfl rfl (by kernel_rfl) (OKG.o rfl (.fieldAddr (.t rfl) fld77_0 ty75)) ?_
 refine .st (i := 3) [17] rfl rfl rfl (by kernel_rfl) (OKG.o rfl (.load1 (.t rfl) (i := 0) rfl ty75 rfl)) ?_
 refine .st (i := 4) [] rfl rfl rfl (by kernel_rfl) (OKG.o rfl (.mv (.t rfl))) ?_
 refine .st (i := 5) [19] rfl rfl rfl (by kernel_rfl) (OKG.o rfl (.nilc (.t rfl))) ?_
 refine .st (i := 6) [20] rfl rfl rfl (by kernel_rfl) (OKG.o rfl (.fieldAddr (.t rfl) fld77_2 ty3)) ?_
 refine .st (i := 7) [21] rfl rfl rfl (by kernel_rfl) (OKG.o rfl (.load1 (.t rfl) (i := 0) rfl ty3 rfl)) ?_
 refine .st (i := 8) [18, 22] rfl rfl rfl (by kernel_rfl) (OKG.o rfl (.ixGr sl75 ty22 (.t rfl) (.t rfl) ⟨by omega, by omega⟩)) ?_
 refine .st (i := 9) [23] rfl rfl rfl (by kernel_rfl) (OKG.o rfl (.loadGM (.t rfl) (i := 1) rfl ty22 hp)) ?_
 refine .st (i := 10) [] rfl rfl rfl (by kernel_rfl) (OKG.o rfl (.mv (.t rfl))) ?_
 refine .st (i := 11) [25] rfl rfl rfl (by kernel_rfl) (OKG.o rfl (.nilc (.t rfl))) ?_
 refine .st (i := 12) [26] rfl rfl rfl (by kernel_rfl) (OKG.o rfl (.fieldAddr (.t rfl) fld77_0 ty75)) ?_
 refine .st (i := 13) [27] rfl rfl rfl (by kernel_rfl) (OKG.o rfl (.load1 (.t rfl) (i := 0) rfl ty75 rfl)) ?_
 refine .st (i := 14) [] rfl rfl rfl (by kernel_rfl) (OKG.o rfl (.mv (.t rfl))) ?_
 refine .st (i := 15) [28, 29] rfl rfl rfl (by kernel_rfl) (OKG.o rfl (.ixGr sl75 ty22 (.t rfl) (.t rfl) ⟨by omega, by omega⟩)) ?_
 refine .st (i := 16) [30] rfl rfl rfl (by kernel_rfl) (OKG.o rfl (.loadGM (.t rfl) (i := 1) rfl ty22 hq)) ?_
 refine .st (i := 17) [24] rfl rfl rfl (by kernel_rfl) (OKG.o rfl (.as (.t rfl))) ?_
 refine .fin (n := 18) mixed (by kernel_rfl) (by kernel_rfl) (by kernel_rfl) ?_
 refine .cv (Cv.wk (.k 0 rfl (.k 1 rfl (.k 2 rfl (.k 31 rfl (.k 6 rfl .nil)))))) ?_
 refine st (.as (.t rfl)) rfl ?_
 refine nl (.thn (k1 _ _ ?_)); clear k1
 refine .seq fun _ k2 => ?_
 refine .drh [true, true] (Ms := [_, _]) rfl ?_
 refine .st (i := 0) [] rfl rfl rfl (by kernel_rfl) (OKG.o rfl (.mv (.t rfl))) ?_
 refine .st (i := 1) [] rfl rfl rfl (by kernel_rfl) (OKG.o rfl (.mv (.t rfl))) ?_
 refine .st (i := 2) [33, 34] rfl rfl rfl (by kernel_rfl) (OKG.o rfl (.ixK sl22 ty32 (.t rfl) (.t rfl) zc_len ⟨by omega, by rw [List.length_map]; omega⟩ (getZ (i := col) (by omega)))) ?_
 refine .st (i := 3) [35] rfl rfl rfl (by kernel_rfl) (OKG.o rfl (.loadP (.t rfl) ty32 rfl (Ss' := [_, _]) rfl)) ?_
 refine .st (i := 4) [] rfl rfl rfl (by kernel_rfl) (OKG.o rfl (.mv (.t rfl))) ?_
 refine .st (i := 5) [] rfl rfl rfl (by kernel_rfl) (OKG.o rfl (.mv (.t rfl))) ?_
 refine .st (i := 6) [37, 38] rfl rfl rfl (by kernel_rfl) (OKG.o rfl (.ixK sl22 ty32 (.t rfl) (.t rfl) zc_len ⟨by omega, by rw [List.length_map]; omega⟩ (getZ (i := col) (by omega)))) ?_
 refine .st (i := 7) [39] rfl rfl rfl (by kernel_rfl) (OKG.o rfl (.loadP (.t rfl) ty32 rfl (Ss' := [_, _]) rfl)) ?_
 refine .st (i := 8) [36, 40] rfl rfl rfl (by kernel_rfl) (OKG.o rfl (.eq (.call (zint_XgcdA (by rw [val_words]; omega) (by rw [val_words]; omega)) (.cons (.t rfl) (.cons (.t rfl) .nil))) ((show _ = isTup [isZ (xgg (cf p col) (cf q col)), isZ (xgx (cf p col) (cf q col)), isZ (xgy (cf p col) (cf q col))] from by simp only [zv_nz, zv_nf])))) ?_
 refine .st (i := 9) [41] rfl rfl rfl (by kernel_rfl) (OKG.o rfl (.mv (.t rfl))) ?_
 refine .st (i := 10) [32] rfl rfl rfl (by kernel_rfl) (OKG.o rfl (.ext (.t rfl) rfl)) ?_
 refine .st (i := 11) [32] rfl rfl rfl (by kernel_rfl) (OKG.o rfl (.ext (.t rfl) rfl)) ?_
 refine .st (i := 12) [32] rfl rfl rfl (by kernel_rfl) (OKG.o rfl (.ext (.t rfl) rfl)) ?_
 refine .als (n1 := 16) (ds := [8, 9, 10]) (zs := [[isB false, SlM isU []], [isB false, SlM isU []], [isB false, SlM isU []]]) rfl (.cons rfl rfl zero32 (fun _ _ => ⟨rfl, nilM _ _, trivial⟩) (.cons rfl rfl zero32 (fun _ _ => ⟨rfl, nilM _ _, trivial⟩) (.cons rfl rfl zero32 (fun _ _ => ⟨rfl, nilM _ _, trivial⟩) .nil))) (.cons_cons _ (.cons_cons _ .slnil)) (Cs := [_, _, _]) rfl ?_
 refine .new [42] 0 (Ss' := [_, _]) (Cs' := [cellM [_, _], _, _]) rfl (by kernel_rfl) (by kernel_rfl) rfl rfl rfl (by kernel_rfl) rfl (.t rfl) ty32 rfl rfl rfl rfl ?_
 refine .new [43] 1 (Ss' := [_, _]) (Cs' := [_, cellM [_, _], _]) rfl (by kernel_rfl) (by kernel_rfl) rfl rfl rfl (by kernel_rfl) rfl (.t rfl) ty32 rfl rfl rfl rfl ?_
 refine .fin (n := 18) mixed rfl (by kernel_rfl) (by kernel_rfl) (by kernel_rfl) (fun bs hbs => ?_)
 obtain ⟨b1, b2, b3, rfl⟩ := len3 hbs
 refine .memEq (M' := [_, _, _, _, _]) rfl ?_
 refine .cv (Cv.wk (.k 0 rfl (.k 1 rfl (.k 2 rfl (.k 6 rfl (.k 7 rfl (.k 44 rfl (.cons (t := 8) (Has.op rfl) (.cons (t := 9) (Has.op rfl) (.cons (t := 10) (Has.op rfl) .nil)))))))))) ?_
 refine .store (.t rfl) (.t rfl) (i := 2) rfl ty32 rfl rfl (Ss' := [_, _]) rfl (M' := [_, _, (some _, cellM [_, _]), _, _]) rfl ?_
 refine nl (.thn (k2 _ _ ?_)); clear k2
 refine .seq fun _ k3 => ?_
 refine .seq fun _ k4 => .region (st (.load (.t rfl) (i := 0) rfl ty32 rfl (Ss' := [_, _]) rfl) rfl ?_)
 refine st (.eq (.call (zint_Sign (by rw [val_words]; omega)) (.cons (.t rfl) .nil)) ((show _ = isI (sgn (xgg (cf p col) (cf q col))) from by rw [zv_nf]))) rfl ?_
 refine st (.eqI (.t rfl) (Has.cI 0 rfl)) rfl ?_
 refine nl (.thn (k4 _ _ ?_)); clear k4
 refine .cond (.t rfl) (fun hc1 => ?_) (fun hc1 => ?_)
 ·have hc1 := BP.t hc1
  have hg0 := (sgn_eq0 _).1 hc1
  refine .ret ?_
  refine .thr ?_
  refine rtX0D (.cons _ (.cons _ (.cons _ (.cons_cons _ (.cons_cons _ .slnil))))) (.inl rfl) Try.results97 rfl ?_
  exact ⟨rfl, hwM_eq (jn_no hp hq hg0).symm (by rw [jn_len])⟩
 ·have hc1 := BP.f hc1
  have hg0 : ¬ (xgg (cf p col) (cf q col)) = 0 := fun e => hc1 ((sgn_eq0 _).2 e)
  refine .skip ?_
  refine .thn (k3 _ _ ?_); clear k3
  refine .seq fun _ k5 => ?_
  refine .drh [true, true, true, true, true] (Ms := [_, _, _, _, _]) rfl ?_
  refine .st (i := 0) [] rfl rfl rfl (by kernel_rfl) (OKG.o rfl (.mv (.t rfl))) ?_
  refine .st (i := 1) [] rfl rfl rfl (by kernel_rfl) (OKG.o rfl (.mv (.t rfl))) ?_
  refine .st (i := 2) [49, 50] rfl rfl rfl (by kernel_rfl) (OKG.o rfl (.ixK sl22 ty32 (.t rfl) (.t rfl) zc_len ⟨by omega, by rw [List.length_map]; omega⟩ (getZ (i := col) (by omega)))) ?_
  refine .st (i := 3) [51] rfl rfl rfl (by kernel_rfl) (OKG.o rfl (.loadP (.t rfl) ty32 rfl (Ss' := [_, _]) rfl)) ?_
  refine .st (i := 4) [] rfl rfl rfl (by kernel_rfl) (OKG.o rfl (.load (.t rfl) (i := 0) rfl ty32 rfl (Ss' := [_, _]) rfl)) ?_
  refine .st (i := 5) [52, 53] rfl rfl rfl (by kernel_rfl) (OKG.o rfl (.call (zint_Exact (by rw [val_words]; omega) (by rw [val_words]; omega)) (.cons (.t rfl) (.cons (.t rfl) .nil)))) ?_
  refine .st (i := 6) [54] rfl rfl rfl (by kernel_rfl) (OKG.o rfl (.mv (.t rfl))) ?_
  refine .st (i := 7) [48] rfl rfl rfl (by kernel_rfl) (OKG.o rfl (.eq (.ext (.t rfl) rfl) ((show _ = isZ ((cf p col).tdiv (xgg (cf p col) (cf q col))) from isZ_eq (by simp only [zv_nz, zv_nf]; exact if_pos ⟨hg0, Int.tmod_eq_zero_of_dvd (xgg_left _ _)⟩))))) ?_
  refine .st (i := 8) [48] rfl rfl rfl (by kernel_rfl) (OKG.o rfl (.ext (.t rfl) rfl)) ?_
  refine .als (n1 := 10) (ds := [11]) (zs := [[isB false, SlM isU []]]) rfl (.cons rfl rfl zero32 (fun _ _ => ⟨rfl, nilM _ _, trivial⟩) .nil) (.cons_cons _ (.cons_cons _ (.cons_cons _ (.cons_cons _ (.cons_cons _ .slnil))))) (Cs := [_]) rfl ?_
  refine .new [55] 0 (Ss' := [_, _]) (Cs' := [cellM [_, _]]) rfl (by kernel_rfl) (by kernel_rfl) rfl rfl rfl (by kernel_rfl) rfl (.t rfl) ty32 rfl rfl rfl rfl ?_
  refine .fin (n := 11) mixed rfl (by kernel_rfl) (by kernel_rfl) (by kernel_rfl) (fun bs hbs => ?_)
  obtain ⟨b4, rfl⟩ := len1 hbs
  refine .memEq (M' := [_, _, _, _, _, _]) rfl ?_
  refine .cv (Cv.wk (.k 0 rfl (.k 1 rfl (.k 2 rfl (.k 6 rfl (.k 7 rfl (.k 8 rfl (.k 9 rfl (.k 10 rfl (.k 56 rfl (.cons (t := 11) (Has.op rfl) .nil))))))))))) ?_
  refine st (.as (.t rfl)) rfl ?_
  refine nl (.thn (k5 _ _ ?_)); clear k5
  refine .seq fun _ k6 => ?_
  refine .drh [true, true, true, true, true, true] (Ms := [_, _, _, _, _, _]) rfl ?_
  refine .st (i := 0) [] rfl rfl rfl (by kernel_rfl) (OKG.o rfl (.mv (.t rfl))) ?_
  refine .st (i := 1) [] rfl rfl rfl (by kernel_rfl) (OKG.o rfl (.mv (.t rfl))) ?_
  refine .st (i := 2) [58, 59] rfl rfl rfl (by kernel_rfl) (OKG.o rfl (.ixK sl22 ty32 (.t rfl) (.t rfl) zc_len ⟨by omega, by rw [List.length_map]; omega⟩ (getZ (i := col) (by omega)))) ?_
  refine .st (i := 3) [60] rfl rfl rfl (by kernel_rfl) (OKG.o rfl (.loadP (.t rfl) ty32 rfl (Ss' := [_, _]) rfl)) ?_
  refine .st (i := 4) [] rfl rfl rfl (by kernel_rfl) (OKG.o rfl (.load (.t rfl) (i := 1) rfl ty32 rfl (Ss' := [_, _]) rfl)) ?_
  refine .st (i := 5) [61, 62] rfl rfl rfl (by kernel_rfl) (OKG.o rfl (.call (zint_Exact (by rw [val_words]; omega) (by rw [val_words]; omega)) (.cons (.t rfl) (.cons (.t rfl) .nil)))) ?_
  refine .st (i := 6) [63] rfl rfl rfl (by kernel_rfl) (OKG.o rfl (.mv (.t rfl))) ?_
  refine .st (i := 7) [57] rfl rfl rfl (by kernel_rfl) (OKG.o rfl (.eq (.ext (.t rfl) rfl) ((show _ = isZ ((cf q col).tdiv (xgg (cf p col) (cf q col))) from isZ_eq (by simp only [zv_nz, zv_nf]; exact if_pos ⟨hg0, Int.tmod_eq_zero_of_dvd (xgg_right _ _)⟩))))) ?_
  refine .st (i := 8) [57] rfl rfl rfl (by kernel_rfl) (OKG.o rfl (.ext (.t rfl) rfl)) ?_
  refine .als (n1 := 10) (ds := [13]) (zs := [[isB false, SlM isU []]]) rfl (.cons rfl rfl zero32 (fun _ _ => ⟨rfl, nilM _ _, trivial⟩) .nil) (.cons_cons _ (.cons_cons _ (.cons_cons _ (.cons_cons _ (.cons_cons _ (.cons_cons _ .slnil)))))) (Cs := [_]) rfl ?_
  refine .new [64] 0 (Ss' := [_, _]) (Cs' := [cellM [_, _]]) rfl (by kernel_rfl) (by kernel_rfl) rfl rfl rfl (by kernel_rfl) rfl (.t rfl) ty32 rfl rfl rfl rfl ?_
  refine .fin (n := 11) mixed rfl (by kernel_rfl) (by kernel_rfl) (by kernel_rfl) (fun bs hbs => ?_)
  obtain ⟨b5, rfl⟩ := len1 hbs
  refine .memEq (M' := [_, _, _, _, _, _, _]) rfl ?_
  refine .cv (Cv.wk (.k 0 rfl (.k 1 rfl (.k 6 rfl (.k 7 rfl (.k 9 rfl (.k 10 rfl (.k 11 rfl (.k 65 rfl (.cons (t := 13) (Has.op rfl) .nil)))))))))) ?_
  refine st (.as (.t rfl)) rfl ?_
  refine nl (.thn (k6 _ _ ?_)); clear k6
  refine .dry mixed ?_
  refine .take (i := 0) rfl rfl rfl rfl (by kernel_rfl) (by kernel_rfl) (by kernel_rfl) (by kernel_rfl) (fun _ _ _ _ h => h) (OKY.mv (.t rfl)) ?_
  refine .take (i := 1) rfl rfl rfl rfl (by kernel_rfl) (by kernel_rfl) (by kernel_rfl) (by kernel_rfl) (fun _ _ _ _ h => h) (OKY.nilc (.t rfl)) ?_
  refine .take (i := 2) rfl rfl rfl rfl (by kernel_rfl) (by kernel_rfl) (by kernel_rfl) (by kernel_rfl) (fun _ _ _ _ h => h) (OKY.fieldAddr (.t rfl) fld77_0 ty75) ?_
  refine .take (i := 4) rfl rfl rfl rfl (by kernel_rfl) (by kernel_rfl) (by kernel_rfl) (by kernel_rfl) (fun _ _ _ _ h => h) (OKY.mv (.t rfl)) ?_
  refine .take (i := 5) rfl rfl rfl rfl (by kernel_rfl) (by kernel_rfl) (by kernel_rfl) (by kernel_rfl) (fun _ _ _ _ h => h) (OKY.nilc (.t rfl)) ?_
  refine .take (i := 6) rfl rfl rfl rfl (by kernel_rfl) (by kernel_rfl) (by kernel_rfl) (by kernel_rfl) (fun _ _ _ _ h => h) (OKY.fieldAddr (.t rfl) fld77_2 ty3) ?_
  refine .take (i := 8) rfl rfl rfl rfl (by kernel_rfl) (by kernel_rfl) (by kernel_rfl) (by kernel_rfl) (fun _ _ _ _ h => h) (OKY.mv (.t rfl)) ?_
  refine .take (i := 9) rfl rfl rfl rfl (by kernel_rfl) (by kernel_rfl) (by kernel_rfl) (by kernel_rfl) (fun _ _ _ _ h => h) (OKY.nilc (.t rfl)) ?_
  refine .take (i := 10) rfl rfl rfl rfl (by kernel_rfl) (by kernel_rfl) (by kernel_rfl) (by kernel_rfl) (fun _ _ _ _ h => h) (OKY.fieldAddr (.t rfl) fld77_0 ty75) ?_
  refine .take (i := 12) rfl rfl rfl rfl (by kernel_rfl) (by kernel_rfl) (by kernel_rfl) (by kernel_rfl) (fun _ _ _ _ h => h) (OKY.mv (.t rfl)) ?_
  refine .take (i := 14) rfl rfl rfl rfl (by kernel_rfl) (by kernel_rfl) (by kernel_rfl) (by kernel_rfl) (fun _ _ _ _ h => h) (OKY.mv (.t rfl)) ?_
  refine .take (i := 16) rfl rfl rfl rfl (by kernel_rfl) (by kernel_rfl) (by kernel_rfl) (by kernel_rfl) (fun _ _ _ _ h => h) (OKY.mv (.t rfl)) ?_
  refine .take (i := 20) rfl rfl rfl rfl (by kernel_rfl) (by kernel_rfl) (by kernel_rfl) (by kernel_rfl) (fun _ _ _ _ h => h) (OKY.mv (.t rfl)) ?_
  refine .take (i := 22) rfl rfl rfl rfl (by kernel_rfl) (by kernel_rfl) (by kernel_rfl) (by kernel_rfl) (fun _ _ _ _ h => h) (OKY.mv (.t rfl)) ?_
  refine .go [] ?_
  refine .st (i := 3) [] rfl rfl rfl (by kernel_rfl) (by kernel_rfl) (OKG.o rfl (.load1 (.t rfl) (i := 5) rfl ty75 rfl)) ?_
  refine .st (i := 7) [] rfl rfl rfl (by kernel_rfl) (by kernel_rfl) (OKG.o rfl (.load1 (.t rfl) (i := 5) rfl ty3 rfl)) ?_
  refine .st (i := 11) [] rfl rfl rfl (by kernel_rfl) (by kernel_rfl) (OKG.o rfl (.load1 (.t rfl) (i := 5) rfl ty75 rfl)) ?_
  refine .st (i := 13) [] rfl rfl rfl (by kernel_rfl) (by kernel_rfl) (OKG.o rfl (.load (.t rfl) (i := 3) rfl ty32 rfl (Ss' := [_, _]) rfl)) ?_
  refine .st (i := 15) [] rfl rfl rfl (by kernel_rfl) (by kernel_rfl) (OKG.o rfl (.load (.t rfl) (i := 4) rfl ty32 rfl (Ss' := [_, _]) rfl)) ?_
  refine .st (i := 17) [79, 81] rfl rfl rfl (by kernel_rfl) (by kernel_rfl) (OKG.o rfl (.eq (.call (hnf_mixed (A := K + 1) (B := P + 2) (K := P) (L := K) (by rw [val_words]; omega) (by rw [vals_nz]; exact hpP) (by rw [val_words]; omega) (by rw [vals_nz]; exact hqB) (by omega) (by omega) (by rw [List.length_map, List.length_map]; omega) (by rw [List.length_map]; omega)) (.cons (.t rfl) (.cons (.t rfl) (.cons (.t rfl) (.cons (.t rfl) .nil))))) ((show _ = isP (mx2 (xgx (cf p col) (cf q col)) p (xgy (cf p col) (cf q col)) q) from isPl_eq (by simp only [zv_nf, vals_nz]))))) ?_
  refine .st (i := 18) [] rfl rfl rfl (by kernel_rfl) (by kernel_rfl) (OKG.o rfl (.load (.t rfl) (i := 0) rfl ty32 rfl (Ss' := [_, _]) rfl)) ?_
  refine .st (i := 19) [84] rfl rfl rfl (by kernel_rfl) (by kernel_rfl) (OKG.o rfl (.call (zint_Neg (by rw [val_words]; omega)) (.cons (.t rfl) .nil))) ?_
  refine .st (i := 21) [] rfl rfl rfl (by kernel_rfl) (by kernel_rfl) (OKG.o rfl (.load (.t rfl) (i := 1) rfl ty32 rfl (Ss' := [_, _]) rfl)) ?_
  refine .st (i := 23) [85, 87] rfl rfl rfl (by kernel_rfl) (by kernel_rfl) (OKG.o rfl (.eq (.call (hnf_mixed (A := K) (B := P) (K := P) (L := K) (by rw [val_words, zv_nf, Int.natAbs_neg]; omega) (by rw [vals_nz]; exact hpP) (by rw [val_words]; omega) (by rw [vals_nz]; exact hqB) (by omega) (by omega) (by rw [List.length_map, List.length_map]; omega) (by rw [List.length_map]; omega)) (.cons (.t rfl) (.cons (.t rfl) (.cons (.t rfl) (.cons (.t rfl) .nil))))) ((show _ = isP (mx2 (-((cf q col).tdiv (xgg (cf p col) (cf q col)))) p ((cf p col).tdiv (xgg (cf p col) (cf q col))) q) from isPl_eq (by simp only [zv_nf, vals_nz]))))) ?_
  refine .fin [24, 25, 26, 27] (by kernel_rfl) (by kernel_rfl) (fun _ _ _ _ _ h => h) (by kernel_rfl) (by kernel_rfl) (by kernel_rfl) (by kernel_rfl) (by kernel_rfl) (by kernel_rfl) (by kernel_rfl) (by kernel_rfl) (by kernel_rfl) ?_
  refine .cv (Cv.wk (.k 78 rfl (.k 69 rfl (.k 73 rfl (.k 77 rfl (.k 83 rfl (.k 89 rfl .nil))))))) ?_
  refine st (.ixGr sl75 ty22 (.t rfl) (.t rfl) ⟨by omega, by omega⟩) rfl ?_
  refine .storeGM (z := mx2 (xgx (cf p col) (cf q col)) p (xgy (cf p col) (cf q col)) q) (.t rfl) (.t rfl) (i := 6) rfl ty22 (by omega) (M' := [_, _, _, _, _, _, grM _ _ _]) rfl ?_
  refine st (.ixGr sl75 ty22 (.t rfl) (.t rfl) ⟨by omega, by omega⟩) rfl ?_
  refine .storeGM (z := mx2 (-((cf q col).tdiv (xgg (cf p col) (cf q col)))) p ((cf p col).tdiv (xgg (cf p col) (cf q col))) q) (.t rfl) (.t rfl) (i := 6) rfl ty22 (by rw [List.length_set]; omega) (M' := [_, _, _, _, _, _, grM _ _ _]) rfl ?_
  refine nl ?_
  refine rtX0D (.cons _ (.cons _ (.cons _ (.cons _ (.cons _ (.cons_cons _ (.cons_cons _ .slnil))))))) (.inr rfl) Try.results97 rfl ?_
  exact ⟨rfl, hwM_eq (jn_go hp hq hg0).symm (by rw [jn_len])⟩
end Go.Proofs.Ytahoiilikhncgaa
/- Contracts: what is above a pivot is reduced. -/
namespace Go.Proofs.Ytahoiilikhncgaa
open Go.En Go.RowKit
set_option maxRecDepth 10000
set_option maxHeartbeats 4000000
open Go.Nt
open Go.Pz
open Go.Mz
open Go.Hn
theorem hnf_reduce {bw C : Nat} {gt : Gr (List Int)} {rs : List (List Int)} {t col W P : Nat} (hrow : ∀ r ∈ rs, r.length = W) (ht : t < rs.length) (hc : col < W) (hW : W ≤ 128) (hR : rs.length ≤ 64) (hpB : ∀ r ∈ rs, Bd r P) (hP : P ≤ 90000000) (h0 : 0 < cf (rs.getD t []) col) : CtrX Try.prog 98 [isPtr bw 0, isI (col : Int)] (hwM bw gt rs C t) (fun S M => S = isTup [] ∧ M = hwM bw gt (rds rs t col t) C t) := by
 refine CtrX.intro Try.func98 rfl (by kernel_rfl) Try.ntmps98 rfl fun w0 F0 => ?_
 refine .cv (Cv.wk (.k 0 rfl (.k 1 rfl .nil))) ?_
 refine .fact (Has.rngI (Has.t (t := 1) rfl)) fun lt1 => ?_
 obtain ⟨b, hb⟩ : ∃ b, rs[t]? = some b := ⟨_, List.getElem?_eq_getElem ht⟩
 have hbl := hrow b (List.mem_of_getElem? hb)
 rw [getD_of hb] at h0
 have hbP := hpB b (List.mem_of_getElem? hb)
 have hbc := hbP col
 refine .seq fun _ k1 => ?_
 refine .dr ?_
 refine .st (i := 0) [] rfl rfl rfl (by kernel_rfl) (OKG.o rfl (.mv (.t rfl))) ?_
 refine .st (i := 1) [9] rfl rfl rfl (by kernel_rfl) (OKG.o rfl (.nilc (.t rfl))) ?_
 refine .st (i := 2) [10] rfl rfl rfl (by kernel_rfl) (OKG.o rfl (.fieldAddr (.t rfl) fld77_0 ty75)) ?_
 refine .st (i := 3) [11] rfl rfl rfl (by kernel_rfl) (OKG.o rfl (.load1 (.t rfl) (i := 0) rfl ty75 rfl)) ?_
 refine .st (i := 4) [] rfl rfl rfl (by kernel_rfl) (OKG.o rfl (.mv (.t rfl))) ?_
 refine .st (i := 5) [13] rfl rfl rfl (by kernel_rfl) (OKG.o rfl (.nilc (.t rfl))) ?_
 refine .st (i := 6) [14] rfl rfl rfl (by kernel_rfl) (OKG.o rfl (.fieldAddr (.t rfl) fld77_2 ty3)) ?_
 refine .st (i := 7) [15] rfl rfl rfl (by kernel_rfl) (OKG.o rfl (.load1 (.t rfl) (i := 0) rfl ty3 rfl)) ?_
 refine .fin (n := 8) mixed (by kernel_rfl) (by kernel_rfl) (by kernel_rfl) ?_
 refine .cv (Cv.wk (.k 0 rfl (.k 1 rfl (.k 12 rfl (.k 16 rfl .nil))))) ?_
 refine st (.ixGr sl75 ty22 (.t rfl) (.t rfl) ⟨by omega, by omega⟩) rfl ?_
 refine st (.loadGM (.t rfl) (i := 1) rfl ty22 hb) rfl ?_
 refine st (.as (.t rfl)) rfl ?_
 refine nl (.thn (k1 _ _ ?_)); clear k1
 refine .seq fun _ k2 => .region (st (.mv (.t rfl)) rfl ?_)
 refine st (.nilc (.t rfl)) rfl ?_
 refine st (.fieldAddr (.t rfl) fld77_2 ty3) rfl ?_
 refine st (.load1 (.t rfl) (i := 0) rfl ty3 rfl) rfl ?_
 refine st (.mv (Has.cI 0 rfl)) rfl ?_
 refine nl (.thn (k2 _ _ ?_)); clear k2
 refine .cv (Cv.wk (.k 0 rfl (.k 1 rfl (.k 4 rfl (.k 22 rfl (.k 23 rfl .nil)))))) ?_
 refine .block ?_
 refine .loopF [0, 1, 4, 22] (fun (z : { i : Nat // i ≤ t }) => match z with | ⟨i, hi⟩ => [(23, isI (i : Int))]) (fun M => fun (z : { i : Nat // i ≤ t }) => match z with | ⟨i, hi⟩ => hwM bw gt (rds rs t col i) C t) (fun (z : { i : Nat // i ≤ t }) => match z with | ⟨i, hi⟩ => t - i) (⟨0, Nat.zero_le _⟩) (Cv.mem (.cons (t := 23) (Has.t' rfl ?_) (.k 0 rfl (.k 1 rfl (.k 4 rfl (.k 22 rfl .nil))))) ?_) ?_
 ·rfl
 ·rfl
 rintro ⟨i, hi⟩ K3 hK3
 refine .cv (Cv.wk (.k 23 rfl (.k 0 rfl (.k 1 rfl (.k 4 rfl (.k 22 rfl .nil)))))) ?_
 refine .memEq (M' := hwM bw gt (rds rs t col i) C t) rfl ?_
 have hlen := rds_len rs t col i
 have hb2 : (rds rs t col i)[t]? = some b := (rds_off hi).trans hb
 refine .seq fun _ k4 => .region (st (.ltI (.t rfl) (.t rfl)) rfl ?_)
 refine nl (.thn (k4 _ _ ?_)); clear k4
 refine .seq fun _ k5 => ?_
 refine .cond (.t rfl) (fun hc1 => ?_) (fun hc1 => ?_)
 ·have hc1 := BP.t hc1
  obtain ⟨r, hr⟩ : ∃ r, rs[i]? = some r := ⟨_, List.getElem?_eq_getElem (by omega)⟩
  have hr2 : (rds rs t col i)[i]? = some r := (rds_off (Nat.le_refl _)).trans hr
  have hrl := hrow r (List.mem_of_getElem? hr)
  have hrP := hpB r (List.mem_of_getElem? hr)
  have hrc := hrP col
  have hdn := div_nw h0 hrc
  have h1 := nz_one
  refine .skip ?_
  refine .thn (k5 _ _ ?_); clear k5
  refine .seq fun _ k6 => ?_
  refine .block ?_
  refine .seq fun _ k7 => .region (st (.mv (.t rfl)) rfl ?_)
  refine st (.as (.t rfl)) rfl ?_
  refine nl (.thn (k7 _ _ ?_)); clear k7
  refine .seq fun _ k8 => ?_
  refine .drh [true, true] (Ms := [_, _]) rfl ?_
  refine .st (i := 0) [] rfl rfl rfl (by kernel_rfl) (OKG.o rfl (.mv (.t rfl))) ?_
  refine .st (i := 1) [27] rfl rfl rfl (by kernel_rfl) (OKG.o rfl (.nilc (.t rfl))) ?_
  refine .st (i := 2) [28] rfl rfl rfl (by kernel_rfl) (OKG.o rfl (.fieldAddr (.t rfl) fld77_0 ty75)) ?_
  refine .st (i := 3) [29] rfl rfl rfl (by kernel_rfl) (OKG.o rfl (.load1 (.t rfl) (i := 0) rfl ty75 rfl)) ?_
  refine .st (i := 4) [] rfl rfl rfl (by kernel_rfl) (OKG.o rfl (.mv (.t rfl))) ?_
  refine .st (i := 5) [30, 31] rfl rfl rfl (by kernel_rfl) (OKG.o rfl (.ixGr sl75 ty22 (.t rfl) (.t rfl) ⟨by omega, by omega⟩)) ?_
  refine .st (i := 6) [32] rfl rfl rfl (by kernel_rfl) (OKG.o rfl (.loadGM (.t rfl) (i := 1) rfl ty22 hr2)) ?_
  refine .st (i := 7) [] rfl rfl rfl (by kernel_rfl) (OKG.o rfl (.mv (.t rfl))) ?_
  refine .st (i := 8) [33, 34] rfl rfl rfl (by kernel_rfl) (OKG.o rfl (.ixK sl22 ty32 (.t rfl) (.t rfl) zc_len ⟨by omega, by rw [List.length_map]; omega⟩ (getZ (i := col) (by omega)))) ?_
  refine .st (i := 9) [35] rfl rfl rfl (by kernel_rfl) (OKG.o rfl (.loadP (.t rfl) ty32 rfl (Ss' := [_, _]) rfl)) ?_
  refine .st (i := 10) [] rfl rfl rfl (by kernel_rfl) (OKG.o rfl (.mv (.t rfl))) ?_
  refine .st (i := 11) [] rfl rfl rfl (by kernel_rfl) (OKG.o rfl (.mv (.t rfl))) ?_
  refine .st (i := 12) [37, 38] rfl rfl rfl (by kernel_rfl) (OKG.o rfl (.ixK sl22 ty32 (.t rfl) (.t rfl) zc_len ⟨by omega, by rw [List.length_map]; omega⟩ (getZ (i := col) (by omega)))) ?_
  refine .st (i := 13) [39] rfl rfl rfl (by kernel_rfl) (OKG.o rfl (.loadP (.t rfl) ty32 rfl (Ss' := [_, _]) rfl)) ?_
  refine .st (i := 14) [36, 40] rfl rfl rfl (by kernel_rfl) (OKG.o rfl (.eq (.call (zint_Floor (by rw [val_words]; omega) (by rw [val_words]; omega) (by simp only [zv_nf, zv_nz]; exact h0)) (.cons (.t rfl) (.cons (.t rfl) .nil))) ((show _ = isTup [isZ (cf r col / cf b col), isZ (cf r col % cf b col), isB true] from by simp only [zv_nz, zv_nf])))) ?_
  refine .st (i := 15) [41] rfl rfl rfl (by kernel_rfl) (OKG.o rfl (.mv (.t rfl))) ?_
  refine .st (i := 16) [26] rfl rfl rfl (by kernel_rfl) (OKG.o rfl (.ext (.t rfl) rfl)) ?_
  refine .st (i := 17) [26] rfl rfl rfl (by kernel_rfl) (OKG.o rfl (.ext (.t rfl) rfl)) ?_
  refine .st (i := 18) [26] rfl rfl rfl (by kernel_rfl) (OKG.o rfl (.ext (.t rfl) rfl)) ?_
  refine .als (n1 := 21) (ds := [6, 7]) (zs := [[isB false, SlM isU []], [isB false, SlM isU []]]) rfl (.cons rfl rfl zero32 (fun _ _ => ⟨rfl, nilM _ _, trivial⟩) (.cons rfl rfl zero32 (fun _ _ => ⟨rfl, nilM _ _, trivial⟩) .nil)) (.cons_cons _ (.cons_cons _ .slnil)) (Cs := [_, _]) rfl ?_
  refine .new [42] 0 (Ss' := [_, _]) (Cs' := [cellM [_, _], _]) rfl (by kernel_rfl) (by kernel_rfl) rfl rfl rfl (by kernel_rfl) rfl (.t rfl) ty32 rfl rfl rfl rfl ?_
  refine .new [43] 1 (Ss' := [_, _]) (Cs' := [_, cellM [_, _]]) rfl (by kernel_rfl) (by kernel_rfl) rfl rfl rfl (by kernel_rfl) rfl (.t rfl) ty32 rfl rfl rfl rfl ?_
  refine .fin (n := 23) mixed rfl (by kernel_rfl) (by kernel_rfl) (by kernel_rfl) (fun bs hbs => ?_)
  obtain ⟨b1, b2, rfl⟩ := len2 hbs
  refine .memEq (M' := [_, _, _, _]) rfl ?_
  refine .cv (Cv.wk (.k 0 rfl (.k 1 rfl (.k 4 rfl (.k 22 rfl (.k 23 rfl (.k 24 rfl (.k 25 rfl (.k 5 rfl (.k 27 rfl (.k 28 rfl (.k 29 rfl (.k 30 rfl (.k 31 rfl (.k 32 rfl (.k 33 rfl (.k 34 rfl (.k 35 rfl (.k 36 rfl (.k 37 rfl (.k 38 rfl (.k 39 rfl (.k 40 rfl (.k 41 rfl (.k 26 rfl (.k 42 rfl (.k 43 rfl (.k 44 rfl (.cons (t := 6) (Has.op rfl) (.cons (t := 7) (Has.op rfl) .nil)))))))))))))))))))))))))))))) ?_
  refine st (.as (.t rfl)) rfl ?_
  refine nl (.thn (k8 _ _ ?_)); clear k8
  refine .dry mixed ?_
  refine .take (i := 0) rfl rfl rfl rfl (by kernel_rfl) (by kernel_rfl) (by kernel_rfl) (by kernel_rfl) (fun _ _ _ _ h => h) (OKY.mv (.t rfl)) ?_
  refine .take (i := 1) rfl rfl rfl rfl (by kernel_rfl) (by kernel_rfl) (by kernel_rfl) (by kernel_rfl) (fun _ _ _ _ h => h) (OKY.nilc (.t rfl)) ?_
  refine .take (i := 2) rfl rfl rfl rfl (by kernel_rfl) (by kernel_rfl) (by kernel_rfl) (by kernel_rfl) (fun _ _ _ _ h => h) (OKY.fieldAddr (.t rfl) fld77_0 ty75) ?_
  refine .take (i := 4) rfl rfl rfl rfl (by kernel_rfl) (by kernel_rfl) (by kernel_rfl) (by kernel_rfl) (fun _ _ _ _ h => h) (OKY.mv (.t rfl)) ?_
  refine .take (i := 6) rfl rfl rfl rfl (by kernel_rfl) (by kernel_rfl) (by kernel_rfl) (by kernel_rfl) (fun _ _ _ _ h => h) (OKY.mv (.t rfl)) ?_
  refine .take (i := 7) rfl rfl rfl rfl (by kernel_rfl) (by kernel_rfl) (by kernel_rfl) (by kernel_rfl) (fun _ _ _ _ h => h) (OKY.nilc (.t rfl)) ?_
  refine .take (i := 8) rfl rfl rfl rfl (by kernel_rfl) (by kernel_rfl) (by kernel_rfl) (by kernel_rfl) (fun _ _ _ _ h => h) (OKY.fieldAddr (.t rfl) fld77_0 ty75) ?_
  refine .take (i := 10) rfl rfl rfl rfl (by kernel_rfl) (by kernel_rfl) (by kernel_rfl) (by kernel_rfl) (fun _ _ _ _ h => h) (OKY.mv (.t rfl)) ?_
  refine .take (i := 15) rfl rfl rfl rfl (by kernel_rfl) (by kernel_rfl) (by kernel_rfl) (by kernel_rfl) (fun _ _ _ _ h => h) (OKY.mv (.t rfl)) ?_
  refine .go [] ?_
  refine .st (i := 3) [] rfl rfl rfl (by kernel_rfl) (by kernel_rfl) (OKG.o rfl (.load1 (.t rfl) (i := 2) rfl ty75 rfl)) ?_
  refine .st (i := 5) [] rfl rfl rfl (by kernel_rfl) (by kernel_rfl) (OKG.o rfl (.call (zint_Of) (.cons (Has.cI 1 rfl) .nil))) ?_
  refine .st (i := 9) [] rfl rfl rfl (by kernel_rfl) (by kernel_rfl) (OKG.o rfl (.load1 (.t rfl) (i := 2) rfl ty75 rfl)) ?_
  refine .st (i := 11) [54] rfl rfl rfl (by kernel_rfl) (by kernel_rfl) (OKG.o rfl (.ixGr sl75 ty22 (.t rfl) (.t rfl) ⟨by omega, by omega⟩)) ?_
  refine .st (i := 12) [56] rfl rfl rfl (by kernel_rfl) (by kernel_rfl) (OKG.o rfl (.loadGM (.t rfl) (i := 3) rfl ty22 hr2)) ?_
  refine .st (i := 13) [] rfl rfl rfl (by kernel_rfl) (by kernel_rfl) (OKG.o rfl (.load (.t rfl) (i := 0) rfl ty32 rfl (Ss' := [_, _]) rfl)) ?_
  refine .st (i := 14) [58] rfl rfl rfl (by kernel_rfl) (by kernel_rfl) (OKG.o rfl (.call (zint_Neg (by rw [val_words]; omega)) (.cons (.t rfl) .nil))) ?_
  refine .st (i := 16) [50, 57, 59] rfl rfl rfl (by kernel_rfl) (by kernel_rfl) (OKG.o rfl (.eq (.call (hnf_mixed (A := 1) (B := P) (K := P) (L := P) (by rw [val_words]; omega) (by rw [vals_nz]; exact hrP) (by rw [val_words, zv_nf, Int.natAbs_neg]; omega) (by rw [vals_nz]; exact hbP) (by omega) (by omega) (by rw [List.length_map, List.length_map]; omega) (by rw [List.length_map]; omega)) (.cons (.t rfl) (.cons (.t rfl) (.cons (.t rfl) (.cons (.t rfl) .nil))))) ((show _ = isP (mx2 1 r (-(cf r col / cf b col)) b) from isPl_eq (by simp only [zv_nf, vals_nz]))))) ?_
  refine .fin [17, 18] (by kernel_rfl) (by kernel_rfl) (fun _ _ _ _ _ h => h) (by kernel_rfl) (by kernel_rfl) (by kernel_rfl) (by kernel_rfl) (by kernel_rfl) (by kernel_rfl) (by kernel_rfl) (by kernel_rfl) (by kernel_rfl) ?_
  refine .cv (Cv.wk (.k 0 rfl (.k 1 rfl (.k 4 rfl (.k 22 rfl (.k 23 rfl (.k 24 rfl (.k 25 rfl (.k 5 rfl (.k 27 rfl (.k 28 rfl (.k 29 rfl (.k 30 rfl (.k 31 rfl (.k 32 rfl (.k 33 rfl (.k 34 rfl (.k 35 rfl (.k 36 rfl (.k 37 rfl (.k 38 rfl (.k 39 rfl (.k 40 rfl (.k 41 rfl (.k 26 rfl (.k 42 rfl (.k 43 rfl (.k 44 rfl (.k 6 rfl (.k 7 rfl (.k 45 rfl (.k 46 rfl (.k 47 rfl (.k 49 rfl (.k 51 rfl (.k 52 rfl (.k 53 rfl (.k 55 rfl (.k 60 rfl (.k 48 rfl (.k 50 rfl (.k 54 rfl (.k 56 rfl (.k 57 rfl (.k 58 rfl (.k 59 rfl (.k 61 rfl .nil))))))))))))))))))))))))))))))))))))))))))))))) ?_
  refine st (.ixGr sl75 ty22 (.t rfl) (.t rfl) ⟨by omega, by omega⟩) rfl ?_
  refine .storeGM (z := mx2 1 r (-(cf r col / cf b col)) b) (.t rfl) (.t rfl) (i := 3) rfl ty22 (by omega) (M' := [_, _, _, grM _ _ _]) rfl ?_
  refine nl ?_
  refine .bln ?_
  refine .thn (k6 _ _ ?_); clear k6
  refine .region (st (.addI (.t rfl) (Has.cI 1 rfl) (by first | omega | assumption) (by first | omega | assumption)) rfl ?_)
  refine st (.mv (.t rfl)) rfl ?_
  refine nl ?_
  refine .thn ?_
  refine hK3 (⟨i + 1, by omega⟩) _ _ ?_ (Cv.trans (Cv.drop ((.cons _ (.cons _ (.cons_cons _ (.cons_cons _ .slnil)))))) (Cv.mem (.cons (t := 23) (Has.t' rfl ?_) (.k 0 rfl (.k 1 rfl (.k 4 rfl (.k 22 rfl .nil))))) ?_))
  ·show t - (i + 1) < t - i; omega
  ·exact isI_eq (by omega)
  ·exact hwM_eq (rd_go hr2 hb2).symm (by show _ = (rds rs t col (i + 1)).length; rw [hlen, rds_len])
 ·have hc1 := BP.f hc1
  refine .exit ?_
  refine .the ?_
  refine .the ?_
  refine .blh ?_
  refine rtX0D (.cons_cons _ (.cons_cons _ .slnil)) (.inr rfl) Try.results98 rfl ?_
  exact ⟨rfl, by rw [show t = i by omega]⟩
end Go.Proofs.Ytahoiilikhncgaa
/- Contracts: a column is brought into form. -/
namespace Go.Proofs.Ytahoiilikhncgaa
open Go.En Go.RowKit
set_option maxRecDepth 10000
set_option maxHeartbeats 4000000
open Go.Nt
open Go.Pz
open Go.Mz
open Go.Hn
theorem hnf_column {bw C : Nat} {gt : Gr (List Int)} {rs : List (List Int)} {t col W K : Nat} (hrow : ∀ r ∈ rs, r.length = W) (ht : t < rs.length) (hc : col < W) (hW : W ≤ 128) (hR : rs.length ≤ 64) (hb : ∀ r ∈ rs, Bd r K) (hK : (K + 3) * (rs.length + 2) ≤ 80000000) : CtrX Try.prog 50 [isPtr bw 0, isI (col : Int)] (hwM bw gt rs C t) (fun S M => S = isTup [] ∧ M = hwM bw gt (hcol ⟨rs, t⟩ col).rows C (hcol ⟨rs, t⟩ col).top) := by
 refine CtrX.intro Try.func50 rfl (by kernel_rfl) Try.ntmps50 rfl fun w0 F0 => ?_
 refine .cv (Cv.wk (.k 0 rfl (.k 1 rfl .nil))) ?_
 refine .fact (Has.rngI (Has.t (t := 1) rfl)) fun lt1 => ?_
 obtain ⟨N, hN⟩ : ∃ N, N = rs.length - (t + 1) := ⟨_, rfl⟩
 obtain ⟨P, hP⟩ : ∃ P, P = K + N * (K + 3) := ⟨_, rfl⟩
 have hK1 : (K + 3) * (rs.length + 2) = rs.length * (K + 3) + 2 * (K + 3) := by rw [Nat.mul_add, Nat.mul_comm (K + 3) rs.length, Nat.mul_comm (K + 3) 2]
 have hK2 : N * (K + 3) ≤ rs.length * (K + 3) := Nat.mul_le_mul_right _ (by omega)
 have hcl : hcol ⟨rs, t⟩ col = if cf ((jns rs t col N).getD t []) col = 0 then ⟨jns rs t col N, t⟩ else ⟨rds (hsg (jns rs t col N) t col) t col t, t + 1⟩ := by rw [hN]; rfl
 have hlenA := jns_len rs t col N
 obtain ⟨p, hp⟩ : ∃ p, (jns rs t col N)[t]? = some p := ⟨_, List.getElem?_eq_getElem (by omega)⟩
 have hrowA := jns_row hrow ht (col := col) N
 have hbA : ∀ r ∈ jns rs t col N, Bd r P := by rw [hP]; exact jns_bd hb N
 have hpl := hrowA p (List.mem_of_getElem? hp)
 have hpP := hbA p (List.mem_of_getElem? hp)
 have hpc := hpP col
 rw [getD_of hp] at hcl
 refine .seq fun _ k1 => ?_
 refine .seq fun _ k2 => .region (st (.mv (.t rfl)) rfl ?_)
 refine st (.nilc (.t rfl)) rfl ?_
 refine st (.fieldAddr (.t rfl) fld77_2 ty3) rfl ?_
 refine st (.load1 (.t rfl) (i := 0) rfl ty3 rfl) rfl ?_
 refine st (.addI (.t rfl) (Has.cI 1 rfl) (by first | omega | assumption) (by first | omega | assumption)) rfl ?_
 refine st (.as (.t rfl)) rfl ?_
 refine nl (.thn (k2 _ _ ?_)); clear k2
 refine .cv (Cv.wk (.k 0 rfl (.k 1 rfl (.k 4 rfl .nil)))) ?_
 refine .block ?_
 refine .loopF [0, 1] (fun (z : { n : Nat // n ≤ N }) => match z with | ⟨n, hn⟩ => [(4, isI ((t + 1 + n : Nat) : Int))]) (fun M => fun (z : { n : Nat // n ≤ N }) => match z with | ⟨n, hn⟩ => hwM bw gt (jns rs t col n) C t) (fun (z : { n : Nat // n ≤ N }) => match z with | ⟨n, hn⟩ => N - n) (⟨0, Nat.zero_le _⟩) (Cv.mem (.cons (t := 4) (Has.t' rfl ?_) (.k 0 rfl (.k 1 rfl .nil))) ?_) ?_
 ·exact isI_eq (by omega)
 ·rfl
 rintro ⟨n, hn⟩ K3 hK3
 refine .cv (Cv.wk (.k 4 rfl (.k 0 rfl (.k 1 rfl .nil)))) ?_
 refine .memEq (M' := hwM bw gt (jns rs t col n) C t) rfl ?_
 have hlen := jns_len rs t col n
 have hnK : n * (K + 3) ≤ N * (K + 3) := Nat.mul_le_mul_right _ hn
 refine .seq fun _ k4 => ?_
 refine .seq fun _ k5 => .region (st (.mv (.t rfl)) rfl ?_)
 refine st (.mv (.t rfl)) rfl ?_
 refine st (.nilc (.t rfl)) rfl ?_
 refine st (.fieldAddr (.t rfl) fld77_0 ty75) rfl ?_
 refine st (.load1 (.t rfl) (i := 0) rfl ty75 rfl) rfl ?_
 refine st (.len sl75 (.t rfl)) rfl ?_
 refine st (.ltI (.t rfl) (.t rfl)) rfl ?_
 refine nl (.thn (k5 _ _ ?_)); clear k5
 refine .cond (.t rfl) (fun hc1 => ?_) (fun hc1 => ?_)
 ·have hc1 := BP.t hc1
  skip
  refine .skip ?_
  refine .thn (k4 _ _ ?_); clear k4
  refine .seq fun _ k6 => ?_
  refine .block ?_
  refine .region (st (.mv (.t rfl)) rfl ?_)
  refine st (.mv (.t rfl)) rfl ?_
  refine st (.mv (.t rfl)) rfl ?_
  refine .callX (hnf_join (rs := jns rs t col n) (i := t + 1 + n) (col := col) (P := K + n * (K + 3)) (K := K) (jns_row hrow ht n) (by omega) (by omega) hc hW (by omega) (jns_bd hb n) (by rw [show (jns rs t col n).getD (t + 1 + n) [] = rs.getD (t + 1 + n) [] from by rw [List.getD, jns_far (Nat.le_refl _)]; rfl]; exact getD_bd hb _) (by omega)) (List.Perm.refl _) (.cons (.t rfl) (.cons (.t rfl) (.cons (.t rfl) .nil))) rfl ?_
  rintro _ _ ⟨rfl, rfl⟩
  refine .memEq (M' := hwM bw gt (jns rs t col (n + 1)) C t) rfl ?_
  refine nl ?_
  refine .bln ?_
  refine .thn (k6 _ _ ?_); clear k6
  refine .region (st (.mv (.t rfl)) rfl ?_)
  refine st (.addI (.t rfl) (Has.cI 1 rfl) (by first | omega | assumption) (by first | omega | assumption)) rfl ?_
  refine st (.as (.t rfl)) rfl ?_
  refine nl ?_
  refine .thn ?_
  refine hK3 (⟨n + 1, by omega⟩) _ _ ?_ (Cv.mem (.cons (t := 4) (Has.t' rfl ?_) (.k 0 rfl (.k 1 rfl .nil))) ?_)
  ·show N - (n + 1) < N - n; omega
  ·exact isI_eq (by omega)
  ·rfl
 ·have hc1 := BP.f hc1
  have hnN : N = n := (by omega)
  subst hnN
  refine .exit ?_
  refine .the ?_
  refine .the ?_
  refine .blh ?_
  refine .thn (k1 _ _ ?_); clear k1
  refine .cv (Cv.wk (.k 0 rfl (.k 1 rfl .nil))) ?_
  refine .cutF [0, 1] (fun (z : { c : List (List Int) // c = hsg (jns rs t col N) t col ∧ ¬ cf p col = 0 }) => match z with | ⟨c, hcs⟩ => []) (fun M => fun (z : { c : List (List Int) // c = hsg (jns rs t col N) t col ∧ ¬ cf p col = 0 }) => match z with | ⟨c, hcs⟩ => hwM bw gt c C t) (fun K7 hK7 => ?_) ?_
  ·skip
   refine .seq fun _ k8 => ?_
   refine .dr ?_
   refine .st (i := 0) [] rfl rfl rfl (by kernel_rfl) (OKG.o rfl (.mv (.t rfl))) ?_
   refine .st (i := 1) [23] rfl rfl rfl (by kernel_rfl) (OKG.o rfl (.nilc (.t rfl))) ?_
   refine .st (i := 2) [24] rfl rfl rfl (by kernel_rfl) (OKG.o rfl (.fieldAddr (.t rfl) fld77_0 ty75)) ?_
   refine .st (i := 3) [25] rfl rfl rfl (by kernel_rfl) (OKG.o rfl (.load1 (.t rfl) (i := 0) rfl ty75 rfl)) ?_
   refine .st (i := 4) [] rfl rfl rfl (by kernel_rfl) (OKG.o rfl (.mv (.t rfl))) ?_
   refine .st (i := 5) [27] rfl rfl rfl (by kernel_rfl) (OKG.o rfl (.nilc (.t rfl))) ?_
   refine .st (i := 6) [28] rfl rfl rfl (by kernel_rfl) (OKG.o rfl (.fieldAddr (.t rfl) fld77_2 ty3)) ?_
   refine .st (i := 7) [29] rfl rfl rfl (by kernel_rfl) (OKG.o rfl (.load1 (.t rfl) (i := 0) rfl ty3 rfl)) ?_
   refine .st (i := 8) [26, 30] rfl rfl rfl (by kernel_rfl) (OKG.o rfl (.ixGr sl75 ty22 (.t rfl) (.t rfl) ⟨by omega, by omega⟩)) ?_
   refine .st (i := 9) [31] rfl rfl rfl (by kernel_rfl) (OKG.o rfl (.loadGM (.t rfl) (i := 1) rfl ty22 hp)) ?_
   refine .st (i := 10) [] rfl rfl rfl (by kernel_rfl) (OKG.o rfl (.mv (.t rfl))) ?_
   refine .fin (n := 11) mixed (by kernel_rfl) (by kernel_rfl) (by kernel_rfl) ?_
   refine .cv (Cv.wk (.k 0 rfl (.k 1 rfl (.k 32 rfl (.k 33 rfl .nil))))) ?_
   refine st (.ixK sl22 ty32 (.t rfl) (.t rfl) zc_len ⟨by omega, by rw [List.length_map]; omega⟩ (getZ (i := col) (by omega))) rfl ?_
   refine st (.loadP (.t rfl) ty32 rfl (Ss' := [_, _]) rfl) rfl ?_
   refine st (.eq (.call (zint_Sign (by rw [val_words]; omega)) (.cons (.t rfl) .nil)) ((show _ = isI (sgn (cf p col)) from by first | (rw [zv_nf]; done) | (rw [zv_nz]; done) | rfl))) rfl ?_
   refine nl (.thn (k8 _ _ ?_)); clear k8
   refine .block ?_
   refine .seq fun _ k9 => .region (st (.eqI (.t rfl) (Has.cI 0 rfl)) rfl ?_)
   refine st (.as (.t rfl)) rfl ?_
   refine nl (.thn (k9 _ _ ?_)); clear k9
   refine .cv (Cv.wk (.k 0 rfl (.k 1 rfl (.k 36 rfl (.k 37 rfl .nil))))) ?_
   refine .cond (.t rfl) (fun hc2 => ?_) (fun hc2 => ?_)
   ·have hc2 := BP.t hc2
    have h0 : cf p col = 0 := (sgn_eq0 _).1 hc2
    refine .ret ?_
    refine .blr ?_
    refine .thr ?_
    refine rtX0 (.inl rfl) Try.results50 rfl ?_
    exact ⟨rfl, by rw [hcl, if_pos h0]⟩
   ·have hc2 := BP.f hc2
    have h0 : ¬ cf p col = 0 := fun e => hc2 ((sgn_eq0 _).2 e)
    refine .seq fun _ k10 => .region (st (.eqI (.t rfl) (Has.cI (-1) rfl)) rfl ?_)
    refine st (.as (.t rfl)) rfl ?_
    refine nl (.thn (k10 _ _ ?_)); clear k10
    refine .cond (.t rfl) (fun hc3 => ?_) (fun hc3 => ?_)
    ·have hc3 := BP.t hc3
     have hl0 : cf p col < 0 := (sgn_lt _).1 (by omega)
     refine .dry mixed ?_
     refine .take (i := 0) rfl rfl rfl rfl (by kernel_rfl) (by kernel_rfl) (by kernel_rfl) (by kernel_rfl) (fun _ _ _ _ h => h) (OKY.mv (.t rfl)) ?_
     refine .take (i := 1) rfl rfl rfl rfl (by kernel_rfl) (by kernel_rfl) (by kernel_rfl) (by kernel_rfl) (fun _ _ _ _ h => h) (OKY.nilc (.t rfl)) ?_
     refine .take (i := 2) rfl rfl rfl rfl (by kernel_rfl) (by kernel_rfl) (by kernel_rfl) (by kernel_rfl) (fun _ _ _ _ h => h) (OKY.fieldAddr (.t rfl) fld77_0 ty75) ?_
     refine .take (i := 4) rfl rfl rfl rfl (by kernel_rfl) (by kernel_rfl) (by kernel_rfl) (by kernel_rfl) (fun _ _ _ _ h => h) (OKY.mv (.t rfl)) ?_
     refine .take (i := 5) rfl rfl rfl rfl (by kernel_rfl) (by kernel_rfl) (by kernel_rfl) (by kernel_rfl) (fun _ _ _ _ h => h) (OKY.nilc (.t rfl)) ?_
     refine .take (i := 6) rfl rfl rfl rfl (by kernel_rfl) (by kernel_rfl) (by kernel_rfl) (by kernel_rfl) (fun _ _ _ _ h => h) (OKY.fieldAddr (.t rfl) fld77_2 ty3) ?_
     refine .take (i := 9) rfl rfl rfl rfl (by kernel_rfl) (by kernel_rfl) (by kernel_rfl) (by kernel_rfl) (fun _ _ _ _ h => h) (OKY.mv (.t rfl)) ?_
     refine .take (i := 10) rfl rfl rfl rfl (by kernel_rfl) (by kernel_rfl) (by kernel_rfl) (by kernel_rfl) (fun _ _ _ _ h => h) (OKY.nilc (.t rfl)) ?_
     refine .take (i := 11) rfl rfl rfl rfl (by kernel_rfl) (by kernel_rfl) (by kernel_rfl) (by kernel_rfl) (fun _ _ _ _ h => h) (OKY.fieldAddr (.t rfl) fld77_0 ty75) ?_
     refine .take (i := 13) rfl rfl rfl rfl (by kernel_rfl) (by kernel_rfl) (by kernel_rfl) (by kernel_rfl) (fun _ _ _ _ h => h) (OKY.mv (.t rfl)) ?_
     refine .take (i := 14) rfl rfl rfl rfl (by kernel_rfl) (by kernel_rfl) (by kernel_rfl) (by kernel_rfl) (fun _ _ _ _ h => h) (OKY.nilc (.t rfl)) ?_
     refine .take (i := 15) rfl rfl rfl rfl (by kernel_rfl) (by kernel_rfl) (by kernel_rfl) (by kernel_rfl) (fun _ _ _ _ h => h) (OKY.fieldAddr (.t rfl) fld77_2 ty3) ?_
     refine .take (i := 20) rfl rfl rfl rfl (by kernel_rfl) (by kernel_rfl) (by kernel_rfl) (by kernel_rfl) (fun _ _ _ _ h => h) (OKY.mv (.t rfl)) ?_
     refine .take (i := 21) rfl rfl rfl rfl (by kernel_rfl) (by kernel_rfl) (by kernel_rfl) (by kernel_rfl) (fun _ _ _ _ h => h) (OKY.nilc (.t rfl)) ?_
     refine .take (i := 22) rfl rfl rfl rfl (by kernel_rfl) (by kernel_rfl) (by kernel_rfl) (by kernel_rfl) (fun _ _ _ _ h => h) (OKY.fieldAddr (.t rfl) fld77_0 ty75) ?_
     refine .take (i := 24) rfl rfl rfl rfl (by kernel_rfl) (by kernel_rfl) (by kernel_rfl) (by kernel_rfl) (fun _ _ _ _ h => h) (OKY.mv (.t rfl)) ?_
     refine .take (i := 25) rfl rfl rfl rfl (by kernel_rfl) (by kernel_rfl) (by kernel_rfl) (by kernel_rfl) (fun _ _ _ _ h => h) (OKY.nilc (.t rfl)) ?_
     refine .take (i := 26) rfl rfl rfl rfl (by kernel_rfl) (by kernel_rfl) (by kernel_rfl) (by kernel_rfl) (fun _ _ _ _ h => h) (OKY.fieldAddr (.t rfl) fld77_2 ty3) ?_
     refine .go [] ?_
     refine .st (i := 3) [] rfl rfl rfl (by kernel_rfl) (by kernel_rfl) (OKG.o rfl (.load1 (.t rfl) (i := 0) rfl ty75 rfl)) ?_
     refine .st (i := 7) [] rfl rfl rfl (by kernel_rfl) (by kernel_rfl) (OKG.o rfl (.load1 (.t rfl) (i := 0) rfl ty3 rfl)) ?_
     refine .st (i := 8) [] rfl rfl rfl (by kernel_rfl) (by kernel_rfl) (OKG.o rfl (.call (zint_Of) (.cons (Has.cI (-1) rfl) .nil))) ?_
     refine .st (i := 12) [] rfl rfl rfl (by kernel_rfl) (by kernel_rfl) (OKG.o rfl (.load1 (.t rfl) (i := 0) rfl ty75 rfl)) ?_
     refine .st (i := 16) [] rfl rfl rfl (by kernel_rfl) (by kernel_rfl) (OKG.o rfl (.load1 (.t rfl) (i := 0) rfl ty3 rfl)) ?_
     refine .st (i := 17) [53, 57] rfl rfl rfl (by kernel_rfl) (by kernel_rfl) (OKG.o rfl (.ixGr sl75 ty22 (.t rfl) (.t rfl) ⟨by omega, by omega⟩)) ?_
     refine .st (i := 18) [58] rfl rfl rfl (by kernel_rfl) (by kernel_rfl) (OKG.o rfl (.loadGM (.t rfl) (i := 1) rfl ty22 hp)) ?_
     refine .st (i := 19) [] rfl rfl rfl (by kernel_rfl) (by kernel_rfl) (OKG.o rfl (.build [isB false, SlM isU []] pl32 zero32 (fun _ _ => ⟨rfl, nilM _ _, trivial⟩) .nil (Z'' := [_, _]) rfl)) ?_
     refine .st (i := 23) [] rfl rfl rfl (by kernel_rfl) (by kernel_rfl) (OKG.o rfl (.load1 (.t rfl) (i := 0) rfl ty75 rfl)) ?_
     refine .st (i := 27) [] rfl rfl rfl (by kernel_rfl) (by kernel_rfl) (OKG.o rfl (.load1 (.t rfl) (i := 0) rfl ty3 rfl)) ?_
     refine .st (i := 28) [64, 68] rfl rfl rfl (by kernel_rfl) (by kernel_rfl) (OKG.o rfl (.ixGr sl75 ty22 (.t rfl) (.t rfl) ⟨by omega, by omega⟩)) ?_
     refine .st (i := 29) [69] rfl rfl rfl (by kernel_rfl) (by kernel_rfl) (OKG.o rfl (.loadGM (.t rfl) (i := 1) rfl ty22 hp)) ?_
     refine .st (i := 30) [49, 59, 60, 70] rfl rfl rfl (by kernel_rfl) (by kernel_rfl) (OKG.o rfl (.eq (.call (hnf_mixed (A := 1) (B := 1) (K := P) (L := P) (by rw [val_words]; exact nw_small' (by decide)) (by rw [vals_nz]; exact hpP) (by exact nw_small' (by decide)) (by rw [vals_nz]; exact hpP) (by omega) (by omega) rfl (by rw [List.length_map]; omega)) (.cons (.t rfl) (.cons (.t rfl) (.cons (.t rfl) (.cons (.t rfl) .nil))))) ((show _ = isP (mx2 (-1) p 0 p) from isPl_eq (by simp only [zv_nf, vals_nz]; rfl))))) ?_
     refine .fin [31, 32] (by kernel_rfl) (by kernel_rfl) (fun _ _ _ _ _ h => h) (by kernel_rfl) (by kernel_rfl) (by kernel_rfl) (by kernel_rfl) (by kernel_rfl) (by kernel_rfl) (by kernel_rfl) (by kernel_rfl) (by kernel_rfl) ?_
     refine .cv (Cv.wk (.k 0 rfl (.k 1 rfl (.k 44 rfl (.k 48 rfl (.k 71 rfl .nil)))))) ?_
     refine st (.ixGr sl75 ty22 (.t rfl) (.t rfl) ⟨by omega, by omega⟩) rfl ?_
     refine .storeGM (z := mx2 (-1) p 0 p) (.t rfl) (.t rfl) (i := 1) rfl ty22 (by omega) (M' := [_, grM _ _ _]) rfl ?_
     refine nl ?_
     refine .bln ?_
     refine .thn ?_
     refine hK7 (⟨_, rfl, h0⟩) _ _ (Cv.mem (.k 0 rfl (.k 1 rfl .nil)) ?_)
     ·exact hwM_eq (by unfold hsg; rw [getD_of hp, if_pos hl0]; rfl) (by rw [hsg_len])
    ·have hc3 := BP.f hc3
     have hl0 : ¬ cf p col < 0 := fun e => by rcases sgn_cases (cf p col) with h | h | h <;> omega
     refine .skip ?_
     refine .bln ?_
     refine .thn ?_
     refine hK7 (⟨_, rfl, h0⟩) _ _ (Cv.mem (.k 0 rfl (.k 1 rfl .nil)) ?_)
     ·exact hwM_eq (by unfold hsg; rw [getD_of hp, if_neg hl0]) (by rw [hsg_len])
  rintro ⟨c, hcs, h0⟩
  refine .cv (Cv.wk (.k 0 rfl (.k 1 rfl .nil))) ?_
  refine .memEq (M' := hwM bw gt c C t) rfl ?_
  subst hcs
  have hpos := hsg_pos hp h0
  refine .seq fun _ k11 => .region (st (.mv (.t rfl)) rfl ?_)
  refine st (.mv (.t rfl)) rfl ?_
  refine .callX (hnf_reduce (rs := hsg (jns rs t col N) t col) (col := col) (P := P) (hsg_row hrowA (by omega)) (by rw [hsg_len]; omega) hc hW (by rw [hsg_len]; omega) (hsg_bd hbA) (by omega) hpos) (List.Perm.refl _) (.cons (.t rfl) (.cons (.t rfl) .nil)) rfl ?_
  rintro _ _ ⟨rfl, rfl⟩
  refine .memEq (M' := hwM bw gt (rds (hsg (jns rs t col N) t col) t col t) C t) rfl ?_
  refine nl (.thn (k11 _ _ ?_)); clear k11
  refine .region (st (.mv (.t rfl)) rfl ?_)
  refine st (.nilc (.t rfl)) rfl ?_
  refine st (.fieldAddr (.t rfl) fld77_2 ty3) rfl ?_
  refine st (.load1 (.t rfl) (i := 0) rfl ty3 rfl) rfl ?_
  refine st (.addI (.t rfl) (Has.cI 1 rfl) (by first | omega | assumption) (by first | omega | assumption)) rfl ?_
  refine st (.nilc (.t rfl)) rfl ?_
  refine st (.fieldAddr (.t rfl) fld77_2 ty3) rfl ?_
  refine .store (.t rfl) (.t rfl) (i := 0) rfl ty3 rfl rfl (Ss' := [_, _, _]) rfl (M' := [(some _, cellM [_, _, _]), _]) rfl ?_
  refine nl ?_
  refine rtX0 (.inr rfl) Try.results50 rfl ?_
  exact ⟨rfl, (hwM_top (top' := t + 1) (by omega)).trans (by rw [hcl, if_neg h0])⟩
end Go.Proofs.Ytahoiilikhncgaa
/- Contracts: parts of rows. -/
namespace Go.Proofs.Ytahoiilikhncgaa
open Go.En Go.RowKit
set_option maxRecDepth 10000
set_option maxHeartbeats 4000000
open Go.Nt
open Go.Pz
open Go.Mz
open Go.Hn
theorem hnf_part {rs : List (List Int)} {W lo hi : Nat} {c tp : Int} (hrow : ∀ r ∈ rs, r.length = W) (h1 : lo ≤ hi) (h2 : hi ≤ W) (hW : W ≤ 128) (hR : rs.length ≤ 64) : Ctr Try.prog 51 [PtrL [SlM isP rs, isI c, isI tp], isI (lo : Int), isI (hi : Int)] (isMz rs.length (hi - lo) (flatP lo hi rs)) := by
 refine Ctr.intro Try.func51 rfl (by kernel_rfl) Try.ntmps51 rfl fun w0 F0 => ?_
 refine .cv (Cv.wk (.k 0 rfl (.k 1 rfl (.k 2 rfl .nil)))) ?_
 refine .fact (Has.rngI (Has.t (t := 1) rfl)) fun lt1 => ?_
 refine .fact (Has.rngI (Has.t (t := 2) rfl)) fun lt2 => ?_
 have hmx : ∀ i, i ≤ rs.length → (flatP lo hi (rs.take i)).length ≤ 8192 := fun i hi' => by
  rw [flatP_len (rs := rs.take i) h1 h2 (fun r hr => hrow r (List.mem_of_mem_take hr)), List.length_take]
  exact Nat.le_trans (Nat.mul_le_mul (show _ ≤ 64 by omega) (show hi - lo ≤ 128 by omega)) (by decide)
 refine .seq fun _ k1 => .region (.alloc [isI 0, isI 0, nilS] zero24 (fun _ _ => ⟨⟨rfl, by decide, by decide⟩, ⟨rfl, by decide, by decide⟩, rfl, trivial⟩) rfl fun b1 => ?_)
 refine nl (.thn (k1 _ _ ?_)); clear k1
 refine .seq fun _ k2 => .region (st (.mv (.t rfl)) rfl ?_)
 refine st (.nilcP (.t rfl)) rfl ?_
 refine st (.fieldAddrP (.t rfl) fld77_0 ty75 (Ss' := [_, _, _]) rfl) rfl ?_
 refine st (.loadP1 (.t rfl) ty75) rfl ?_
 refine st (.len sl75 (.t rfl)) rfl ?_
 refine st (.mv (.t rfl)) rfl ?_
 refine st (.mv (.t rfl)) rfl ?_
 refine st (.eq (.subI (.t rfl) (.t rfl) (by first | omega | assumption) (by first | omega | assumption)) ((show isI _ = isI ((hi - lo : Nat) : Int) from isI_eq (by omega)))) rfl ?_
 refine st (.build [isI 0, isI 0, nilS] pl24 zero24 (fun _ _ => ⟨⟨rfl, by decide, by decide⟩, ⟨rfl, by decide, by decide⟩, rfl, trivial⟩) (.cons (.t rfl) rfl rfl rfl (.cons (.t rfl) rfl rfl rfl .nil)) (Z'' := [_, _, _]) rfl) rfl ?_
 refine .alloc [isI 0, isI 0, nilS] zero24 (fun _ _ => ⟨⟨rfl, by decide, by decide⟩, ⟨rfl, by decide, by decide⟩, rfl, trivial⟩) rfl fun b2 => ?_
 refine .store (.t rfl) (.t rfl) (i := 0) rfl ty24 rfl rfl (Ss' := [_, _, _]) rfl (M' := [(some _, cellM [_, _, _]), _]) rfl ?_
 refine nl (.thn (k2 _ _ ?_)); clear k2
 refine .cv (Cv.wk (.k 0 rfl (.k 1 rfl (.k 2 rfl (.k 6 rfl (.k 7 rfl .nil)))))) ?_
 refine .seq fun _ k3 => ?_
 refine .seq fun _ k4 => ?_
 refine .cv (Cv.growF (Bool × List Nat) (i := 0) (o := 2) rfl rfl rfl) ?_
 refine .memEq (M' := [grMK zc Gr.nil [], _, _]) rfl ?_
 refine .region (st (.mv (.t rfl)) rfl ?_)
 refine st (.nilcP (.t rfl)) rfl ?_
 refine st (.fieldAddrP (.t rfl) fld77_0 ty75 (Ss' := [_, _, _]) rfl) rfl ?_
 refine st (.loadP1 (.t rfl) ty75) rfl ?_
 refine st (.len sl75 (.t rfl)) rfl ?_
 refine st (.mv (Has.cI 0 rfl)) rfl ?_
 refine nl (.thn (k4 _ _ ?_)); clear k4
 refine .block ?_
 refine .loopF [1, 2, 6, 7, 22, 23] (fun (z : { z : Nat × Gr (Bool × List Nat) // z.1 ≤ rs.length }) => match z with | ⟨(i, g), hI⟩ => [(24, isI (i : Int))]) (fun M => fun (z : { z : Nat × Gr (Bool × List Nat) // z.1 ≤ rs.length }) => match z with | ⟨(i, g), hI⟩ => [grMK zc g ((flatP lo hi (rs.take i)).map nz), (some b2, cellM [isI (rs.length : Int), isI ((hi - lo : Nat) : Int), isGr g ((flatP lo hi (rs.take i)).map nz).length]), (some b1, cellM [isI 0, isI 0, nilS])]) (fun (z : { z : Nat × Gr (Bool × List Nat) // z.1 ≤ rs.length }) => match z with | ⟨(i, g), hI⟩ => rs.length - i) (⟨(0, Gr.nil), Nat.zero_le _⟩) (Cv.mem (.cons (t := 24) (Has.t' rfl ?_) (.k 1 rfl (.k 2 rfl (.k 6 rfl (.k 7 rfl (.k 22 rfl (.k 23 rfl .nil))))))) ?_) ?_
 ·rfl
 ·rfl
 rintro ⟨⟨i, g⟩, hI⟩ K5 hK5
 refine .cv (Cv.wk (.k 24 rfl (.k 1 rfl (.k 2 rfl (.k 6 rfl (.k 7 rfl (.k 22 rfl (.k 23 rfl .nil)))))))) ?_
 refine .memEq (M' := [grMK zc g ((flatP lo hi (rs.take i)).map nz), (some b2, cellM [isI (rs.length : Int), isI ((hi - lo : Nat) : Int), isGr g ((flatP lo hi (rs.take i)).map nz).length]), (some b1, cellM [isI 0, isI 0, nilS])]) rfl ?_
 simp only [] at hI
 have hfl := hmx i hI
 refine .seq fun _ k6 => .region (st (.ltI (.t rfl) (.t rfl)) rfl ?_)
 refine nl (.thn (k6 _ _ ?_)); clear k6
 refine .seq fun _ k7 => ?_
 refine .cond (.t rfl) (fun hc1 => ?_) (fun hc1 => ?_)
 ·have hc1 := BP.t hc1
  obtain ⟨r, hr⟩ : ∃ r, rs[i]? = some r := ⟨_, List.getElem?_eq_getElem (by omega)⟩
  have hrW := hrow r (List.mem_of_getElem? hr)
  have hrm : (((r.take hi).drop lo).map nz).length = hi - lo := by rw [List.length_map, List.length_drop, List.length_take]; omega
  refine .skip ?_
  refine .thn (k7 _ _ ?_); clear k7
  refine .seq fun _ k8 => ?_
  refine .block ?_
  refine .seq fun _ k9 => .region (st (.ixP sl75 ty22 (.t rfl) (.t rfl) ⟨by omega, by omega⟩ hr) rfl ?_)
  refine st (.loadP1 (.t rfl) ty22) rfl ?_
  refine st (.as (.t rfl)) rfl ?_
  refine nl (.thn (k9 _ _ ?_)); clear k9
  refine .dry mixed ?_
  refine .take (i := 0) rfl rfl rfl rfl (by kernel_rfl) (by kernel_rfl) (by kernel_rfl) (by kernel_rfl) (fun _ _ _ _ h => h) (OKY.fieldAddr (.t rfl) fld24_2 ty22) ?_
  refine .take (i := 2) rfl rfl rfl rfl (by kernel_rfl) (by kernel_rfl) (by kernel_rfl) (by kernel_rfl) (fun _ _ _ _ h => h) (OKY.mv (.t rfl)) ?_
  refine .take (i := 3) rfl rfl rfl rfl (by kernel_rfl) (by kernel_rfl) (by kernel_rfl) (by kernel_rfl) (fun _ _ _ _ h => h) (OKY.mv (.t rfl)) ?_
  refine .take (i := 4) rfl rfl rfl rfl (by kernel_rfl) (by kernel_rfl) (by kernel_rfl) (by kernel_rfl) (fun _ _ _ _ h => h) (OKY.mv (.t rfl)) ?_
  refine .go [] ?_
  refine .st (i := 1) [] rfl rfl rfl (by kernel_rfl) (by kernel_rfl) (OKG.o rfl (.load1 (.t rfl) (i := 1) rfl ty22 rfl)) ?_
  refine .st (i := 5) [] rfl rfl rfl (by kernel_rfl) (by kernel_rfl) (OKG.o rfl (.eq (.slLHK sl22 ty32 zc_len (.t rfl) (.t rfl) (.t rfl) ⟨by omega, by omega, by rw [List.length_map]; omega⟩) ((show _ = SlK 2 zc (((r.take hi).drop lo).map nz) from SlK_eq (by rw [List.map_drop, List.map_take]; rfl))))) ?_
  refine .fin [6, 7, 8] (by kernel_rfl) (by kernel_rfl) (fun _ _ _ _ _ h => h) (by kernel_rfl) (by kernel_rfl) (by kernel_rfl) (by kernel_rfl) (by kernel_rfl) (by kernel_rfl) (by kernel_rfl) (by kernel_rfl) (by kernel_rfl) ?_
  refine .cv (Cv.wk (.k 1 rfl (.k 2 rfl (.k 6 rfl (.k 7 rfl (.k 22 rfl (.k 23 rfl (.k 24 rfl (.k 25 rfl (.k 26 rfl (.k 27 rfl (.k 9 rfl (.k 28 rfl (.k 30 rfl (.k 31 rfl (.k 32 rfl (.k 29 rfl (.k 33 rfl .nil)))))))))))))))))) ?_
  refine .appendGK0 (fk := zc) (u := (false, [])) zc_len (by decide) (fun _ => inferInstance) sl22 ty32 zero32 (fun _ _ => ⟨rfl, nilM _ _, trivial⟩) by32 (.t rfl) (i := 0) rfl (.t rfl) (by rw [List.length_map, hrm]; omega) rfl fun gr1 => ?_
  refine .memEq (M' := [grMK _ _ _, _, _]) rfl ?_
  refine st (.fieldAddr (.t rfl) fld24_2 ty22) rfl ?_
  refine .store (.t rfl) (.t rfl) (i := 1) rfl ty22 rfl rfl (Ss' := [_, _, _]) rfl (M' := [_, (some _, cellM [_, _, _]), _]) rfl ?_
  refine nl ?_
  refine .bln ?_
  refine .thn (k8 _ _ ?_); clear k8
  refine .region (st (.addI (.t rfl) (Has.cI 1 rfl) (by first | omega | assumption) (by first | omega | assumption)) rfl ?_)
  refine st (.mv (.t rfl)) rfl ?_
  refine nl ?_
  refine .thn ?_
  refine hK5 (⟨(i + 1, gr1), by show i + 1 ≤ rs.length; omega⟩) _ _ ?_ (Cv.mem (.cons (t := 24) (Has.t' rfl ?_) (.k 1 rfl (.k 2 rfl (.k 6 rfl (.k 7 rfl (.k 22 rfl (.k 23 rfl .nil))))))) ?_)
  ·show rs.length - (i + 1) < rs.length - i; omega
  ·exact isI_eq (by omega)
  ·exact grF_eq (by rw [flatP_succ hr, List.map_append, List.length_append]) (by rw [flatP_succ hr, List.map_append])
 ·have hc1 := BP.f hc1
  refine .exit ?_
  refine .the ?_
  refine .the ?_
  refine .blh ?_
  refine .thn (k3 _ _ ?_); clear k3
  refine .cv (Cv.wk (.k 6 rfl (.k 7 rfl .nil))) ?_
  refine .seq fun _ k10 => ?_
  refine .cv (Cv.freezeF (k := 2) (i := 0) (j := 0) (o := 2) rfl rfl rfl rfl (gr_lenK zc_len) (gr_takeK zc_len) (Ss' := [_, _, SlK 2 zc ((flatP lo hi (rs.take i)).map nz)]) rfl) ?_
  refine .memEq (M' := [(some _, cellM [_, _, SlK 2 zc ((flatP lo hi (rs.take i)).map nz)]), _]) rfl ?_
  refine .cv (Cv.wk (.k 6 rfl (.k 7 rfl .nil))) ?_
  refine .region (st (.load (.t rfl) (i := 0) rfl ty24 rfl (Ss' := [_, _, _]) rfl) rfl ?_)
  refine .store (.t rfl) (.t rfl) (i := 1) rfl ty24 rfl rfl (Ss' := [_, _, _]) rfl (M' := [_, (some _, cellM [_, _, _])]) rfl ?_
  refine nl (.thn (k10 _ _ ?_)); clear k10
  refine .ret ?_
  refine rt1 (.inl rfl) Try.results51 rfl (.cell rfl (i := 1) rfl ty24 rfl ?_ .nil)
  all_goals (exact isMz_eq (by rw [List.take_of_length_le (by omega)]))
end Go.Proofs.Ytahoiilikhncgaa
/- How far the numbers of Hermite's form grow: by the pivots that are found. No program here. -/
namespace Go.Hp
open Go.Dt Go.Hn Go.Pz Go.Nt Go.Mz Go.En
theorem jns_keep0 {rs : List (List Int)} {t col W : Nat} (hrow : ∀ r ∈ rs, r.length = W) (ht : t < rs.length) : ∀ n, t + 1 + n ≤ rs.length → E (jns rs t col n) t col = 0 → jns rs t col n = rs
  | 0, _, _ => rfl
  | n + 1, hn, h0 => by
    have hl := jns_len rs t col n
    have hr := jns_row hrow ht (col := col) n
    have e1 : ((jns rs t col n).getD (t + 1 + n) []).length = ((jns rs t col n).getD t []).length := (all_getD hr (by omega)).trans (all_getD hr (by omega)).symm
    have ih := jns_keep0 hrow ht (col := col) n (by omega)
    revert h0
    show E (jn _ _ _ _) t col = 0 → jn _ _ _ _ = rs
    unfold jn
    split
    · exact ih
    · rename_i hg
      intro h0
      rw [E_set (by rw [List.length_set]; omega), E_set (by omega), if_neg (by omega), if_pos rfl, cf_mx2 e1, xg_bezout] at h0
      exact absurd h0 hg
def hq (R K : Nat) : Nat → Nat
  | 0 => K
  | t + 1 => hq R K t * (R + 1 - t)
theorem hq_mono {R K t u : Nat} (h : t ≤ u) (hu : u ≤ R) : hq R K t ≤ hq R K u := by
  induction u with
  | zero => rw [show t = 0 by omega]; exact Nat.le_refl _
  | succ u ih =>
    rcases Nat.lt_or_ge u t with g | g
    · rw [show t = u + 1 by omega]; exact Nat.le_refl _
    · exact Nat.le_trans (ih g (by omega)) (Nat.le_mul_of_pos_right _ (by omega))
theorem hq_pow {R K : Nat} : ∀ t, hq R K t ≤ K * (R + 2) ^ t
  | 0 => by rw [Nat.pow_zero, Nat.mul_one]; exact Nat.le_refl _
  | t + 1 => by
    rw [Nat.pow_succ, ← Nat.mul_assoc]
    exact Nat.mul_le_mul (hq_pow t) (by omega)
theorem hcol_bd2 {s : HS} {K W : Nat} (col : Nat) (hr : ∀ r ∈ s.rows, r.length = W) (ht : s.top < s.rows.length) (h : ∀ r ∈ s.rows, Bd r K) :
    ((hcol s col).top = s.top ∧ ∀ r ∈ (hcol s col).rows, Bd r K) ∨ ((hcol s col).top = s.top + 1 ∧ ∀ r ∈ (hcol s col).rows, Bd r ((K + 3) * (s.rows.length + 1 - s.top) - 3)) := by
  have hj := jns_bd (t := s.top) (col := col) h (s.rows.length - (s.top + 1))
  unfold hcol hjs
  split
  · rename_i h0
    refine .inl ⟨rfl, ?_⟩
    have e := jns_keep0 hr ht (col := col) (s.rows.length - (s.top + 1)) (by omega) h0
    show ∀ r ∈ jns s.rows s.top col (s.rows.length - (s.top + 1)), Bd r K
    rw [e]; exact h
  · rename_i h0
    refine .inr ⟨rfl, ?_⟩
    have hg := hsg_bd (t := s.top) (col := col) hj
    have htj : s.top < (jns s.rows s.top col (s.rows.length - (s.top + 1))).length := by rw [jns_len]; exact ht
    have hpos := hsg_pos (rs := jns s.rows s.top col (s.rows.length - (s.top + 1))) (t := s.top) (col := col) (List.getElem?_eq_getElem htj) (by rwa [List.getD, List.getElem?_eq_getElem htj] at h0)
    have hlow : ∀ i, i < s.top → Bd ((hsg (jns s.rows s.top col (s.rows.length - (s.top + 1))) s.top col).getD i []) K := fun i hi => by
      have e : (hsg (jns s.rows s.top col (s.rows.length - (s.top + 1))) s.top col).getD i [] = s.rows.getD i [] := by
        unfold hsg
        split
        · rw [List.getD, List.getElem?_set_ne (by omega), jns_off hi]; rfl
        · rw [List.getD, jns_off hi]; rfl
      rw [e]; exact getD_bd h i
    have em : (K + 3) * (s.rows.length + 1 - s.top) = (s.rows.length - (s.top + 1)) * (K + 3) + 2 * (K + 3) := by
      rw [show s.rows.length + 1 - s.top = (s.rows.length - (s.top + 1)) + 2 by omega, Nat.mul_add, Nat.mul_comm (K + 3), Nat.mul_comm (K + 3)]
    exact fun r hr => (rds_bd hpos (getD_bd hg _) hlow hg (by omega) s.top (Nat.le_refl _) r hr).mono (by omega)
theorem hq_ge {R K t : Nat} (h : t ≤ R) : K ≤ hq R K t := hq_mono (R := R) (K := K) (Nat.zero_le t) h
theorem hred_hq {R W K : Nat} {s : HS} (h : HOk R W K s) (h0 : s.top = 0) : ∀ c, ∀ r ∈ (hred s c).rows, Bd r (hq R (K + 3) (hred s c).top - 3)
  | 0 => fun r hr => (h.bd r hr).mono (by show K ≤ hq R (K + 3) s.top - 3; rw [h0]; show K ≤ K + 3 - 3; omega)
  | c + 1 => by
    have ih := hred_hq h h0 c
    have ho := hred_ok h c
    have hg := hq_ge (K := K + 3) ho.top
    show ∀ r ∈ (if (hred s c).top < (hred s c).rows.length then hcol (hred s c) c else hred s c).rows, Bd r (hq R (K + 3) (if (hred s c).top < (hred s c).rows.length then hcol (hred s c) c else hred s c).top - 3)
    split
    · rename_i ht
      rcases hcol_bd2 c ho.row ht ih with ⟨e, hb⟩ | ⟨e, hb⟩
      · rw [e]; exact hb
      · rw [e]
        show ∀ r ∈ _, Bd r (hq R (K + 3) (hred s c).top * (R + 1 - (hred s c).top) - 3)
        rw [ho.len, show hq R (K + 3) (hred s c).top - 3 + 3 = hq R (K + 3) (hred s c).top by omega] at hb
        exact hb
    · exact ih
theorem hred_top {R W K : Nat} {s : HS} (h : HOk R W K s) : ∀ c, (hred s c).top ≤ (hred s (c + 1)).top ∧ (hred s (c + 1)).top ≤ (hred s c).top + 1 := fun c => by
  have ho := hred_ok h c
  show _ ≤ (if (hred s c).top < (hred s c).rows.length then hcol (hred s c) c else hred s c).top ∧ (if (hred s c).top < (hred s c).rows.length then hcol (hred s c) c else hred s c).top ≤ _
  split
  · rename_i ht
    rcases hcol_bd2 c ho.row ht ho.bd with ⟨e, _⟩ | ⟨e, _⟩ <;> rw [e] <;> omega
  · omega
theorem hred_mono {R W K : Nat} {s : HS} (h : HOk R W K s) {c C : Nat} (hc : c ≤ C) : (hred s c).top ≤ (hred s C).top := by
  induction C with
  | zero => rw [show c = 0 by omega]; exact Nat.le_refl _
  | succ C ih =>
    rcases Nat.lt_or_ge C c with g | g
    · rw [show c = C + 1 by omega]; exact Nat.le_refl _
    · exact Nat.le_trans (ih g) (hred_top h C).1
theorem hred_le {R W K : Nat} {s : HS} (h : HOk R W K s) : ∀ c, (hred s c).top ≤ s.top + c
  | 0 => Nat.le_refl _
  | c + 1 => by have := hred_le h c; have := (hred_top h c).2; omega
def hrk (R C : Nat) (L : List Int) : Nat := (hrm R C L).top
theorem hrk_leC {R C K : Nat} {L : List Int} (h : Bd L K) : hrk R C L ≤ C := by
  have := hred_le (rows0_ok (R := R) (C := C) h) C
  show (hred _ C).top ≤ C
  exact Nat.le_trans this (by show 0 + C ≤ C; omega)
theorem hq_ask {R C K : Nat} {L : List Int} (h : Bd L K) (hR : R ≤ 64) (hK : (K + 4) * (R + 2) ^ C ≤ 1000000) : hq R (K + 4) (hrk R C L) * (R + 2) ≤ 80000000 := by
  have h1 := hq_pow (R := R) (K := K + 4) (hrk R C L)
  have h2 := Nat.mul_le_mul_left (K + 4) (Nat.pow_le_pow_right (show 0 < R + 2 by omega) (hrk_leC (R := R) (C := C) h))
  have h3 : hq R (K + 4) (hrk R C L) * (R + 2) ≤ 1000000 * 66 := Nat.mul_le_mul (Nat.le_trans h1 (Nat.le_trans h2 hK)) (by omega)
  omega
end Go.Hp
/- Contracts: Hermite's form. -/
namespace Go.Proofs.Ytahoiilikhncgaa
open Go.En Go.RowKit
set_option maxRecDepth 10000
set_option maxHeartbeats 4000000
open Go.Nt
open Go.Pz
open Go.Mz
open Go.Hn
open Go.Hp
open Go.Dt
theorem hm_step {bw C c : Nat} {gt : Gr (List Int)} {s : HS} {m : Mem} (h : (hred s c).top < (hred s c).rows.length) : (hw0 bw gt (hcol (hred s c) c).rows.length C (hcol (hred s c) c).top :: grM isP gt (hcol (hred s c) c).rows :: m : Mem) = hw0 bw gt (hred s (c + 1)).rows.length C (hred s (c + 1)).top :: grM isP gt (hred s (c + 1)).rows :: m := by
 have e : hred s (c + 1) = hcol (hred s c) c := if_pos h
 rw [e]
theorem col_bq {K R a : Nat} (h : K + 4 ≤ a) (h2 : a * (R + 2) ≤ 80000000) : (a - 3 + 3) * (R + 2) ≤ 80000000 := by rw [Nat.sub_add_cancel (by omega)]; exact h2
theorem isMzp_eq {R C : Nat} {L : List Int} {s : HS} (hlen : s.rows.length = R) (h : s = hrm R C L) : isMz s.rows.length (C - 0) (flatP 0 C s.rows) = isMz R C (flatP 0 C (hrm R C L).rows) := by rw [hlen, h]; rfl
theorem isMzq_eq {R C : Nat} {L : List Int} {s : HS} (hlen : s.rows.length = R) (h : s = hrm R C L) : isMz s.rows.length (C + R - C) (flatP C (C + R) s.rows) = isMz R R (flatP C (C + R) (hrm R C L).rows) := by rw [hlen, h, Nat.add_sub_cancel_left]
theorem hnf_HermiteQ {R C K : Nat} {xs : List (Bool × List Nat)} (hx : Bd (vals xs) K) (hK : hq R (K + 4) (hrk R C (vals xs)) * (R + 2) ≤ 80000000) (hR : R ≤ 64) (hC : C ≤ 64) (hl : xs.length = R * C) : Ctr Try.prog 14 [isM (R : Int) (C : Int) xs] (isTup [isMz R C (flatP 0 C (hrm R C (vals xs)).rows), isMz R R (flatP C (C + R) (hrm R C (vals xs)).rows), isI 0]) := by
 refine Ctr.intro Try.func14 rfl (by kernel_rfl) Try.ntmps14 rfl fun w0 F0 => ?_
 refine .cv (Cv.wk (.k 0 rfl .nil)) ?_
 have hfo := formB_true hR hC hl
 have hok := hred_ok (rows0_ok (R := R) (C := C) hx)
 have hbq := hred_hq (rows0_ok (R := R) (C := C) hx) rfl
 have hqs : ∀ c, c ≤ C → hq R (K + 4) (hred ⟨rows0 C R (vals xs) R, 0⟩ c).top * (R + 2) ≤ 80000000 := fun c hc => Nat.le_trans (Nat.mul_le_mul_right _ (hq_mono (hred_mono (rows0_ok (R := R) (C := C) hx) hc) (hok C).top)) hK
 have hp0 : K + 4 ≤ 80000000 := Nat.le_trans (Nat.le_mul_of_pos_right _ (Nat.succ_pos (R + 1))) (hqs 0 (Nat.zero_le _))
 obtain ⟨n0, hn0⟩ : ∃ n0 : Nat, n0 = R := ⟨_, rfl⟩
 refine .seq fun _ k1 => .region (.box (.t rfl) rfl fun b1 => ?_)
 refine .alloc [isI 0, isI 0, nilS] zero24 (fun _ _ => ⟨⟨rfl, by decide, by decide⟩, ⟨rfl, by decide, by decide⟩, rfl, trivial⟩) rfl fun b2 => ?_
 refine .alloc [isI 0, isI 0, nilS] zero24 (fun _ _ => ⟨⟨rfl, by decide, by decide⟩, ⟨rfl, by decide, by decide⟩, rfl, trivial⟩) rfl fun b3 => ?_
 refine st (.as (Has.cI 0 rfl)) rfl ?_
 refine nl (.thn (k1 _ _ ?_)); clear k1
 refine .seq fun _ k2 => ?_
 refine .seq fun _ k3 => .region (st (.load (.t rfl) (i := 2) rfl ty24 rfl (Ss' := [_, _, _]) rfl) rfl ?_)
 refine st (.eq (.call (zmat_Formed) (.cons (.t rfl) .nil)) ((show isB _ = isB true from isB_eq hfo))) rfl ?_
 refine st (.not (.t rfl)) rfl ?_
 refine nl (.thn (k3 _ _ ?_)); clear k3
 refine .cond (.t rfl) (fun hc1 => ?_) (fun hc1 => ?_)
 ·have hc1 := BP.t hc1
  simp at hc1
 ·have hc1 := BP.f hc1
  refine .skip ?_
  refine .thn (k2 _ _ ?_); clear k2
  refine .seq fun _ k4 => .region (st (.load (.t rfl) (i := 2) rfl ty24 rfl (Ss' := [_, _, _]) rfl) rfl ?_)
  refine .callX (hnf_begun hx (by omega) hR hC hl) (List.Perm.refl _) (.cons (.t rfl) .nil) rfl ?_
  rintro _ _ ⟨bw, gt, rfl, rfl⟩
  refine .memEq (M' := [hw0 bw gt (rows0 C R (vals xs) R).length C 0, grM isP gt (rows0 C R (vals xs) R), _, _, _]) rfl ?_
  refine st (.as (.t rfl)) rfl ?_
  refine nl (.thn (k4 _ _ ?_)); clear k4
  refine .cv (Cv.wk (.k 1 rfl (.k 2 rfl (.k 3 rfl (.k 4 rfl (.k 5 rfl .nil)))))) ?_
  refine .seq fun _ k5 => ?_
  refine .seq fun _ k6 => .region (st (.as (Has.cI 0 rfl)) rfl ?_)
  refine nl (.thn (k6 _ _ ?_)); clear k6
  refine .block ?_
  refine .loopF [1, 2, 3, 4, 5] (fun (z : { c : Nat // c ≤ C }) => match z with | ⟨c, hc⟩ => [(6, isI (c : Int))]) (fun M => fun (z : { c : Nat // c ≤ C }) => match z with | ⟨c, hc⟩ => [hw0 bw gt (hred ⟨rows0 C R (vals xs) R, 0⟩ c).rows.length C (hred ⟨rows0 C R (vals xs) R, 0⟩ c).top, grM isP gt (hred ⟨rows0 C R (vals xs) R, 0⟩ c).rows, (some b3, cellM [isI 0, isI 0, nilS]), (some b2, cellM [isI 0, isI 0, nilS]), (some b1, cellM [isI (R : Int), isI (C : Int), SlK 2 zc xs])]) (fun (z : { c : Nat // c ≤ C }) => match z with | ⟨c, hc⟩ => C - c) (⟨0, Nat.zero_le _⟩) (Cv.mem (.cons (t := 6) (Has.t' rfl ?_) (.k 1 rfl (.k 2 rfl (.k 3 rfl (.k 4 rfl (.k 5 rfl .nil)))))) ?_) ?_
  ·rfl
  ·rfl
  rintro ⟨c, hc⟩ K7 hK7
  refine .cv (Cv.wk (.k 6 rfl (.k 1 rfl (.k 2 rfl (.k 3 rfl (.k 4 rfl (.k 5 rfl .nil))))))) ?_
  refine .memEq (M' := [hw0 bw gt (hred ⟨rows0 C R (vals xs) R, 0⟩ c).rows.length C (hred ⟨rows0 C R (vals xs) R, 0⟩ c).top, grM isP gt (hred ⟨rows0 C R (vals xs) R, 0⟩ c).rows, (some b3, cellM [isI 0, isI 0, nilS]), (some b2, cellM [isI 0, isI 0, nilS]), (some b1, cellM [isI (R : Int), isI (C : Int), SlK 2 zc xs])]) rfl ?_
  have hoc := hok c
  have hlen := hoc.len
  have htop := hoc.top
  have hpc := hqs c hc
  refine .seq fun _ k8 => ?_
  refine .seq fun _ k9 => ?_
  refine .dr ?_
  refine .st (i := 0) [] rfl rfl rfl (by kernel_rfl) (OKG.o rfl (.mv (.t rfl))) ?_
  refine .st (i := 1) [] rfl rfl rfl (by kernel_rfl) (OKG.o rfl (.fieldAddr (.t rfl) fld24_1 ty3)) ?_
  refine .st (i := 2) [15] rfl rfl rfl (by kernel_rfl) (OKG.o rfl (.load1 (.t rfl) (i := 4) rfl ty3 rfl)) ?_
  refine .st (i := 3) [14, 16] rfl rfl rfl (by kernel_rfl) (OKG.o rfl (.ltI (.t rfl) (.t rfl))) ?_
  refine .st (i := 4) [17] rfl rfl rfl (by kernel_rfl) (OKG.o rfl (.mv (.t rfl))) ?_
  refine .st (i := 5) [18] rfl rfl rfl (by kernel_rfl) (OKG.T rfl rfl rfl (fun hg => have hg' := BP.t hg; OK1.mv (.t rfl))) ?_
  refine .st (i := 6) [18, 19] rfl rfl rfl (by kernel_rfl) (OKG.T rfl rfl rfl (fun hg => have hg' := BP.t hg; OK1.nilc (Has.g rfl hg))) ?_
  refine .st (i := 7) [18, 20] rfl rfl rfl (by kernel_rfl) (OKG.T rfl rfl rfl (fun hg => have hg' := BP.t hg; OK1.fieldAddr (Has.g rfl hg) fld77_2 ty3)) ?_
  refine .st (i := 8) [18, 21] rfl rfl rfl (by kernel_rfl) (OKG.T rfl rfl rfl (fun hg => have hg' := BP.t hg; OK1.load1 (Has.g rfl hg) (i := 0) rfl ty3 rfl)) ?_
  refine .st (i := 9) [18] rfl rfl rfl (by kernel_rfl) (OKG.T rfl rfl rfl (fun hg => have hg' := BP.t hg; OK1.fieldAddr (.t rfl) fld24_0 ty3)) ?_
  refine .st (i := 10) [18, 23] rfl rfl rfl (by kernel_rfl) (OKG.T rfl rfl rfl (fun hg => have hg' := BP.t hg; OK1.load1 (Has.g rfl hg) (i := 4) rfl ty3 rfl)) ?_
  refine .fin (n := 11) mixed (by kernel_rfl) (by kernel_rfl) (by kernel_rfl) ?_
  refine .cv (Cv.wk (.k 1 rfl (.k 2 rfl (.k 3 rfl (.k 4 rfl (.k 5 rfl (.k 6 rfl (.k 14 rfl (.k 15 rfl (.k 16 rfl (.k 17 rfl (.k 18 rfl (.k 19 rfl (.k 20 rfl (.k 21 rfl (.k 22 rfl (.k 23 rfl (.k 24 rfl .nil)))))))))))))))))) ?_
  refine stT rfl rfl (fun hg => have hg' := BP.t hg; OK1.ltI (Has.g rfl hg) (Has.g rfl hg)) rfl ?_
  refine st (.pickAnd (.t rfl) (fun h => Has.g rfl h)) rfl ?_
  refine nl (.thn (k9 _ _ ?_)); clear k9
  refine .cond (.t rfl) (fun hc2 => ?_) (fun hc2 => ?_)
  ·have hc2 := BP.t hc2
   obtain ⟨hc1', hc2'⟩ := hc2
   refine .skip ?_
   refine .thn (k8 _ _ ?_); clear k8
   refine .seq fun _ k10 => ?_
   refine .block ?_
   refine .region (st (.mv (.t rfl)) rfl ?_)
   refine st (.mv (.t rfl)) rfl ?_
   refine .callX (hnf_column (rs := (hred ⟨rows0 C R (vals xs) R, 0⟩ c).rows) (t := (hred ⟨rows0 C R (vals xs) R, 0⟩ c).top) (col := c) (W := C + R) (K := hq R (K + 4) (hred ⟨rows0 C R (vals xs) R, 0⟩ c).top - 3) hoc.row (by omega) (by omega) (by omega) (by omega) (hbq c) (by rw [hlen]; exact col_bq (hq_ge htop) hpc)) (List.Perm.refl _) (.cons (.t rfl) (.cons (.t rfl) .nil)) rfl ?_
   rintro _ _ ⟨rfl, rfl⟩
   refine .memEq (M' := [hw0 bw gt (hcol (hred ⟨rows0 C R (vals xs) R, 0⟩ c) c).rows.length C (hcol (hred ⟨rows0 C R (vals xs) R, 0⟩ c) c).top, grM isP gt (hcol (hred ⟨rows0 C R (vals xs) R, 0⟩ c) c).rows, _, _, _]) rfl ?_
   refine nl ?_
   refine .bln ?_
   refine .thn (k10 _ _ ?_); clear k10
   refine .region (st (.mv (.t rfl)) rfl ?_)
   refine st (.addI (.t rfl) (Has.cI 1 rfl) (by first | omega | assumption) (by first | omega | assumption)) rfl ?_
   refine st (.as (.t rfl)) rfl ?_
   refine nl ?_
   refine .thn ?_
   refine hK7 (⟨c + 1, by omega⟩) _ _ ?_ (Cv.mem (.cons (t := 6) (Has.t' rfl ?_) (.k 1 rfl (.k 2 rfl (.k 3 rfl (.k 4 rfl (.k 5 rfl .nil)))))) ?_)
   ·show C - (c + 1) < C - c; omega
   ·exact isI_eq (by omega)
   ·exact hm_step (show (hred ⟨rows0 C R (vals xs) R, 0⟩ c).top < _ by omega)
  ·have hc2 := BP.f hc2
   have hst := hred_stop (rows0_ok (R := R) (C := C) hx) hc (show ¬ (c < C ∧ _) from fun h => by omega)
   refine .exit ?_
   refine .the ?_
   refine .the ?_
   refine .blh ?_
   refine .thn (k5 _ _ ?_); clear k5
   refine .cv (Cv.wk (.k 1 rfl (.k 2 rfl (.k 3 rfl (.k 4 rfl (.k 5 rfl .nil)))))) ?_
   refine .seq fun _ k11 => ?_
   refine .cv (Cv.freezeF (k := 1) (i := 1) (j := 0) (o := 0) rfl rfl rfl rfl gr_lenM gr_takeM (Ss' := [SlM isP ((hred ⟨rows0 C R (vals xs) R, 0⟩ c).rows), _, _]) rfl) ?_
   refine .memEq (M' := [(some _, cellM [SlM isP ((hred ⟨rows0 C R (vals xs) R, 0⟩ c).rows), _, _]), _, _, _]) rfl ?_
   refine .cv (Cv.wk (.k 1 rfl (.k 2 rfl (.k 3 rfl (.k 4 rfl (.k 5 rfl .nil)))))) ?_
   refine .cv (Cv.freezeBox (t := 5) (i := 0) rfl rfl rfl) ?_
   refine .memEq (M' := [_, _, _]) rfl ?_
   refine .cv (Cv.wk (.k 1 rfl (.k 2 rfl (.k 3 rfl (.k 4 rfl (.k 5 rfl .nil)))))) ?_
   refine .dr ?_
   refine .st (i := 0) [] rfl rfl rfl (by kernel_rfl) (OKG.o rfl (.mv (.t rfl))) ?_
   refine .st (i := 1) [] rfl rfl rfl (by kernel_rfl) (OKG.o rfl (.fieldAddr (.t rfl) fld24_1 ty3)) ?_
   refine .st (i := 2) [33] rfl rfl rfl (by kernel_rfl) (OKG.o rfl (.load1 (.t rfl) (i := 2) rfl ty3 rfl)) ?_
   refine .st (i := 3) [32, 34] rfl rfl rfl (by kernel_rfl) (OKG.o rfl (.call (hnf_part (lo := 0) (hi := C) hoc.row (by omega) (by omega) (by omega) (by omega)) (.cons (.t rfl) (.cons (Has.cI 0 rfl) (.cons (.t rfl) .nil))))) ?_
   refine .st (i := 4) [] rfl rfl rfl (by kernel_rfl) (OKG.o rfl (.mv (.t rfl))) ?_
   refine .st (i := 5) [] rfl rfl rfl (by kernel_rfl) (OKG.o rfl (.fieldAddr (.t rfl) fld24_1 ty3)) ?_
   refine .st (i := 6) [37] rfl rfl rfl (by kernel_rfl) (OKG.o rfl (.load1 (.t rfl) (i := 2) rfl ty3 rfl)) ?_
   refine .st (i := 7) [] rfl rfl rfl (by kernel_rfl) (OKG.o rfl (.fieldAddr (.t rfl) fld24_1 ty3)) ?_
   refine .st (i := 8) [39] rfl rfl rfl (by kernel_rfl) (OKG.o rfl (.load1 (.t rfl) (i := 2) rfl ty3 rfl)) ?_
   refine .st (i := 9) [] rfl rfl rfl (by kernel_rfl) (OKG.o rfl (.fieldAddr (.t rfl) fld24_0 ty3)) ?_
   refine .st (i := 10) [41] rfl rfl rfl (by kernel_rfl) (OKG.o rfl (.load1 (.t rfl) (i := 2) rfl ty3 rfl)) ?_
   refine .st (i := 11) [40, 42] rfl rfl rfl (by kernel_rfl) (OKG.o rfl (.eq (.addI (.t rfl) (.t rfl) (by first | omega | assumption) (by first | omega | assumption)) ((show isI _ = isI ((C + R : Nat) : Int) from isI_eq (by omega))))) ?_
   refine .fin (n := 12) mixed (by kernel_rfl) (by kernel_rfl) (by kernel_rfl) ?_
   refine .cv (Cv.wk (.k 2 rfl (.k 3 rfl (.k 4 rfl (.k 35 rfl (.k 36 rfl (.k 38 rfl (.k 43 rfl .nil)))))))) ?_
   refine st (.call (hnf_part (lo := C) (hi := C + R) hoc.row (by omega) (by omega) (by omega) (by omega)) (.cons (.t rfl) (.cons (.t rfl) (.cons (.t rfl) .nil)))) rfl ?_
   refine .store (.t rfl) (.t rfl) (i := 1) rfl ty24 rfl rfl (Ss' := [_, _, _]) rfl (M' := [_, (some _, cellM [_, _, _]), _]) rfl ?_
   refine .store (.t rfl) (.t rfl) (i := 0) rfl ty24 rfl rfl (Ss' := [_, _, _]) rfl (M' := [(some _, cellM [_, _, _]), _, _]) rfl ?_
   refine st (.as (Has.cI 0 rfl)) rfl ?_
   refine nl (.thn (k11 _ _ ?_)); clear k11
   refine .cv (Cv.wk (.k 2 rfl (.k 3 rfl (.k 4 rfl .nil)))) ?_
   refine .ret ?_
   refine rtN (.inl rfl) Try.results14 rfl rfl (.cell rfl (i := 1) rfl ty24 rfl ?_ (.cell rfl (i := 0) rfl ty24 rfl ?_ (.tmp (Has.t' rfl ?_) .nil)))
   ·exact isMzp_eq hlen hst.symm
   ·exact isMzq_eq hlen hst.symm
   ·rfl
theorem hnf_Hermite {R C K : Nat} {xs : List (Bool × List Nat)} (hx : Bd (vals xs) K) (hK : (K + 4) * (R + 2) ^ C ≤ 1000000) (hR : R ≤ 64) (hC : C ≤ 64) (hl : xs.length = R * C) : Ctr Try.prog 14 [isM (R : Int) (C : Int) xs] (isTup [isMz R C (flatP 0 C (hrm R C (vals xs)).rows), isMz R R (flatP C (C + R) (hrm R C (vals xs)).rows), isI 0]) := hnf_HermiteQ hx (hq_ask hx hR hK) hR hC hl
end Go.Proofs.Ytahoiilikhncgaa
/- Contracts: the same matrices. -/
namespace Go.Proofs.Ytahoiilikhncgaa
open Go.En Go.RowKit
set_option maxRecDepth 10000
set_option maxHeartbeats 4000000
open Go.Nt
open Go.Pz
open Go.Mz
open Go.Hn
open Go.Hp
open Go.Dt
theorem zmat_alike {r c r2 c2 : Int} {xs ys : List (Bool × List Nat)} : Ctr Try.prog 52 [isM r c xs, isM r2 c2 ys] (isB (formB r c xs.length && formB r2 c2 ys.length && decide (r = r2) && decide (c = c2))) := by
 refine Ctr.intro Try.func52 rfl (by kernel_rfl) Try.ntmps52 rfl fun w0 F0 => ?_
 refine .cv (Cv.wk (.k 0 rfl (.k 1 rfl .nil))) ?_
 refine .seq fun _ k1 => .region (.box (.t rfl) rfl fun b1 => ?_)
 refine .box (.t rfl) rfl fun b2 => ?_
 refine st (.as (Has.cB false)) rfl ?_
 refine nl (.thn (k1 _ _ ?_)); clear k1
 refine .seq fun _ k2 => .region (st (.load (.t rfl) (i := 1) rfl ty24 rfl (Ss' := [_, _, _]) rfl) rfl ?_)
 refine st (.call (zmat_Formed) (.cons (.t rfl) .nil)) rfl ?_
 refine st (.mv (.t rfl)) rfl ?_
 refine stT rfl rfl (fun hg => have hg' := BP.t hg; OK1.load (.t rfl) (i := 0) rfl ty24 rfl (Ss' := [_, _, _]) rfl) rfl ?_
 refine stT rfl rfl (fun hg => have hg' := BP.t hg; OK1.call (zmat_Formed) (.cons (Has.g rfl hg) .nil)) rfl ?_
 refine st (.pickAnd (.t rfl) (fun h => Has.g rfl h)) rfl ?_
 refine st (.mv (.t rfl)) rfl ?_
 refine stT rfl rfl (fun hg => have hg' := BP.t hg; OK1.fieldAddr (.t rfl) fld24_0 ty3) rfl ?_
 refine stT rfl rfl (fun hg => have hg' := BP.t hg; OK1.load1 (Has.g rfl hg) (i := 1) rfl ty3 rfl) rfl ?_
 refine stT rfl rfl (fun hg => have hg' := BP.t hg; OK1.fieldAddr (.t rfl) fld24_0 ty3) rfl ?_
 refine stT rfl rfl (fun hg => have hg' := BP.t hg; OK1.load1 (Has.g rfl hg) (i := 0) rfl ty3 rfl) rfl ?_
 refine stT rfl rfl (fun hg => have hg' := BP.t hg; OK1.eqI (Has.g rfl hg) (Has.g rfl hg)) rfl ?_
 refine st (.pickAnd (.t rfl) (fun h => Has.g rfl h)) rfl ?_
 refine st (.mv (.t rfl)) rfl ?_
 refine stT rfl rfl (fun hg => have hg' := BP.t hg; OK1.fieldAddr (.t rfl) fld24_1 ty3) rfl ?_
 refine stT rfl rfl (fun hg => have hg' := BP.t hg; OK1.load1 (Has.g rfl hg) (i := 1) rfl ty3 rfl) rfl ?_
 refine stT rfl rfl (fun hg => have hg' := BP.t hg; OK1.fieldAddr (.t rfl) fld24_1 ty3) rfl ?_
 refine stT rfl rfl (fun hg => have hg' := BP.t hg; OK1.load1 (Has.g rfl hg) (i := 0) rfl ty3 rfl) rfl ?_
 refine stT rfl rfl (fun hg => have hg' := BP.t hg; OK1.eqI (Has.g rfl hg) (Has.g rfl hg)) rfl ?_
 refine st (.pickAnd (.t rfl) (fun h => Has.g rfl h)) rfl ?_
 refine st (.as (.t rfl)) rfl ?_
 refine nl (.thn (k2 _ _ ?_)); clear k2
 refine .cv (Cv.wk (.k 4 rfl .nil)) ?_
 refine .ret ?_
 refine rt1 (.inl rfl) Try.results52 rfl (.tmp (Has.t' rfl ?_) .nil)
 all_goals (rfl)
theorem sl_EqualFuncZ {xs ys : List (Bool × List Nat)} {K : Nat} (hx : Bd (vals xs) K) (hy : Bd (vals ys) K) : Ctr Try.prog 53 [SlK 2 zc xs, SlK 2 zc ys, isFun (ι := PR K) Try.prog (fun p => [Flat (zc p.1.1), Flat (zc p.1.2)]) (fun p => isB (decide (zv p.1.1.1 p.1.1.2 = zv p.1.2.1 p.1.2.2)))] (isB (decide (vals xs = vals ys))) := by
 refine Ctr.intro Try.func53 rfl (by kernel_rfl) Try.ntmps53 rfl fun w0 F0 => ?_
 refine .cv (Cv.wk (.k 0 rfl (.k 1 rfl (.k 2 rfl .nil)))) ?_
 refine .fact (Has.lenLt (Has.t (t := 0) rfl)) fun lt0 => ?_
 refine .fact (Has.lenLt (Has.t (t := 1) rfl)) fun lt1 => ?_
 refine .seq fun _ k1 => .region (st (.as (Has.cB false)) rfl ?_)
 refine nl (.thn (k1 _ _ ?_)); clear k1
 refine .seq fun _ k2 => ?_
 refine .seq fun _ k3 => .region (st (.mv (.t rfl)) rfl ?_)
 refine st (.len sl22 (.t rfl)) rfl ?_
 refine st (.mv (.t rfl)) rfl ?_
 refine st (.len sl22 (.t rfl)) rfl ?_
 refine st (.neI (.t rfl) (.t rfl)) rfl ?_
 refine nl (.thn (k3 _ _ ?_)); clear k3
 refine .cond (.t rfl) (fun hc1 => ?_) (fun hc1 => ?_)
 ·have hc1 := BP.t hc1
  skip
  refine .seq fun _ k4 => .region (st (.as (Has.cB false)) rfl ?_)
  refine nl (.thn (k4 _ _ ?_)); clear k4
  refine .cv (Cv.wk (.k 0 rfl (.k 1 rfl (.k 2 rfl (.k 6 rfl .nil))))) ?_
  refine .ret ?_
  refine .thr ?_
  refine rt1 (.inl rfl) Try.results53 rfl (.tmp (Has.t' rfl ?_) .nil)
  all_goals (exact isB_eq (decide_eq_false fun h => by have := congrArg List.length h; rw [vals_len, vals_len] at this; omega).symm)
 ·have hc1 := BP.f hc1
  have hll : xs.length = ys.length := (by omega)
  refine .skip ?_
  refine .thn (k2 _ _ ?_); clear k2
  refine .cv (Cv.wk (.k 0 rfl (.k 1 rfl (.k 2 rfl (.k 6 rfl .nil))))) ?_
  refine .seq fun _ k5 => ?_
  refine .seq fun _ k6 => .region (st (.mv (.t rfl)) rfl ?_)
  refine st (.len sl22 (.t rfl)) rfl ?_
  refine st (.mv (Has.cI 0 rfl)) rfl ?_
  refine nl (.thn (k6 _ _ ?_)); clear k6
  refine .block ?_
  refine .loopF [1, 2, 15, 16] (fun (z : { i : Nat // i ≤ xs.length ∧ ∀ j, j < i → cf (vals xs) j = cf (vals ys) j }) => match z with | ⟨i, hI⟩ => [(17, isI (i : Int))]) (fun M => fun (z : { i : Nat // i ≤ xs.length ∧ ∀ j, j < i → cf (vals xs) j = cf (vals ys) j }) => match z with | ⟨i, hI⟩ => M) (fun (z : { i : Nat // i ≤ xs.length ∧ ∀ j, j < i → cf (vals xs) j = cf (vals ys) j }) => match z with | ⟨i, hI⟩ => xs.length - i) (⟨0, Nat.zero_le _, fun j hj => absurd hj (Nat.not_lt_zero _)⟩) (Cv.mem (.cons (t := 17) (Has.t' rfl ?_) (.k 1 rfl (.k 2 rfl (.k 15 rfl (.k 16 rfl .nil))))) ?_) ?_
  ·rfl
  ·rfl
  rintro ⟨i, hi, hq⟩ K7 hK7
  refine .cv (Cv.wk (.k 17 rfl (.k 1 rfl (.k 2 rfl (.k 15 rfl (.k 16 rfl .nil)))))) ?_
  refine .seq fun _ k8 => .region (st (.ltI (.t rfl) (.t rfl)) rfl ?_)
  refine nl (.thn (k8 _ _ ?_)); clear k8
  refine .seq fun _ k9 => ?_
  refine .cond (.t rfl) (fun hc2 => ?_) (fun hc2 => ?_)
  ·have hc2 := BP.t hc2
   refine .skip ?_
   refine .thn (k9 _ _ ?_); clear k9
   refine .seq fun _ k10 => ?_
   refine .block ?_
   refine .seq fun _ k11 => .region (st (.mv (.t rfl)) rfl ?_)
   refine st (.ixK sl22 ty32 (.t rfl) (.t rfl) zc_len ⟨by omega, by omega⟩ (getD_some (d := (false, [])) (by first | omega | (simp only [Int.toNat_natCast, List.length_set]; omega)))) rfl ?_
   refine st (.loadP (.t rfl) ty32 rfl (Ss' := [_, _]) rfl) rfl ?_
   refine .alloc [isB false, SlM isU []] zero32 (fun _ _ => ⟨rfl, nilM _ _, trivial⟩) rfl fun b1 => ?_
   refine st (.as (.t rfl)) rfl ?_
   refine .store (.t rfl) (.t rfl) (i := 0) rfl ty32 rfl rfl (Ss' := [_, _]) rfl (M' := [(some _, cellM [_, _])]) rfl ?_
   refine nl (.thn (k11 _ _ ?_)); clear k11
   refine .seq fun _ k12 => .region (st (.mv (.t rfl)) rfl ?_)
   refine st (.mv (.t rfl)) rfl ?_
   refine st (.ixK sl22 ty32 (.t rfl) (.t rfl) zc_len ⟨by omega, by omega⟩ (getD_some (d := (false, [])) (by first | omega | (simp only [Int.toNat_natCast, List.length_set]; omega)))) rfl ?_
   refine st (.loadP (.t rfl) ty32 rfl (Ss' := [_, _]) rfl) rfl ?_
   refine .alloc [isB false, SlM isU []] zero32 (fun _ _ => ⟨rfl, nilM _ _, trivial⟩) rfl fun b2 => ?_
   refine .store (.t rfl) (.t rfl) (i := 0) rfl ty32 rfl rfl (Ss' := [_, _]) rfl (M' := [(some _, cellM [_, _]), _]) rfl ?_
   refine nl (.thn (k12 _ _ ?_)); clear k12
   refine .seq fun _ k13 => .region (st (.mv (.t rfl)) rfl ?_)
   refine st (.load (.t rfl) (i := 1) rfl ty32 rfl (Ss' := [_, _]) rfl) rfl ?_
   refine st (.load (.t rfl) (i := 0) rfl ty32 rfl (Ss' := [_, _]) rfl) rfl ?_
   refine st (.callV ⟨(xs.getD i (false, []), ys.getD i (false, [])), hx.raw i, hy.raw i⟩ (.t rfl) (.cons (.t rfl) (.cons (.t rfl) .nil))) rfl ?_
   refine st (.not (.t rfl)) rfl ?_
   refine nl (.thn (k13 _ _ ?_)); clear k13
   refine .cond (.t rfl) (fun hc3 => ?_) (fun hc3 => ?_)
   ·have hc3 := BP.t hc3
    have HQ : ¬ cf (vals xs) i = cf (vals ys) i := (by rw [cf_vals, cf_vals]; simpa using hc3)
    refine .seq fun _ k14 => .region (st (.as (Has.cB false)) rfl ?_)
    refine nl (.thn (k14 _ _ ?_)); clear k14
    refine .ret ?_
    refine .blr ?_
    refine .thr ?_
    refine .thr ?_
    refine .blr ?_
    refine .thr ?_
    refine rt1 (.inl rfl) Try.results53 rfl (.tmp (Has.t' rfl ?_) .nil)
    all_goals (exact isB_eq (decide_eq_false fun h => HQ (by rw [h])).symm)
   ·have hc3 := BP.f hc3
    have HQ : cf (vals xs) i = cf (vals ys) i := (by rw [cf_vals, cf_vals]; simpa using hc3)
    refine .skip ?_
    refine .bln ?_
    refine .thn (k10 _ _ ?_); clear k10
    refine .region (st (.addI (.t rfl) (Has.cI 1 rfl) (by first | omega | assumption) (by first | omega | assumption)) rfl ?_)
    refine st (.mv (.t rfl)) rfl ?_
    refine nl ?_
    refine .thn ?_
    refine hK7 (⟨i + 1, by omega, fun j hj => by rcases Nat.lt_or_ge j i with h | h; exact hq j h; obtain rfl : j = i := (by omega); exact HQ⟩) _ _ ?_ (Cv.trans (Cv.drop ((.cons _ (.cons _ .slnil)))) (Cv.mem (.cons (t := 17) (Has.t' rfl ?_) (.k 1 rfl (.k 2 rfl (.k 15 rfl (.k 16 rfl .nil))))) ?_))
    ·show xs.length - (i + 1) < xs.length - i; omega
    ·exact isI_eq (by omega)
    ·rfl
  ·have hc2 := BP.f hc2
   refine .exit ?_
   refine .the ?_
   refine .the ?_
   refine .blh ?_
   refine .thn (k5 _ _ ?_); clear k5
   refine .cv (Cv.wk .nil) ?_
   refine .seq fun _ k15 => .region (st (.as (Has.cB true)) rfl ?_)
   refine nl (.thn (k15 _ _ ?_)); clear k15
   refine .ret ?_
   refine rt1 (.inl rfl) Try.results53 rfl (.tmp (Has.t' rfl ?_) .nil)
   all_goals (exact isB_eq (decide_eq_true (ext_cf (by rw [vals_len, vals_len]; exact hll) fun j hj => hq j (by rw [vals_len] at hj; omega))).symm)
theorem zmat_Same {r c r2 c2 : Int} {xs ys : List (Bool × List Nat)} {K : Nat} (hx : Bd (vals xs) K) (hy : Bd (vals ys) K) (hK : K ≤ 4000000000) : Ctr Try.prog 15 [isM r c xs, isM r2 c2 ys] (isB (formB r c xs.length && formB r2 c2 ys.length && decide (r = r2) && decide (c = c2) && decide (vals xs = vals ys))) := by
 refine Ctr.intro Try.func15 rfl (by kernel_rfl) Try.ntmps15 rfl fun w0 F0 => ?_
 refine .cv (Cv.wk (.k 0 rfl (.k 1 rfl .nil))) ?_
 refine .seq fun _ k1 => .region (.box (.t rfl) rfl fun b1 => ?_)
 refine .box (.t rfl) rfl fun b2 => ?_
 refine st (.as (Has.cB false)) rfl ?_
 refine nl (.thn (k1 _ _ ?_)); clear k1
 refine .seq fun _ k2 => .region (st (.load (.t rfl) (i := 1) rfl ty24 rfl (Ss' := [_, _, _]) rfl) rfl ?_)
 refine st (.load (.t rfl) (i := 0) rfl ty24 rfl (Ss' := [_, _, _]) rfl) rfl ?_
 refine st (.call (zmat_alike) (.cons (.t rfl) (.cons (.t rfl) .nil))) rfl ?_
 refine st (.mv (.t rfl)) rfl ?_
 refine stT rfl rfl (fun hg => have hg' := BP.t hg; OK1.fieldAddr (.t rfl) fld24_2 ty22) rfl ?_
 refine stT rfl rfl (fun hg => have hg' := BP.t hg; OK1.load1 (Has.g rfl hg) (i := 1) rfl ty22 rfl) rfl ?_
 refine stT rfl rfl (fun hg => have hg' := BP.t hg; OK1.fieldAddr (.t rfl) fld24_2 ty22) rfl ?_
 refine stT rfl rfl (fun hg => have hg' := BP.t hg; OK1.load1 (Has.g rfl hg) (i := 0) rfl ty22 rfl) rfl ?_
 refine stT rfl rfl (fun hg => have hg' := BP.t hg; OK1.call (sl_EqualFuncZ hx hy) (.cons (Has.g rfl hg) (.cons (Has.g rfl hg) (.cons (Has.fn (fun i => zint_Same (by have := i.2.1; omega) (by have := i.2.2; omega))) .nil)))) rfl ?_
 refine st (.pickAnd (.t rfl) (fun h => Has.g rfl h)) rfl ?_
 refine st (.as (.t rfl)) rfl ?_
 refine nl (.thn (k2 _ _ ?_)); clear k2
 refine .cv (Cv.wk (.k 4 rfl .nil)) ?_
 refine .ret ?_
 refine rt1 (.inl rfl) Try.results15 rfl (.tmp (Has.t' rfl ?_) .nil)
 all_goals (rfl)
end Go.Proofs.Ytahoiilikhncgaa
/- A law of layer 15: the same form, as a contract. -/
namespace Go.Proofs.Ytahoiilikhncgaa
open Go.En Go.RowKit
set_option maxRecDepth 10000
set_option maxHeartbeats 4000000
open Go.Nt
open Go.Pz
open Go.Mz
open Go.Hn
open Go.Hp
open Go.Tr
open Go.Dt
theorem c_ModhnfSame_bad (r c : Int) (xs : List (Bool × List Nat)) (hf : formB r c xs.length = false) : Ctr Try.prog 7 [isM r c xs] (isB true) := by
 refine Ctr.intro Try.func7 rfl (by kernel_rfl) Try.ntmps7 rfl fun w0 F0 => ?_
 refine .cv (Cv.wk (.k 0 rfl .nil)) ?_
 refine .seq fun _ k1 => .region (.box (.t rfl) rfl fun b1 => ?_)
 refine st (.as (Has.cB false)) rfl ?_
 refine nl (.thn (k1 _ _ ?_)); clear k1
 refine .seq fun _ k2 => ?_
 refine .seq fun _ k3 => .region (st (.call law15_awake .nil) rfl ?_)
 refine st (.not (.t rfl)) rfl ?_
 refine st (.mv (.t rfl)) rfl ?_
 refine stF rfl rfl (fun hg => have hg' := BP.t hg; OK1.load (.t rfl) (i := 0) rfl ty24 rfl (Ss' := [_, _, _]) rfl) rfl ?_
 refine stF rfl rfl (fun hg => have hg' := BP.t hg; OK1.call (ref11_Few) (.cons (Has.g rfl hg) (.cons (Has.cI 5 rfl) (.cons (Has.cI 1 rfl) .nil)))) rfl ?_
 refine stF rfl rfl (fun hg => have hg' := BP.t hg; OK1.not (Has.g rfl hg)) rfl ?_
 refine st (.pickOr (.t rfl) (fun h => Has.g rfl (ng h))) rfl ?_
 refine nl (.thn (k3 _ _ ?_)); clear k3
 refine .cv (Cv.wk (.k 1 rfl (.k 2 rfl (.k 16 rfl .nil)))) ?_
 refine .cond (.t rfl) (fun hc1 => ?_) (fun hc1 => ?_)
 ·have hc1 := BP.t hc1
  refine .seq fun _ k4 => .region (st (.call law15_awake .nil) rfl ?_)
  refine st (.as (.t rfl)) rfl ?_
  refine nl (.thn (k4 _ _ ?_)); clear k4
  refine .ret ?_
  refine .thr ?_
  refine rt1 (.inl rfl) Try.results7 rfl (.tmp (Has.t' rfl ?_) .nil)
  all_goals (rfl)
 ·have hc1 := BP.f hc1
  refine .skip ?_
  refine .thn (k2 _ _ ?_); clear k2
  refine .seq fun _ k5 => .region (st (.load (.t rfl) (i := 0) rfl ty24 rfl (Ss' := [_, _, _]) rfl) rfl ?_)
  refine st (.call (modhnf_Hermite_bad hf) (.cons (.t rfl) .nil)) rfl ?_
  refine st (.mv (.t rfl)) rfl ?_
  refine st (.ext (.t rfl) rfl) rfl ?_
  refine st (.ext (.t rfl) rfl) rfl ?_
  refine .alloc [isI 0, isI 0, nilS] zero24 (fun _ _ => ⟨⟨rfl, by decide, by decide⟩, ⟨rfl, by decide, by decide⟩, rfl, trivial⟩) rfl fun b2 => ?_
  refine .store (.t rfl) (.t rfl) (i := 0) rfl ty24 rfl rfl (Ss' := [_, _, _]) rfl (M' := [(some _, cellM [_, _, _]), _]) rfl ?_
  refine st (.as (.t rfl)) rfl ?_
  refine nl (.thn (k5 _ _ ?_)); clear k5
  refine .cv (Cv.wk (.k 1 rfl (.k 2 rfl (.k 3 rfl (.k 4 rfl .nil))))) ?_
  refine .seq fun _ k6 => ?_
  refine .seq fun _ k7 => .region (st (.load (.t rfl) (i := 1) rfl ty24 rfl (Ss' := [_, _, _]) rfl) rfl ?_)
  refine st (.eq (.call (ref11_Formed) (.cons (.t rfl) .nil)) ((show isB _ = isB false from isB_eq (hf)))) rfl ?_
  refine st (.not (.t rfl)) rfl ?_
  refine nl (.thn (k7 _ _ ?_)); clear k7
  refine .cond (.t rfl) (fun hc2 => ?_) (fun hc2 => ?_)
  ·have hc2 := BP.t hc2
   refine .seq fun _ k8 => .region (st (.mv (.t rfl)) rfl ?_)
   refine st (.eqI (.t rfl) (Has.cI 2 rfl)) rfl ?_
   refine st (.mv (.t rfl)) rfl ?_
   refine stT rfl rfl (fun hg => have hg' := BP.t hg; OK1.load (.t rfl) (i := 0) rfl ty24 rfl (Ss' := [_, _, _]) rfl) rfl ?_
   refine stT rfl rfl (fun hg => have hg' := BP.t hg; OK1.call (ref11_None (r := 0) (c := 0) (xs := [])) (.cons (Has.g rfl hg) .nil)) rfl ?_
   refine st (.pickAnd (.t rfl) (fun h => Has.g rfl h)) rfl ?_
   refine st (.as (.t rfl)) rfl ?_
   refine nl (.thn (k8 _ _ ?_)); clear k8
   refine .cv (Cv.wk (.k 1 rfl (.k 2 rfl (.k 3 rfl (.k 4 rfl .nil))))) ?_
   refine .ret ?_
   refine .thr ?_
   refine rt1 (.inl rfl) Try.results7 rfl (.tmp (Has.t' rfl ?_) .nil)
   all_goals (rfl)
  ·have hc2 := BP.f hc2
   exfalso; simp at hc2
theorem c_ModhnfSame_no (R C : Nat) (xs : List (Bool × List Nat)) (hR : R ≤ 64) (hC : C ≤ 64) (hl : xs.length = R * C) (hp : (Go.Dt.pivs (mf C (vals xs)) R C).length < C) : CtrX Try.prog 7 [isM (R : Int) (C : Int) xs] ([]) (fun S M => S = isB true) := by
 refine CtrX.intro Try.func7 rfl (by kernel_rfl) Try.ntmps7 rfl fun w0 F0 => ?_
 refine .cv (Cv.wk (.k 0 rfl .nil)) ?_
 refine .fact (Has.okM (Has.t (t := 0) rfl)) fun okp0 => ?_
 have hfo := formB_true hR hC hl
 refine .seq fun _ k1 => .region (.box (.t rfl) rfl fun b1 => ?_)
 refine st (.as (Has.cB false)) rfl ?_
 refine nl (.thn (k1 _ _ ?_)); clear k1
 refine .seq fun _ k2 => ?_
 refine .seq fun _ k3 => .region (st (.call law15_awake .nil) rfl ?_)
 refine st (.not (.t rfl)) rfl ?_
 refine st (.mv (.t rfl)) rfl ?_
 refine stF rfl rfl (fun hg => have hg' := BP.t hg; OK1.load (.t rfl) (i := 0) rfl ty24 rfl (Ss' := [_, _, _]) rfl) rfl ?_
 refine stF rfl rfl (fun hg => have hg' := BP.t hg; OK1.call (ref11_Few) (.cons (Has.g rfl hg) (.cons (Has.cI 5 rfl) (.cons (Has.cI 1 rfl) .nil)))) rfl ?_
 refine stF rfl rfl (fun hg => have hg' := BP.t hg; OK1.not (Has.g rfl hg)) rfl ?_
 refine st (.pickOr (.t rfl) (fun h => Has.g rfl (ng h))) rfl ?_
 refine nl (.thn (k3 _ _ ?_)); clear k3
 refine .cv (Cv.wk (.k 1 rfl (.k 2 rfl (.k 16 rfl .nil)))) ?_
 refine .cond (.t rfl) (fun hc1 => ?_) (fun hc1 => ?_)
 ·have hc1 := BP.t hc1
  skip
  refine .seq fun _ k4 => .region (st (.call law15_awake .nil) rfl ?_)
  refine st (.as (.t rfl)) rfl ?_
  refine nl (.thn (k4 _ _ ?_)); clear k4
  refine .ret ?_
  refine .thr ?_
  refine rtX1D (.cons _ .slnil) (.inl rfl) Try.results7 rfl (.tmp (.t rfl) .nil) ?_
  exact rfl
 ·have hc1 := BP.f hc1
  have HF0 : ((R : Int) ≤ 5 ∧ (C : Int) ≤ 5) ∧ fewB xs 100 1 = true := (by simpa [and_assoc] using hc1)
  obtain ⟨⟨hR5, hC5⟩, HF⟩ := HF0
  obtain ⟨hl0, hb⟩ := fewB_bd (N := 100) (K := 1) okp0 HF rfl rfl (by decide)
  have hz1 : ((1 + 1) * 2 ^ R + 2) * 2 ^ C ≤ 80000000 := tri_small (by decide) (by omega) (by omega)
  have hz2 : (1 + 1) * 2 ^ R ≤ 30000000 := tri_small2 (by decide) (by omega)
  refine .skip ?_
  refine .thn (k2 _ _ ?_); clear k2
  refine .seq fun _ k5 => .region (st (.load (.t rfl) (i := 0) rfl ty24 rfl (Ss' := [_, _, _]) rfl) rfl ?_)
  refine .callX (modhnf_Hermite_no hb (by decide) hR hC hl hz1 hz2 hp) (List.Perm.refl _) (.cons (.t rfl) .nil) rfl ?_
  rintro _ _ ⟨rfl, rfl⟩
  refine st (.mv (.t rfl)) rfl ?_
  refine st (.ext (.t rfl) rfl) rfl ?_
  refine st (.ext (.t rfl) rfl) rfl ?_
  refine .alloc [isI 0, isI 0, nilS] zero24 (fun _ _ => ⟨⟨rfl, by decide, by decide⟩, ⟨rfl, by decide, by decide⟩, rfl, trivial⟩) rfl fun b2 => ?_
  refine .store (.t rfl) (.t rfl) (i := 0) rfl ty24 rfl rfl (Ss' := [_, _, _]) rfl (M' := [(some _, cellM [_, _, _]), _]) rfl ?_
  refine st (.as (.t rfl)) rfl ?_
  refine nl (.thn (k5 _ _ ?_)); clear k5
  refine .cv (Cv.wk (.k 1 rfl (.k 2 rfl (.k 3 rfl (.k 4 rfl .nil))))) ?_
  refine .seq fun _ k6 => ?_
  refine .seq fun _ k7 => .region (st (.load (.t rfl) (i := 1) rfl ty24 rfl (Ss' := [_, _, _]) rfl) rfl ?_)
  refine st (.eq (.call (ref11_Formed) (.cons (.t rfl) .nil)) ((show isB _ = isB true from isB_eq (hfo)))) rfl ?_
  refine st (.not (.t rfl)) rfl ?_
  refine nl (.thn (k7 _ _ ?_)); clear k7
  refine .cond (.t rfl) (fun hc2 => ?_) (fun hc2 => ?_)
  ·have hc2 := BP.t hc2
   exfalso; simp at hc2
  ·have hc2 := BP.f hc2
   skip
   refine .skip ?_
   refine .thn (k6 _ _ ?_); clear k6
   refine .seq fun _ k8 => .region (st (.load (.t rfl) (i := 1) rfl ty24 rfl (Ss' := [_, _, _]) rfl) rfl ?_)
   refine .callX (bareiss_RankX hb (by decide) hR hC hl (by omega)) (List.Perm.refl _) (.cons (.t rfl) .nil) rfl ?_
   rintro _ _ ⟨rs1, ps1, last1, odd1, rfl, rfl, hRun1⟩
   have hpp : ps1.length = (Go.Dt.pivs (mf C (vals xs)) R C).length := by rw [run_pivs hRun1]
   refine st (.mv (.t rfl)) rfl ?_
   refine st (.ext (.t rfl) rfl) rfl ?_
   refine st (.ext (.t rfl) rfl) rfl ?_
   refine st (.as (.t rfl)) rfl ?_
   refine st (.as (.t rfl)) rfl ?_
   refine nl (.thn (k8 _ _ ?_)); clear k8
   refine .cv (Cv.wk (.k 1 rfl (.k 2 rfl (.k 3 rfl (.k 4 rfl (.k 5 rfl .nil)))))) ?_
   refine .seq fun _ k9 => ?_
   refine .seq fun _ k10 => .region (st (.mv (.t rfl)) rfl ?_)
   refine st (.fieldAddr (.t rfl) fld24_1 ty3) rfl ?_
   refine st (.load1 (.t rfl) (i := 1) rfl ty3 rfl) rfl ?_
   refine st (.ltI (.t rfl) (.t rfl)) rfl ?_
   refine nl (.thn (k10 _ _ ?_)); clear k10
   refine .cond (.t rfl) (fun hc3 => ?_) (fun hc3 => ?_)
   ·have hc3 := BP.t hc3
    skip
    refine .seq fun _ k11 => .region (st (.mv (.t rfl)) rfl ?_)
    refine st (.eqI (.t rfl) (Has.cI 3 rfl)) rfl ?_
    refine st (.mv (.t rfl)) rfl ?_
    refine stT rfl rfl (fun hg => have hg' := BP.t hg; OK1.load (.t rfl) (i := 0) rfl ty24 rfl (Ss' := [_, _, _]) rfl) rfl ?_
    refine stT rfl rfl (fun hg => have hg' := BP.t hg; OK1.call (ref11_None (r := 0) (c := 0) (xs := [])) (.cons (Has.g rfl hg) .nil)) rfl ?_
    refine st (.pickAnd (.t rfl) (fun h => Has.g rfl h)) rfl ?_
    refine st (.as (.t rfl)) rfl ?_
    refine nl (.thn (k11 _ _ ?_)); clear k11
    refine .cv (Cv.wk (.k 1 rfl (.k 2 rfl (.k 3 rfl (.k 4 rfl .nil))))) ?_
    refine .ret ?_
    refine .thr ?_
    refine rtX1D (.cons _ (.cons _ .slnil)) (.inl rfl) Try.results7 rfl (.tmp (.t rfl) .nil) ?_
    exact rfl
   ·have hc3 := BP.f hc3
    exfalso; omega
theorem c_ModhnfSame_ok (R C : Nat) (xs : List (Bool × List Nat)) (hR : R ≤ 64) (hC : C ≤ 64) (hl : xs.length = R * C) (hp : (Go.Dt.pivs (mf C (vals xs)) R C).length = C) : CtrX Try.prog 7 [isM (R : Int) (C : Int) xs] ([]) (fun S M => S = isB true) := by
 refine CtrX.intro Try.func7 rfl (by kernel_rfl) Try.ntmps7 rfl fun w0 F0 => ?_
 refine .cv (Cv.wk (.k 0 rfl .nil)) ?_
 refine .fact (Has.okM (Has.t (t := 0) rfl)) fun okp0 => ?_
 have hfo := formB_true hR hC hl
 refine .seq fun _ k1 => .region (.box (.t rfl) rfl fun b1 => ?_)
 refine st (.as (Has.cB false)) rfl ?_
 refine nl (.thn (k1 _ _ ?_)); clear k1
 refine .seq fun _ k2 => ?_
 refine .seq fun _ k3 => .region (st (.call law15_awake .nil) rfl ?_)
 refine st (.not (.t rfl)) rfl ?_
 refine st (.mv (.t rfl)) rfl ?_
 refine stF rfl rfl (fun hg => have hg' := BP.t hg; OK1.load (.t rfl) (i := 0) rfl ty24 rfl (Ss' := [_, _, _]) rfl) rfl ?_
 refine stF rfl rfl (fun hg => have hg' := BP.t hg; OK1.call (ref11_Few) (.cons (Has.g rfl hg) (.cons (Has.cI 5 rfl) (.cons (Has.cI 1 rfl) .nil)))) rfl ?_
 refine stF rfl rfl (fun hg => have hg' := BP.t hg; OK1.not (Has.g rfl hg)) rfl ?_
 refine st (.pickOr (.t rfl) (fun h => Has.g rfl (ng h))) rfl ?_
 refine nl (.thn (k3 _ _ ?_)); clear k3
 refine .cv (Cv.wk (.k 1 rfl (.k 2 rfl (.k 16 rfl .nil)))) ?_
 refine .cond (.t rfl) (fun hc1 => ?_) (fun hc1 => ?_)
 ·have hc1 := BP.t hc1
  skip
  refine .seq fun _ k4 => .region (st (.call law15_awake .nil) rfl ?_)
  refine st (.as (.t rfl)) rfl ?_
  refine nl (.thn (k4 _ _ ?_)); clear k4
  refine .ret ?_
  refine .thr ?_
  refine rtX1D (.cons _ .slnil) (.inl rfl) Try.results7 rfl (.tmp (.t rfl) .nil) ?_
  exact rfl
 ·have hc1 := BP.f hc1
  have HF0 : ((R : Int) ≤ 5 ∧ (C : Int) ≤ 5) ∧ fewB xs 100 1 = true := (by simpa [and_assoc] using hc1)
  obtain ⟨⟨hR5, hC5⟩, HF⟩ := HF0
  obtain ⟨hl0, hb⟩ := fewB_bd (N := 100) (K := 1) okp0 HF rfl rfl (by decide)
  have hz1 : ((1 + 1) * 2 ^ R + 2) * 2 ^ C ≤ 80000000 := tri_small (by decide) (by omega) (by omega)
  have hz2 : (1 + 1) * 2 ^ R ≤ 30000000 := tri_small2 (by decide) (by omega)
  have hhz : (1 + 4) * (R + 2) ^ C ≤ 1000000 := by
   have h1 := Nat.pow_le_pow_left (show R + 2 ≤ 7 by omega) C
   have h2 := Nat.pow_le_pow_right (show 0 < 7 by decide) (show C ≤ 5 by omega)
   have h3 : 7 ^ 5 = 16807 := by decide
   omega
  have hHl := hL_len (R := R) (C := C) hb
  have hHb := (hL_bd (R := R) (C := C) hb).mono hhz
  obtain ⟨Hl, hHL⟩ : ∃ Hl, Hl = hL R C (vals xs) := ⟨_, rfl⟩
  rw [← hHL] at hHl hHb
  have hHm : (Hl.map nz).length = R * C := by rw [List.length_map, hHl]
  have hfH : formB (R : Int) (C : Int) (Hl.map nz).length = true := formB_true hR hC hHm
  have hHb2 : Bd (vals (Hl.map nz)) 1000000 := by rw [vals_nz]; exact hHb
  have hRC := side_le hR hC
  refine .skip ?_
  refine .thn (k2 _ _ ?_); clear k2
  refine .seq fun _ k5 => .region (st (.load (.t rfl) (i := 0) rfl ty24 rfl (Ss' := [_, _, _]) rfl) rfl ?_)
  refine .callX (modhnf_Hermite hb (by decide) hR hC hl hz1 hz2 hp) (List.Perm.refl _) (.cons (.t rfl) .nil) rfl ?_
  rintro _ _ ⟨b, rfl, rfl, hMB⟩
  have heq : hmL b R C (vals xs) = Hl := by rw [hHL]; exact hmL_eq hMB hb
  rw [heq]
  refine st (.mv (.t rfl)) rfl ?_
  refine st (.ext (.t rfl) rfl) rfl ?_
  refine st (.ext (.t rfl) rfl) rfl ?_
  refine .alloc [isI 0, isI 0, nilS] zero24 (fun _ _ => ⟨⟨rfl, by decide, by decide⟩, ⟨rfl, by decide, by decide⟩, rfl, trivial⟩) rfl fun b2 => ?_
  refine .store (.t rfl) (.t rfl) (i := 0) rfl ty24 rfl rfl (Ss' := [_, _, _]) rfl (M' := [(some _, cellM [_, _, _]), _]) rfl ?_
  refine st (.as (.t rfl)) rfl ?_
  refine nl (.thn (k5 _ _ ?_)); clear k5
  refine .cv (Cv.wk (.k 1 rfl (.k 2 rfl (.k 3 rfl (.k 4 rfl .nil))))) ?_
  refine .seq fun _ k6 => ?_
  refine .seq fun _ k7 => .region (st (.load (.t rfl) (i := 1) rfl ty24 rfl (Ss' := [_, _, _]) rfl) rfl ?_)
  refine st (.eq (.call (ref11_Formed) (.cons (.t rfl) .nil)) ((show isB _ = isB true from isB_eq (hfo)))) rfl ?_
  refine st (.not (.t rfl)) rfl ?_
  refine nl (.thn (k7 _ _ ?_)); clear k7
  refine .cond (.t rfl) (fun hc2 => ?_) (fun hc2 => ?_)
  ·have hc2 := BP.t hc2
   exfalso; simp at hc2
  ·have hc2 := BP.f hc2
   skip
   refine .skip ?_
   refine .thn (k6 _ _ ?_); clear k6
   refine .seq fun _ k8 => .region (st (.load (.t rfl) (i := 1) rfl ty24 rfl (Ss' := [_, _, _]) rfl) rfl ?_)
   refine .callX (bareiss_RankX hb (by decide) hR hC hl (by omega)) (List.Perm.refl _) (.cons (.t rfl) .nil) rfl ?_
   rintro _ _ ⟨rs1, ps1, last1, odd1, rfl, rfl, hRun1⟩
   have hpp : ps1.length = (Go.Dt.pivs (mf C (vals xs)) R C).length := by rw [run_pivs hRun1]
   refine st (.mv (.t rfl)) rfl ?_
   refine st (.ext (.t rfl) rfl) rfl ?_
   refine st (.ext (.t rfl) rfl) rfl ?_
   refine st (.as (.t rfl)) rfl ?_
   refine st (.as (.t rfl)) rfl ?_
   refine nl (.thn (k8 _ _ ?_)); clear k8
   refine .cv (Cv.wk (.k 1 rfl (.k 2 rfl (.k 3 rfl (.k 4 rfl (.k 5 rfl .nil)))))) ?_
   refine .seq fun _ k9 => ?_
   refine .seq fun _ k10 => .region (st (.mv (.t rfl)) rfl ?_)
   refine st (.fieldAddr (.t rfl) fld24_1 ty3) rfl ?_
   refine st (.load1 (.t rfl) (i := 1) rfl ty3 rfl) rfl ?_
   refine st (.ltI (.t rfl) (.t rfl)) rfl ?_
   refine nl (.thn (k10 _ _ ?_)); clear k10
   refine .cond (.t rfl) (fun hc3 => ?_) (fun hc3 => ?_)
   ·have hc3 := BP.t hc3
    exfalso; omega
   ·have hc3 := BP.f hc3
    skip
    refine .skip ?_
    refine .thn (k9 _ _ ?_); clear k9
    refine .cv (Cv.wk (.k 1 rfl (.k 2 rfl (.k 3 rfl (.k 4 rfl .nil))))) ?_
    refine .seq fun _ k11 => .region (st (.load (.t rfl) (i := 1) rfl ty24 rfl (Ss' := [_, _, _]) rfl) rfl ?_)
    refine st (.eq (.call (hnf_Hermite hb hhz hR hC hl) (.cons (.t rfl) .nil)) ((show _ = isTup [isMz R C Hl, isMz R R (uL R C (vals xs)), isI 0] from by rw [hHL]; rfl))) rfl ?_
    refine st (.mv (.t rfl)) rfl ?_
    refine st (.ext (.t rfl) rfl) rfl ?_
    refine st (.ext (.t rfl) rfl) rfl ?_
    refine st (.ext (.t rfl) rfl) rfl ?_
    refine .alloc [isI 0, isI 0, nilS] zero24 (fun _ _ => ⟨⟨rfl, by decide, by decide⟩, ⟨rfl, by decide, by decide⟩, rfl, trivial⟩) rfl fun b3 => ?_
    refine .alloc [isI 0, isI 0, nilS] zero24 (fun _ _ => ⟨⟨rfl, by decide, by decide⟩, ⟨rfl, by decide, by decide⟩, rfl, trivial⟩) rfl fun b4 => ?_
    refine .store (.t rfl) (.t rfl) (i := 1) rfl ty24 rfl rfl (Ss' := [_, _, _]) rfl (M' := [_, (some _, cellM [_, _, _]), _, _]) rfl ?_
    refine .store (.t rfl) (.t rfl) (i := 0) rfl ty24 rfl rfl (Ss' := [_, _, _]) rfl (M' := [(some _, cellM [_, _, _]), _, _, _]) rfl ?_
    refine st (.as (.t rfl)) rfl ?_
    refine nl (.thn (k11 _ _ ?_)); clear k11
    refine .cv (Cv.wk (.k 2 rfl (.k 3 rfl (.k 4 rfl (.k 7 rfl .nil))))) ?_
    refine .seq fun _ k12 => .region (st (.mv (.t rfl)) rfl ?_)
    refine st (.eqI (.t rfl) (Has.cI 0 rfl)) rfl ?_
    refine st (.mv (.t rfl)) rfl ?_
    refine stT rfl rfl (fun hg => have hg' := BP.t hg; OK1.load (.t rfl) (i := 2) rfl ty24 rfl (Ss' := [_, _, _]) rfl) rfl ?_
    refine stT rfl rfl (fun hg => have hg' := BP.t hg; OK1.eq (.call (ref11_Normal (l := Hl) hHb (by decide) (by omega)) (.cons (Has.g rfl hg) .nil)) ((show isB _ = isB true from isB_eq (formB_true hR hC hHl)))) rfl ?_
    refine st (.pickAnd (.t rfl) (fun h => Has.g rfl h)) rfl ?_
    refine st (.mv (.t rfl)) rfl ?_
    refine stT rfl rfl (fun hg => have hg' := BP.t hg; OK1.load (.t rfl) (i := 2) rfl ty24 rfl (Ss' := [_, _, _]) rfl) rfl ?_
    refine stT rfl rfl (fun hg => have hg' := BP.t hg; OK1.load (.t rfl) (i := 1) rfl ty24 rfl (Ss' := [_, _, _]) rfl) rfl ?_
    refine stT rfl rfl (fun hg => have hg' := BP.t hg; OK1.eq (.call (zmat_Same (K := 1000000) hHb2 hHb2 (by decide)) (.cons (Has.g rfl hg) (.cons (Has.g rfl hg) .nil))) ((show isB _ = isB true from isB_eq (by rw [hfH]; simp)))) rfl ?_
    refine st (.pickAnd (.t rfl) (fun h => Has.g rfl h)) rfl ?_
    refine st (.as (.t rfl)) rfl ?_
    refine nl (.thn (k12 _ _ ?_)); clear k12
    refine .cv (Cv.wk (.k 2 rfl .nil)) ?_
    refine .ret ?_
    refine rtX1D (.cons _ (.cons _ (.cons _ (.cons _ .slnil)))) (.inl rfl) Try.results7 rfl (.tmp (.t rfl) .nil) ?_
    exact rfl
theorem c_ModhnfSame (r c : Int) (xs : List (Bool × List Nat)) : Ctr Try.prog 7 [isM r c xs] (isB true) := by
 cases h : formB r c xs.length with
 | true =>
  obtain ⟨R, C, rfl, rfl, h1, h2, h3⟩ := formB_iff.1 h
  have hp := (pivs_lt (mf C (vals xs)) R C).2
  by_cases h4 : (Go.Dt.pivs (mf C (vals xs)) R C).length = C
  ·exact (c_ModhnfSame_ok R C xs h1 h2 h3 h4).toCtr fun S' M' hh => hh
  ·exact (c_ModhnfSame_no R C xs h1 h2 h3 (by omega)).toCtr fun S' M' hh => hh
 | false => exact c_ModhnfSame_bad r c xs h
end Go.Proofs.Ytahoiilikhncgaa
/- Slices of whole numbers that a law is handed. -/
namespace Go.En
open Go.RowKit Go.ChangeShapes Go.WideShapes Go.ChangeAt
theorem pair_get {α β : Type} (g h : α → β) : ∀ (l : List α) (j : Nat), (l.flatMap fun a => [g a, h a])[j]? = (l[j / 2]?).map (fun a => if j % 2 = 0 then g a else h a)
  | [], j => by simp
  | a :: l, 0 => by simp
  | a :: l, 1 => by simp
  | a :: l, j + 2 => by
    have := pair_get g h l j
    rw [show (j + 2) / 2 = j / 2 + 1 by omega, show (j + 2) % 2 = j % 2 by omega]
    simpa using this
section
variable {H : Type} {enc : TypeId × Value → H} {P : Program}
end
end Go.En
/- Matrices of whole numbers that a law is handed. -/
namespace Go.En
open Go.RowKit Go.ChangeShapes Go.WideShapes Go.ChangeAt
section
variable {H : Type} {enc : TypeId × Value → H} {P : Program}
theorem rd_Zs {W : World} {T e tb ts T' : TypeId} {fuel : Nat} {cs : List Value} {x : DataW H × List MemPlace} (hT : P.underlying T = some (.slice e)) (hfs : fsB P e = some [(tb, 0), (ts, 1)]) (hub : P.underlying tb = some .bool) (hu : P.underlying ts = some (.slice T')) (hu' : P.underlying T' = some (.int .u64)) (hc : P.cellsOf T' = 1) (hcb : P.cellsOf tb = 1) (hcs : P.cellsOf ts = 1) (hce : P.cellsOf e = 2)
    (hf : DataW.trod enc P W 0 (fun _ => true) true fuel T cs = some x) (hps : ∀ y ∈ x.2, y.block < W.heap.size) : ∃ (v : Value) (xs : List (Bool × List Nat)), cs = [v] ∧ (isZs xs).h W (fun b => b < W.heap.size) v := by
  obtain ⟨d, ps⟩ := x
  obtain ⟨fs, hue, hsz, hget⟩ := fsB_spec hfs
  obtain ⟨f0, g0, rfl, e0⟩ := hget 0 tb 0 rfl
  obtain ⟨f1, g1, rfl, e1⟩ := hget 1 ts 1 rfl
  have hfs2 : fs = #[f0, f1] := by
    apply Array.ext'
    have hl : fs.toList.length = 2 := by simpa using hsz
    match hq : fs.toList, hl with
    | [p, q], _ =>
      have a0 : fs.toList[0]? = some f0 := by simpa using g0
      have a1 : fs.toList[1]? = some f1 := by simpa using g1
      rw [hq] at a0 a1
      simp at a0 a1
      rw [a0, a1]
  subst hfs2
  rcases Deep.open_slice_pairs hT hue hce e0 e1 hcb hcs hf with ⟨h1, _⟩ | ⟨a, len, cap, m, n, V0, V1, D0, D1, P0, P1, h1, _, hlc, hcm, hm, hx, hel⟩
  · exact ⟨_, [], h1, nilK⟩
  · simp only [if_true] at hm
    subst m
    have hps' : ∀ i, i < cap → ∀ y ∈ P1 i, y.block < W.heap.size := fun i hi y hy => hps y (by
      have := (Prod.mk.inj hx).2
      rw [this]
      exact List.mem_append_right _ (List.mem_flatMap.2 ⟨i, List.mem_range.2 hi, List.mem_append_right _ hy⟩))
    obtain ⟨l, hl, hgl⟩ := list_of_get (p := fun i (x : Bool × List Nat) => V0 i = .bool x.1 ∧ (isWords x.2).h W (fun b => b < W.heap.size) (V1 i)) len (fun i hi => by
      obtain ⟨_, _, q0, q1⟩ := hel i (by omega)
      obtain ⟨b, hb, _⟩ := DataW.trod_bool hub q0
      obtain ⟨v, ws, hv1, hw⟩ := rd_row hu hu' hc word_of q1 (hps' i (by omega))
      obtain rfl : V1 i = v := by simpa using hv1
      exact ⟨(b, ws), by simpa using hb, hw⟩)
    refine ⟨_, l, h1, some a, cap, by rw [hl], by rw [hl]; exact hlc, hcm, flat_len zc_len l, ?_⟩
    rcases Nat.eq_zero_or_pos len with h0 | h0
    · exact .inl (by omega)
    · have hc0 := (hel 0 (by omega)).1
      have hs : a.spot = none := by
        cases hsp : a.spot with
        | none => rfl
        | some s =>
          simp only [Addr.add, Nat.zero_mul, if_true] at hc0
          unfold World.cell? at hc0
          rw [hsp] at hc0
          split at hc0 <;> simp at hc0
      obtain ⟨b, off, sp⟩ := a
      simp only at hs
      subst hs
      right
      refine ⟨b, off, rfl, ?_, (List.range len).flatMap (fun i => [V0 i, V1 i]), ?_, fun j u hj => ?_⟩
      · have : MemPlace.cell b (off + 0) ∈ ps := by
          have := (Prod.mk.inj hx).2
          rw [this]
          exact List.mem_append_left _ (List.mem_map.2 ⟨0, by simp; omega, rfl⟩)
        exact hps _ this
      · have hlen2 : ((List.range len).flatMap fun i => [V0 i, V1 i]).length = len * 2 := by
          have := flat_len (fk := fun (i : Nat) => [isB true, isB true]) (k := 2) (fun _ => rfl) (List.range len)
          rw [List.length_flatMap] at this ⊢
          simpa using this
        refine all2_of_get (by rw [flat_len zc_len, hlen2, hl]) (fun j S v hS hv => ?_)
        have hz := pair_get (fun p : Bool × List Nat => isB p.1) (fun p => isWords p.2) l j
        rw [show (l.flatMap fun a => [isB a.1, isWords a.2]) = l.flatMap zc from rfl, hS] at hz
        have hw := pair_get V0 V1 (List.range len) j
        rw [hv] at hw
        have hj : j / 2 < l.length := by
          rcases Nat.lt_or_ge (j / 2) l.length with h | h
          · exact h
          · rw [List.getElem?_eq_none h] at hz; cases hz
        rw [List.getElem?_eq_getElem hj] at hz
        rw [List.getElem?_range (by omega)] at hw
        simp only [Option.map_some, Option.some.injEq] at hz hw
        obtain ⟨k1, k2⟩ := hgl (j / 2) hj
        subst hz; subst hw
        by_cases hp : j % 2 = 0
        · rw [if_pos hp, if_pos hp, k1]; rfl
        · rw [if_neg hp, if_neg hp]; exact k2
      · have hw := pair_get V0 V1 (List.range len) j
        rw [hj] at hw
        have hjl : j / 2 < len := by
          rcases Nat.lt_or_ge (j / 2) len with h | h
          · exact h
          · rw [List.getElem?_eq_none (by simpa using h)] at hw; cases hw
        rw [List.getElem?_range hjl] at hw
        simp only [Option.map_some, Option.some.injEq] at hw
        obtain ⟨q0, q1, _, _⟩ := hel (j / 2) (by omega)
        rw [add_mk] at q0
        rw [add_mk] at q1
        by_cases hp : j % 2 = 0
        · rw [if_pos hp] at hw; subst hw
          rw [show off + j = off + j / 2 * 2 by omega]; exact q0
        · rw [if_neg hp] at hw; subst hw
          rw [show off + j = off + (j / 2 * 2 + 1) by omega]; exact q1
theorem open_M {W : World} {base : Nat} {T ti tm e tb ts T' : TypeId} {v : Value} {d : DataW H} {ps : List MemPlace} (hfM : fsB P T = some [(ti, 0), (ti, 1), (tm, 2)]) (hui : P.underlying ti = some (.int .i64)) (hT : P.underlying tm = some (.slice e)) (hfs : fsB P e = some [(tb, 0), (ts, 1)]) (hub : P.underlying tb = some .bool) (hu : P.underlying ts = some (.slice T')) (hu' : P.underlying T' = some (.int .u64)) (hc : P.cellsOf T' = 1) (hcb : P.cellsOf tb = 1) (hcs : P.cellsOf ts = 1) (hce : P.cellsOf e = 2)
    (hci : P.cellsOf ti = 1) (hcm : P.cellsOf tm = 1) (hcT : P.cellsOf T = 3) (hv : Value.okWide P W .any base T v) (h : DataW.Trod enc P W 0 (fun _ => true) true T v d ps) (hps : ∀ x ∈ ps, x.block < W.heap.size) : ∃ x : Int × Int × List (Bool × List Nat), (isM x.1 x.2.1 x.2.2).h W (fun b => b < W.heap.size) v := by
  obtain ⟨fs, huT, hsz, hget⟩ := fsB_spec hfM
  have hv' := hv
  simp only [Value.okWide, huT] at hv'
  obtain ⟨cs, rfl, _, _⟩ := hv'
  obtain ⟨fuel, hf⟩ := h
  obtain ⟨xs, m, _, hx, hl, hxl, hfe⟩ := DataW.trod_struct huT hf
  simp [Value.cells] at hl hx
  obtain ⟨f0, g0, rfl, e0⟩ := hget 0 ti 0 rfl
  obtain ⟨f1, g1, k1, e1⟩ := hget 1 _ 1 rfl
  obtain ⟨f2, g2, rfl, e2⟩ := hget 2 tm 2 rfl
  have h0 := hfe 0 f0 g0
  have h1 := hfe 1 f1 g1
  have h2 := hfe 2 f2 g2
  rw [List.getElem?_eq_getElem (by rw [hxl, hsz]; simp)] at h0 h1 h2
  rw [e0, hci] at h0
  rw [e1, k1, hci] at h1
  rw [e2, hcm] at h2
  obtain ⟨r, hr, hr1, hr2⟩ := rd_I hui h0
  obtain ⟨c, hc1, hc2, hc3⟩ := rd_I hui h1
  obtain ⟨u, ws, hu1, hw⟩ := rd_Zs hT hfs hub hu hu' hc hcb hcs hce h2 (fun y hy => hps y (by
    rw [hx.2]
    exact List.mem_flatMap.2 ⟨_, List.getElem_mem _, hy⟩))
  refine ⟨(r, c, ws), cs.toList, by simp, ?_⟩
  have hcs2 : cs.toList = [.int .i64 r, .int .i64 c, u] := by
    have hlen : cs.toList.length = 3 := by rw [← hcT]; simpa using hl
    match hq : cs.toList, hlen with
    | [p, q, t], _ =>
      have a1 : [p] = [Value.int .i64 r] := by have := hr; simpa [Value.cells, hq] using this
      have a2 : [q] = [Value.int .i64 c] := by have := hc1; simpa [Value.cells, hq] using this
      have a3 : [t] = [u] := by have := hu1; simpa [Value.cells, hq] using this
      rw [List.cons.inj a1 |>.1, List.cons.inj a2 |>.1, List.cons.inj a3 |>.1]
  rw [hcs2]
  exact ⟨⟨rfl, hr1, hr2⟩, ⟨rfl, hc2, hc3⟩, hw, trivial⟩
end
end Go.En
/- A law of layer 15, as it is stated. -/
namespace Go.Proofs.Ytahoiilikhncgaa
open Go.En Go.RowKit
set_option maxRecDepth 10000
open Go.ChangeShapes
open Go.WideShapes
open Go.ChangeAt
open Go.Nt
open Go.Pz
open Go.Mz
theorem opens_ModhnfSame : Opens Try.prog Try.f7 7 := by
 intro H enc W base args ds ps hval hA hlt
 rw [Try.params7] at hA hval
 obtain ⟨v0, vs0, d0, ds0, p0, q0, hargs, rfl, rfl, h0, r0⟩ := trodAll_cons hA
 obtain ⟨rfl, rfl, rfl⟩ := trodAll_nil r0
 obtain rfl : args = #[v0] := by cases args; simp_all
 obtain ⟨x0, o0⟩ := open_M fs24 un3 un22 fs32 un4 un30 un105 (by kernel_rfl) (by kernel_rfl) (by kernel_rfl) (by kernel_rfl) (by kernel_rfl) (by kernel_rfl) (by kernel_rfl) (hval 0 24 v0 rfl rfl) h0 (fun x hx => hlt x (by simp [hx]))
 refine ⟨_, ?_, c_ModhnfSame x0.1 x0.2.1 x0.2.2⟩
 exact ⟨o0, trivial⟩
theorem modhnfSame_said : Rows.ModhnfSameSaid :=
 OpenClaim.holds_of_wide 7 Try.f7 rfl rfl rfl rfl rfl rfl rfl ⟨rfl, rfl, rfl, rfl, rfl⟩ rfl rfl rfl rfl rfl (by kernel_rfl) Try.func7 (by kernel_rfl)
  (of_decide_eq_true (by kernel_rfl)) (by unfold Func.isWrapper; first | (rw [if_pos (by decide +kernel)]; kernel_rfl) | (rw [if_neg (by decide +kernel)]; exact ⟨rfl, rfl⟩))
  (fun os started H enc _ => lift_law (C := Try.checked) (s := Rows.modhnfSameSpec) (by kernel_rfl) started (by kernel_rfl) Try.func7
   (ChangeSpec.witness6 (enc := enc) (C := Try.checked) false ⟨#[], #[.agg #[.int .i64 0, .int .i64 0, .slice none 0 0]], []⟩ 8 (by kernel_rfl) (by kernel_rfl) (by kernel_rfl) (by kernel_rfl))
   (by kernel_rfl) (by kernel_rfl) rfl rfl un4 (fun ds h => by match ds, h with | [d0], _ => rfl) opens_ModhnfSame)
#print axioms modhnfSame_said
end Go.Proofs.Ytahoiilikhncgaa
