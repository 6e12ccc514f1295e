/- The law ModhnfIndex, as it is stated, of the given program, for every input; no condition. -/
import Derived.Test.YthkdmhaafanjlaaQModhnfIndex5
import Derived.Deep.SlicePairs
import Derived.Test.YthkdmhaafanjlaaRows
namespace Go.Proofs.Ythkdmhaafanjlaa
open Go.En Go.RowKit
set_option maxRecDepth 10000
set_option maxHeartbeats 4000000
open Go.Nt
open Go.Pz
open Go.Mz
open Go.Hn
open Go.Tr
open Go.Dt
theorem mulB0 {R K : Nat} {L : List Int} : MulB R 0 K L 1 := ⟨by decide, by
 show (words (1 : Int).natAbs).length ≤ _
 rw [nz_one]
 exact Nat.mul_le_mul (show 1 ≤ K + 1 by omega) (Nat.pow_pos (by decide)), Nat.zero_le _, [], rfl, by simp, List.nodup_nil, rfl⟩
theorem bareiss_EchelonT {R C K : Nat} {xs : List (Bool × List Nat)} (hx : Bd (vals xs) K) (hK1 : 1 ≤ K) (hR : R ≤ 64) (hC : C ≤ 64) (hl : xs.length = R * C) (hK : (K + 1) * 2 ^ R ≤ 30000000) : CtrX Try.prog 30 [isM (R : Int) (C : Int) xs] ([]) (fun S M => ∃ rs ps last odd, S = isTup [isMz rs.length C (fltn (rs.map Prod.snd)), SlM isI (pv ps), isI 0] ∧ M = [] ∧ RunI ⟨rowsOf R C (vals xs), [], 1, false⟩ C K R C rs ps last odd) := by
 refine CtrX.intro Try.func30 rfl (by kernel_rfl) Try.ntmps30 rfl fun w0 F0 => ?_
 refine .cv (Cv.wk (.k 0 rfl .nil)) ?_
 refine .seq fun _ k1 => .region (.box (.t rfl) rfl fun b1 => ?_)
 refine .alloc [isI 0, isI 0, nilS] zero24 (fun _ _ => ⟨⟨rfl, by decide, by decide⟩, ⟨rfl, by decide, by decide⟩, rfl, trivial⟩) rfl fun b2 => ?_
 refine st (.as (Has.cW (f := isI))) rfl ?_
 refine st (.as (Has.cI 0 rfl)) rfl ?_
 refine nl (.thn (k1 _ _ ?_))
 refine .seq fun _ k2 => .region (st (.load (.t rfl) (i := 1) rfl ty24 rfl (Ss' := [_, _, _]) rfl) rfl ?_)
 refine .callX (bareiss_done hx hK1 hR hC hl (by omega)) (List.Perm.refl _) (.cons (.t rfl) .nil) rfl ?_
 rintro _ _ ⟨rs, ps, last, odd, rfl, rfl, hRun⟩
 have hpv := pv_len ps
 have hps := hRun.hps
 refine st (.mv (.t rfl)) rfl (st (.ext (.t rfl) rfl) rfl ?_)
 refine st (.ext (.t rfl) rfl) rfl ?_
 refine st (.as (.t rfl)) rfl (st (.as (.t rfl)) rfl ?_)
 refine nl (.thn (k2 _ _ ?_))
 refine .cv (Cv.wk (.k 2 rfl (.k 3 rfl (.k 4 rfl (.k 5 rfl (.k 6 rfl .nil)))))) ?_
 refine .seq fun _ k3 => ?_
 refine .seq fun _ k4 => .region (st (.mv (.t rfl)) rfl ?_)
 refine st (.neI (.t rfl) (Has.cI 0 rfl)) rfl ?_
 refine nl (.thn (k4 _ _ ?_))
 refine .cond (.t rfl) (fun hc1 => ?_) (fun hc1 => ?_)
 ·have hc1 := BP.t hc1
  exact absurd rfl hc1
 ·have hc1 := BP.f hc1
  skip
  refine .skip ?_
  refine .thn (k3 _ _ ?_)
  refine .seq fun _ k5 => ?_
  refine .drh [false, true] (Ms := [_]) rfl ?_
  refine .s [] rfl rfl rfl (.o rfl (.mv (.t rfl))) ?_
  refine .s [16] rfl rfl rfl (.o rfl (.eq (.call (bareiss_matrix (fun r hr => by obtain ⟨q, hq, rfl⟩ := List.mem_map.1 hr; have := hRun.hrow q hq; omega) (by rw [List.length_map]; have := hRun.hlen; omega)) (.cons (.t rfl) .nil)) ((show _ = isMz rs.length C (fltn (rs.map Prod.snd)) from by rw [List.length_map])))) ?_
  refine .s [] rfl rfl rfl (.o rfl (.mv (.t rfl))) ?_
  refine .s [18] rfl rfl rfl (.o rfl (.nilcP (.t rfl))) ?_
  refine .s [19] rfl rfl rfl (.o rfl (.fieldAddrP (.t rfl) fld102_2 ty63 (Ss' := [_, _, _, _]) rfl)) ?_
  refine .s [20] rfl rfl rfl (.o rfl (.loadP1 (.t rfl) ty63)) ?_
  refine .mid (.cons _ (.cons_cons _ .slnil)) ?_
  refine .st [17] rfl rfl (by kernel_rfl) (by kernel_rfl) (StS.store (.t rfl) (.t rfl) (i := 0) rfl ty24 rfl rfl (Ss' := [_, _, _]) rfl (M' := [(some _, cellM [_, _, _]), _]) rfl) (.cons _ (.cons_cons _ .slnil)) ?_
  refine .fin (n := 7) mixed rfl (by kernel_rfl) (by kernel_rfl) (by kernel_rfl) ?_
  refine .cv (Cv.wk (.k 2 rfl (.k 3 rfl (.k 4 rfl (.k 21 rfl .nil))))) ?_
  refine st (.as (.t rfl)) rfl (st (.as (Has.cI 0 rfl)) rfl ?_)
  refine nl (.thn (k5 _ _ ?_))
  refine .ret ?_
  refine rtXND (.cons _ (.cons _ .slnil)) (.inl rfl) Try.results30 rfl rfl (.cell rfl (i := 0) rfl ty24 rfl rfl (.tmp (.t rfl) (.tmp (.t rfl) .nil))) ?_
  exact ⟨rs, ps, last, odd, rfl, rfl, hRun⟩
theorem modhnf_Multiple {R C K : Nat} {xs : List (Bool × List Nat)} (hx : Bd (vals xs) K) (hK1 : 1 ≤ K) (hR : R ≤ 64) (hC : C ≤ 64) (hl : xs.length = R * C) (hK : (K + 1) * 2 ^ R ≤ 30000000) (hp : (Go.Dt.pivs (mf C (vals xs)) R C).length = C) : CtrX Try.prog 9 [isM (R : Int) (C : Int) xs] ([]) (fun S M => ∃ b, S = isTup [isZ b, isI 0] ∧ M = [] ∧ MulB R C K (vals xs) b) := by
 refine CtrX.intro Try.func9 rfl (by kernel_rfl) Try.ntmps9 rfl fun w0 F0 => ?_
 refine .cv (Cv.wk (.k 0 rfl .nil)) ?_
 refine .seq fun _ k1 => .region (.box (.t rfl) rfl fun b1 => ?_)
 refine .alloc [isB false, SlM isU []] zero30 (fun _ _ => ⟨rfl, nilM _ _, trivial⟩) rfl fun b2 => ?_
 refine st (.as (Has.cI 0 rfl)) rfl ?_
 refine nl (.thn (k1 _ _ ?_))
 refine .seq fun _ k2 => .region (st (.load (.t rfl) (i := 1) rfl ty24 rfl (Ss' := [_, _, _]) rfl) rfl ?_)
 refine .callX (bareiss_EchelonT hx hK1 hR hC hl hK) (List.Perm.refl _) (.cons (.t rfl) .nil) rfl ?_
 rintro _ _ ⟨rs, ps, last, odd, rfl, rfl, hRun⟩
 have hpv := pv_len ps
 have hpp : ps.length = (Go.Dt.pivs (mf C (vals xs)) R C).length := by rw [run_pivs hRun]
 have hrl := hRun.hlen
 have hpl := hRun.hps
 refine st (.mv (.t rfl)) rfl (st (.ext (.t rfl) rfl) rfl ?_)
 refine st (.ext (.t rfl) rfl) rfl (st (.ext (.t rfl) rfl) rfl ?_)
 refine .alloc [isI 0, isI 0, nilS] zero24 (fun _ _ => ⟨⟨rfl, by decide, by decide⟩, ⟨rfl, by decide, by decide⟩, rfl, trivial⟩) rfl fun b3 => ?_
 refine .store (.t rfl) (.t rfl) (i := 0) rfl ty24 rfl rfl (Ss' := [_, _, _]) rfl (M' := [(some _, cellM [_, _, _]), _, _]) rfl ?_
 refine st (.as (.t rfl)) rfl (st (.as (.t rfl)) rfl ?_)
 refine nl (.thn (k2 _ _ ?_))
 refine .cv (Cv.wk (.k 1 rfl (.k 2 rfl (.k 3 rfl (.k 4 rfl (.k 5 rfl (.k 6 rfl .nil))))))) ?_
 refine .seq fun _ k3 => ?_
 refine .block ?_
 refine .seq fun _ k4 => .region (st (.mv (.t rfl)) rfl ?_)
 refine st (.neI (.t rfl) (Has.cI 0 rfl)) rfl ?_
 refine st (.as (.t rfl)) rfl ?_
 refine nl (.thn (k4 _ _ ?_))
 refine .cond (.t rfl) (fun hc1 => ?_) (fun hc1 => ?_)
 ·have hc1 := BP.t hc1
  exfalso; simp at hc1
 ·have hc1 := BP.f hc1
  skip
  refine .seq fun _ k5 => .region (st (.mv (.t rfl)) rfl ?_)
  refine st (.len sl63 (.t rfl)) rfl (st (.fieldAddr (.t rfl) fld24_1 ty3) rfl ?_)
  refine st (.load1 (.t rfl) (i := 2) rfl ty3 rfl) rfl (st (.ltI (.t rfl) (.t rfl)) rfl ?_)
  refine st (.as (.t rfl)) rfl ?_
  refine nl (.thn (k5 _ _ ?_))
  refine .cv (Cv.wk (.k 1 rfl (.k 2 rfl (.k 3 rfl (.k 4 rfl (.k 18 rfl .nil)))))) ?_
  refine .cond (.t rfl) (fun hc2 => ?_) (fun hc2 => ?_)
  ·have hc2 := BP.t hc2
   exfalso; omega
  ·have hc2 := BP.f hc2
   obtain ⟨hMB, hlast⟩ := run_mul hRun (by omega)
   have hrow : ∀ r ∈ rs.map Prod.snd, r.length = C := fun r hr => by obtain ⟨q, hq, rfl⟩ := List.mem_map.1 hr; exact hRun.hrow q hq
   have hbA : ∀ r ∈ rs.map Prod.snd, Bd r ((K + 1) * 2 ^ R) := fun r hr => by obtain ⟨q, hq, rfl⟩ := List.mem_map.1 hr; exact (hRun.hb q hq).mono (by have := Nat.mul_le_mul_left (K + 1) (Nat.pow_le_pow_right (show 0 < 2 by decide) hpl); omega)
   have hll := hRun.hl
   have hp2 := Nat.mul_le_mul_left (K + 1) (Nat.pow_le_pow_right (show 0 < 2 by decide) hpl)
   refine .seq fun _ k6 => .region (st (.fieldAddr (.t rfl) fld24_1 ty3) rfl ?_)
   refine st (.load1 (.t rfl) (i := 2) rfl ty3 rfl) rfl (st (.eqI (.t rfl) (Has.cI 0 rfl)) rfl ?_)
   refine st (.as (.t rfl)) rfl ?_
   refine nl (.thn (k6 _ _ ?_))
   refine .cond (.t rfl) (fun hc3 => ?_) (fun hc3 => ?_)
   ·have hc3 := BP.t hc3
    obtain rfl : C = 0 := by omega
    refine .seq fun _ k7 => .region (st (.call (zint_Of) (.cons (Has.cI 1 rfl) .nil)) rfl ?_)
    refine .store (.t rfl) (.t rfl) (i := 1) rfl ty30 rfl rfl (Ss' := [_, _]) rfl (M' := [_, (some _, cellM [_, _]), _]) rfl ?_
    refine st (.as (Has.cI 0 rfl)) rfl ?_
    refine nl (.thn (k7 _ _ ?_))
    refine .cv (Cv.wk (.k 1 rfl (.k 2 rfl (.k 3 rfl (.k 4 rfl .nil))))) ?_
    refine .ret ?_
    refine .blr ?_
    refine .thr ?_
    refine rtXND (.cons _ (.cons _ (.cons _ .slnil))) (.inl rfl) Try.results9 rfl rfl (.cell rfl (i := 1) rfl ty30 rfl rfl (.tmp (.t rfl) .nil)) ?_
    exact ⟨1, rfl, rfl, mulB0⟩
   ·have hc3 := BP.f hc3
    have hC0 : 0 < C := by omega
    obtain ⟨rl, hrl1, hrl2⟩ := hlast hC0
    refine .skip ?_
    refine .bln ?_
    refine .thn (k3 _ _ ?_)
    refine .cv (Cv.wk (.k 1 rfl (.k 2 rfl (.k 3 rfl (.k 4 rfl .nil))))) ?_
    refine .seq fun _ k8 => .region (st (.load (.t rfl) (i := 0) rfl ty24 rfl (Ss' := [_, _, _]) rfl) rfl ?_)
    refine st (.fieldAddr (.t rfl) fld24_1 ty3) rfl (st (.load1 (.t rfl) (i := 2) rfl ty3 rfl) rfl ?_)
    refine st (.eq (.subI (.t rfl) (Has.cI 1 rfl) (by first | omega | assumption) (by first | omega | assumption)) ((show isI _ = isI ((C - 1 : Nat) : Int) from isI_eq (by omega)))) rfl ?_
    refine st (.fieldAddr (.t rfl) fld24_1 ty3) rfl (st (.load1 (.t rfl) (i := 2) rfl ty3 rfl) rfl ?_)
    refine st (.eq (.subI (.t rfl) (Has.cI 1 rfl) (by first | omega | assumption) (by first | omega | assumption)) ((show isI _ = isI ((C - 1 : Nat) : Int) from isI_eq (by omega)))) rfl ?_
    refine st (.eq (.call (zmat_At (R := rs.length) (i := C - 1) (k := C - 1) (K := (K + 1) * 2 ^ R) (by rw [vals_nz]; exact fltn_bd hrow hbA) (by omega) (by omega) hC (by rw [List.length_map, fltn_tab hrow, tab_len, List.length_map]) (by omega) (by omega)) (.cons (.t rfl) (.cons (.t rfl) (.cons (.t rfl) .nil)))) ((show _ = isZ last from isZ_eq (by rw [vals_nz]; exact (fltn_at hrow (r := rl.2) (by rw [List.getElem?_map, hrl1]; rfl) (by omega)).trans hrl2)))) rfl ?_
    refine st (.eq (.call (zint_Abs (by rw [val_words]; omega)) (.cons (.t rfl) .nil)) ((show _ = isZ ((last.natAbs : Nat) : Int) from isZ_eq (by rw [zv_nf])))) rfl ?_
    refine .store (.t rfl) (.t rfl) (i := 1) rfl ty30 rfl rfl (Ss' := [_, _]) rfl (M' := [_, (some _, cellM [_, _]), _]) rfl ?_
    refine st (.as (Has.cI 0 rfl)) rfl ?_
    refine nl (.thn (k8 _ _ ?_))
    refine .cv (Cv.wk (.k 2 rfl (.k 3 rfl .nil))) ?_
    refine .ret ?_
    refine rtXND (.cons _ (.cons _ (.cons _ .slnil))) (.inl rfl) Try.results9 rfl rfl (.cell rfl (i := 1) rfl ty30 rfl rfl (.tmp (.t rfl) .nil)) ?_
    exact ⟨_, rfl, rfl, hMB⟩
theorem modhnf_Multiple_no {R C K : Nat} {xs : List (Bool × List Nat)} (hx : Bd (vals xs) K) (hK1 : 1 ≤ K) (hR : R ≤ 64) (hC : C ≤ 64) (hl : xs.length = R * C) (hK : (K + 1) * 2 ^ R ≤ 30000000) (hp : (Go.Dt.pivs (mf C (vals xs)) R C).length < C) : CtrX Try.prog 9 [isM (R : Int) (C : Int) xs] ([]) (fun S M => S = isTup [isZ 0, isI 3] ∧ M = []) := by
 refine CtrX.intro Try.func9 rfl (by kernel_rfl) Try.ntmps9 rfl fun w0 F0 => ?_
 refine .cv (Cv.wk (.k 0 rfl .nil)) ?_
 refine .seq fun _ k1 => .region (.box (.t rfl) rfl fun b1 => ?_)
 refine .alloc [isB false, SlM isU []] zero30 (fun _ _ => ⟨rfl, nilM _ _, trivial⟩) rfl fun b2 => ?_
 refine st (.as (Has.cI 0 rfl)) rfl ?_
 refine nl (.thn (k1 _ _ ?_))
 refine .seq fun _ k2 => .region (st (.load (.t rfl) (i := 1) rfl ty24 rfl (Ss' := [_, _, _]) rfl) rfl ?_)
 refine .callX (bareiss_EchelonT hx hK1 hR hC hl hK) (List.Perm.refl _) (.cons (.t rfl) .nil) rfl ?_
 rintro _ _ ⟨rs, ps, last, odd, rfl, rfl, hRun⟩
 have hpv := pv_len ps
 have hpp : ps.length = (Go.Dt.pivs (mf C (vals xs)) R C).length := by rw [run_pivs hRun]
 have hrl := hRun.hlen
 have hpl := hRun.hps
 refine st (.mv (.t rfl)) rfl (st (.ext (.t rfl) rfl) rfl ?_)
 refine st (.ext (.t rfl) rfl) rfl (st (.ext (.t rfl) rfl) rfl ?_)
 refine .alloc [isI 0, isI 0, nilS] zero24 (fun _ _ => ⟨⟨rfl, by decide, by decide⟩, ⟨rfl, by decide, by decide⟩, rfl, trivial⟩) rfl fun b3 => ?_
 refine .store (.t rfl) (.t rfl) (i := 0) rfl ty24 rfl rfl (Ss' := [_, _, _]) rfl (M' := [(some _, cellM [_, _, _]), _, _]) rfl ?_
 refine st (.as (.t rfl)) rfl (st (.as (.t rfl)) rfl ?_)
 refine nl (.thn (k2 _ _ ?_))
 refine .cv (Cv.wk (.k 1 rfl (.k 2 rfl (.k 3 rfl (.k 4 rfl (.k 5 rfl (.k 6 rfl .nil))))))) ?_
 refine .seq fun _ k3 => ?_
 refine .block ?_
 refine .seq fun _ k4 => .region (st (.mv (.t rfl)) rfl ?_)
 refine st (.neI (.t rfl) (Has.cI 0 rfl)) rfl ?_
 refine st (.as (.t rfl)) rfl ?_
 refine nl (.thn (k4 _ _ ?_))
 refine .cond (.t rfl) (fun hc1 => ?_) (fun hc1 => ?_)
 ·have hc1 := BP.t hc1
  exfalso; simp at hc1
 ·have hc1 := BP.f hc1
  skip
  refine .seq fun _ k5 => .region (st (.mv (.t rfl)) rfl ?_)
  refine st (.len sl63 (.t rfl)) rfl (st (.fieldAddr (.t rfl) fld24_1 ty3) rfl ?_)
  refine st (.load1 (.t rfl) (i := 2) rfl ty3 rfl) rfl (st (.ltI (.t rfl) (.t rfl)) rfl ?_)
  refine st (.as (.t rfl)) rfl ?_
  refine nl (.thn (k5 _ _ ?_))
  refine .cv (Cv.wk (.k 1 rfl (.k 2 rfl (.k 3 rfl (.k 4 rfl (.k 18 rfl .nil)))))) ?_
  refine .cond (.t rfl) (fun hc2 => ?_) (fun hc2 => ?_)
  ·have hc2 := BP.t hc2
   skip
   refine .seq fun _ k6 => .region (st (.build [isB false, SlM isU []] pl30 zero30 (fun _ _ => ⟨rfl, nilM _ _, trivial⟩) .nil (Z'' := [_, _]) rfl) rfl ?_)
   refine .store (.t rfl) (.t rfl) (i := 1) rfl ty30 rfl rfl (Ss' := [_, _]) rfl (M' := [_, (some _, cellM [_, _]), _]) rfl ?_
   refine st (.as (Has.cI 3 rfl)) rfl ?_
   refine nl (.thn (k6 _ _ ?_))
   refine .ret ?_
   refine .blr ?_
   refine .thr ?_
   refine rtXND (.cons _ (.cons _ (.cons _ .slnil))) (.inl rfl) Try.results9 rfl rfl (.cell rfl (i := 1) rfl ty30 rfl rfl (.tmp (.t rfl) .nil)) ?_
   exact ⟨by rw [isZ0], rfl⟩
  ·have hc2 := BP.f hc2
   exfalso; omega
theorem modhnf_Multiple_bad {r c : Int} {xs : List (Bool × List Nat)} (hf : formB r c xs.length = false) : Ctr Try.prog 9 [isM r c xs] (isTup [isZ 0, isI 2]) := by
 refine Ctr.intro Try.func9 rfl (by kernel_rfl) Try.ntmps9 rfl fun w0 F0 => ?_
 refine .cv (Cv.wk (.k 0 rfl .nil)) ?_
 refine .seq fun _ k1 => .region (.box (.t rfl) rfl fun b1 => ?_)
 refine .alloc [isB false, SlM isU []] zero30 (fun _ _ => ⟨rfl, nilM _ _, trivial⟩) rfl fun b2 => ?_
 refine st (.as (Has.cI 0 rfl)) rfl ?_
 refine nl (.thn (k1 _ _ ?_))
 refine .seq fun _ k2 => .region (st (.load (.t rfl) (i := 1) rfl ty24 rfl (Ss' := [_, _, _]) rfl) rfl ?_)
 refine st (.call (bareiss_Echelon_bad hf) (.cons (.t rfl) .nil)) rfl ?_
 refine st (.mv (.t rfl)) rfl (st (.ext (.t rfl) rfl) rfl ?_)
 refine st (.ext (.t rfl) rfl) rfl (st (.ext (.t rfl) rfl) rfl ?_)
 refine .alloc [isI 0, isI 0, nilS] zero24 (fun _ _ => ⟨⟨rfl, by decide, by decide⟩, ⟨rfl, by decide, by decide⟩, rfl, trivial⟩) rfl fun b3 => ?_
 refine .store (.t rfl) (.t rfl) (i := 0) rfl ty24 rfl rfl (Ss' := [_, _, _]) rfl (M' := [(some _, cellM [_, _, _]), _, _]) rfl ?_
 refine st (.as (.t rfl)) rfl (st (.as (.t rfl)) rfl ?_)
 refine nl (.thn (k2 _ _ ?_))
 refine .cv (Cv.wk (.k 1 rfl (.k 2 rfl (.k 3 rfl (.k 4 rfl (.k 5 rfl (.k 6 rfl .nil))))))) ?_
 refine .seq fun _ k3 => ?_
 refine .block ?_
 refine .seq fun _ k4 => .region (st (.mv (.t rfl)) rfl ?_)
 refine st (.neI (.t rfl) (Has.cI 0 rfl)) rfl ?_
 refine st (.as (.t rfl)) rfl ?_
 refine nl (.thn (k4 _ _ ?_))
 refine .cond (.t rfl) (fun hc1 => ?_) (fun hc1 => ?_)
 ·have hc1 := BP.t hc1
  skip
  refine .seq fun _ k5 => .region (st (.build [isB false, SlM isU []] pl30 zero30 (fun _ _ => ⟨rfl, nilM _ _, trivial⟩) .nil (Z'' := [_, _]) rfl) rfl ?_)
  refine st (.mv (.t rfl)) rfl ?_
  refine .store (.t rfl) (.t rfl) (i := 1) rfl ty30 rfl rfl (Ss' := [_, _]) rfl (M' := [_, (some _, cellM [_, _]), _]) rfl ?_
  refine st (.as (.t rfl)) rfl ?_
  refine nl (.thn (k5 _ _ ?_))
  refine .cv (Cv.wk (.k 1 rfl (.k 2 rfl (.k 3 rfl (.k 4 rfl .nil))))) ?_
  refine .ret ?_
  refine .blr ?_
  refine .thr ?_
  refine rtN (.inl rfl) Try.results9 rfl rfl (.cell rfl (i := 1) rfl ty30 rfl ?_ (.tmp (Has.t' rfl ?_) .nil))
  ·exact isZ0
  ·rfl
 ·have hc1 := BP.f hc1
  exfalso; simp at hc1
theorem tri_mem {n0 : Nat} {gt : Gr Row} {rs : List Row} {ls : List (List Int)} {M : Mem} (h : rs.map Prod.snd = ls) : (grM (tN n0) (gN gt) (rs.map fun r => some r.2) :: M : Mem) = grM (tN n0) (gN gt) (ls.map some) :: M := by
 subst h; rw [List.map_map]; rfl
theorem modhnf_filled {R C K : Nat} {xs : List (Bool × List Nat)} (hx : Bd (vals xs) K) (hK1 : 1 ≤ K) (hR : R ≤ 64) (hC : C ≤ 64) (hl : xs.length = R * C) (hK : (((K + 1) * 2 ^ R) + 2) * 2 ^ C ≤ 80000000) (hKm : ((K + 1) * 2 ^ R) ≤ 30000000) (hp : (Go.Dt.pivs (mf C (vals xs)) R C).length = C) : CtrX Try.prog 28 [isM (R : Int) (C : Int) xs] ([]) (fun S M => ∃ b, S = isTup [PtrL [SlM isP (filT b R C (vals xs)), isB (decide (b < 0)), SlM isU (words b.natAbs)], isI 0] ∧ M = [] ∧ MulB R C K (vals xs) b) := by
 refine CtrX.introF Try.func28 rfl (by kernel_rfl) Try.ntmps28 rfl fun w0 F0 hF0 => ?_
 refine .cv (Cv.wk (.k 0 rfl .nil)) ?_
 have hKb : K + 1 ≤ ((K + 1) * 2 ^ R) := Nat.le_mul_of_pos_right _ (Nat.pow_pos (by decide))
 refine .seq fun _ k1 => .region (.box (.t rfl) rfl fun b1 => ?_)
 refine st (.as Has.cP) rfl ?_
 refine st (.as (Has.cI 0 rfl)) rfl ?_
 refine nl (.thn (k1 _ _ ?_))
 refine .seq fun _ k2 => .region (st (.load (.t rfl) (i := 0) rfl ty24 rfl (Ss' := [_, _, _]) rfl) rfl ?_)
 refine .callX (modhnf_Multiple hx hK1 hR hC hl hKm hp) (List.Perm.refl _) (.cons (.t rfl) .nil) rfl ?_
 rintro _ _ ⟨b, rfl, rfl, hMB⟩
 have hb0 := hMB.1
 have hbK := hMB.2.1
 refine st (.mv (.t rfl)) rfl (st (.ext (.t rfl) rfl) rfl ?_)
 refine st (.ext (.t rfl) rfl) rfl ?_
 refine .alloc [isB false, SlM isU []] zero30 (fun _ _ => ⟨rfl, nilM _ _, trivial⟩) rfl fun b2 => ?_
 refine .store (.t rfl) (.t rfl) (i := 0) rfl ty30 rfl rfl (Ss' := [_, _]) rfl (M' := [(some _, cellM [_, _]), _]) rfl ?_
 refine st (.as (.t rfl)) rfl ?_
 refine nl (.thn (k2 _ _ ?_))
 refine .cv (Cv.wk (.k 1 rfl (.k 2 rfl (.k 3 rfl (.k 4 rfl (.k 5 rfl .nil)))))) ?_
 refine .seq fun _ k3 => ?_
 refine .seq fun _ k4 => .region (st (.mv (.t rfl)) rfl ?_)
 refine st (.neI (.t rfl) (Has.cI 0 rfl)) rfl ?_
 refine nl (.thn (k4 _ _ ?_))
 refine .cond (.t rfl) (fun hc1 => ?_) (fun hc1 => ?_)
 ·have hc1 := BP.t hc1
  exfalso; simp at hc1
 ·have hc1 := BP.f hc1
  skip
  refine .skip ?_
  refine .thn (k3 _ _ ?_)
  refine .seq fun _ k5 => .region (st (.fieldAddr (.t rfl) fld24_1 ty3) rfl ?_)
  refine st (.load1 (.t rfl) (i := 1) rfl ty3 rfl) rfl (st (.load (.t rfl) (i := 0) rfl ty30 rfl (Ss' := [_, _]) rfl) rfl ?_)
  refine .callX (modhnf_begun (n := C) (b := b) hC) (List.Perm.refl _) (.cons (.t rfl) (.cons (.t rfl) .nil)) rfl ?_
  rintro _ _ ⟨bt, gt0, rs0, rfl, rfl, hrs0⟩
  have hl0 : rs0.length = C := by have := congrArg List.length hrs0; rwa [List.length_map, tri0_len] at this
  refine .cv (Cv.triN (t := 23) (n' := C) rfl rfl hl0 rfl) ?_
  refine st (.as (.t rfl)) rfl ?_
  refine nl (.thn (k5 _ _ ?_))
  refine .cv (Cv.wk (.k 1 rfl (.k 2 rfl (.k 3 rfl (.k 4 rfl (.k 6 rfl .nil)))))) ?_
  refine .seq fun _ k6 => ?_
  refine .seq fun _ k7 => .region (st (.fieldAddr (.t rfl) fld24_0 ty3) rfl ?_)
  refine st (.load1 (.t rfl) (i := 2) rfl ty3 rfl) rfl (st (.mv (Has.cI 0 rfl)) rfl ?_)
  refine nl (.thn (k7 _ _ ?_))
  refine .block ?_
  refine .loopF [1, 2, 3, 4, 6, 25] (fun (z : { i : Nat // i ≤ R }) => match z with | ⟨i, hi⟩ => [(26, isI (i : Int))]) (fun M => fun (z : { i : Nat // i ≤ R }) => match z with | ⟨i, hi⟩ => (grM (tN w0.heap.size) (gN gt0) ((fil b C (vals xs) i).map some) :: zM b2 b :: (some b1, cellM [isI (R : Int), isI (C : Int), SlK 2 zc xs]) :: [])) (fun (z : { i : Nat // i ≤ R }) => match z with | ⟨i, hi⟩ => R - i) (⟨0, Nat.zero_le _⟩) (Cv.mem (.cons (t := 26) (Has.t' rfl ?_) (.k 1 rfl (.k 2 rfl (.k 3 rfl (.k 4 rfl (.k 6 rfl (.k 25 rfl .nil))))))) ?_) ?_
  ·rfl
  ·exact tri_mem hrs0
  rintro ⟨i, hi⟩ K8 hK8
  refine .cv (Cv.wk (.k 26 rfl (.k 1 rfl (.k 2 rfl (.k 3 rfl (.k 4 rfl (.k 6 rfl (.k 25 rfl .nil)))))))) ?_
  refine .memEq (M' := (grM (tN w0.heap.size) (gN gt0) ((fil b C (vals xs) i).map some) :: zM b2 b :: (some b1, cellM [isI (R : Int), isI (C : Int), SlK 2 zc xs]) :: [])) rfl ?_
  refine .seq fun _ k9 => .region (st (.ltI (.t rfl) (.t rfl)) rfl ?_)
  refine nl (.thn (k9 _ _ ?_))
  refine .seq fun _ k10 => ?_
  refine .cond (.t rfl) (fun hc2 => ?_) (fun hc2 => ?_)
  ·have hc2 := BP.t hc2
   refine .skip ?_
   refine .thn (k10 _ _ ?_)
   refine .seq fun _ k11 => ?_
   refine .block ?_
   refine .seq fun _ k12 => .region (st (.mv (.t rfl)) rfl ?_)
   refine st (.as (.t rfl)) rfl ?_
   refine nl (.thn (k12 _ _ ?_))
   refine .seq fun _ k13 => .region (.cv (Cv.grow0K (α := Bool × List Nat) zc) ?_)
   refine st (.as (Has.cGr (α := Bool × List Nat))) rfl ?_
   refine nl (.thn (k13 _ _ ?_))
   refine .seq fun _ k14 => ?_
   refine .seq fun _ k15 => .region (st (.fieldAddr (.t rfl) fld24_1 ty3) rfl ?_)
   refine st (.load1 (.t rfl) (i := 3) rfl ty3 rfl) rfl (st (.mv (Has.cI 0 rfl)) rfl ?_)
   refine nl (.thn (k15 _ _ ?_))
   refine .block ?_
   refine .loopF [1, 2, 3, 4, 6, 25, 26, 27, 28, 7, 29, 30] (fun (z : { z : Nat × Gr (Bool × List Nat) // z.1 ≤ C }) => match z with | ⟨(k, g), hK3⟩ => [(31, isI (k : Int)), (8, isGr g ((vrow b C (vals xs) i k).map nz).length)]) (fun M => fun (z : { z : Nat × Gr (Bool × List Nat) // z.1 ≤ C }) => match z with | ⟨(k, g), hK3⟩ => (grMK zc g ((vrow b C (vals xs) i k).map nz) :: grM (tN w0.heap.size) (gN gt0) ((fil b C (vals xs) i).map some) :: zM b2 b :: (some b1, cellM [isI (R : Int), isI (C : Int), SlK 2 zc xs]) :: [])) (fun (z : { z : Nat × Gr (Bool × List Nat) // z.1 ≤ C }) => match z with | ⟨(k, g), hK3⟩ => C - k) (⟨(0, Gr.nil), Nat.zero_le _⟩) (Cv.mem (.cons (t := 31) (Has.t' rfl ?_) (.cons (t := 8) (Has.t' rfl ?_) (.k 1 rfl (.k 2 rfl (.k 3 rfl (.k 4 rfl (.k 6 rfl (.k 25 rfl (.k 26 rfl (.k 27 rfl (.k 28 rfl (.k 7 rfl (.k 29 rfl (.k 30 rfl .nil)))))))))))))) ?_) ?_
   ·rfl
   ·rfl
   ·rfl
   rintro ⟨⟨k, g⟩, hK3⟩ K16 hK16
   refine .cv (Cv.wk (.k 31 rfl (.k 8 rfl (.k 1 rfl (.k 2 rfl (.k 3 rfl (.k 4 rfl (.k 6 rfl (.k 25 rfl (.k 26 rfl (.k 27 rfl (.k 28 rfl (.k 7 rfl (.k 29 rfl (.k 30 rfl .nil))))))))))))))) ?_
   refine .memEq (M' := (grMK zc g ((vrow b C (vals xs) i k).map nz) :: grM (tN w0.heap.size) (gN gt0) ((fil b C (vals xs) i).map some) :: zM b2 b :: (some b1, cellM [isI (R : Int), isI (C : Int), SlK 2 zc xs]) :: [])) rfl ?_
   simp only [] at hK3
   have hvk : ((vrow b C (vals xs) i k).map nz).length = k := by rw [List.length_map, vrow_len]
   refine .seq fun _ k17 => .region (st (.ltI (.t rfl) (.t rfl)) rfl ?_)
   refine nl (.thn (k17 _ _ ?_))
   refine .seq fun _ k18 => ?_
   refine .cond (.t rfl) (fun hc3 => ?_) (fun hc3 => ?_)
   ·have hc3 := BP.t hc3
    refine .skip ?_
    refine .thn (k18 _ _ ?_)
    refine .seq fun _ k19 => ?_
    refine .block ?_
    refine .seq fun _ k20 => .region (st (.mv (.t rfl)) rfl ?_)
    refine st (.as (.t rfl)) rfl ?_
    refine nl (.thn (k20 _ _ ?_))
    refine .seq fun _ k21 => ?_
    refine .drh [true, true, true, true] (Ms := [_, _, _, _]) rfl ?_
    refine .s [] rfl rfl rfl (.o rfl (.load (.t rfl) (i := 3) rfl ty24 rfl (Ss' := [_, _, _]) rfl)) ?_
    refine .s [] rfl rfl rfl (.o rfl (.mv (.t rfl))) ?_
    refine .s [] rfl rfl rfl (.o rfl (.mv (.t rfl))) ?_
    refine .s [35, 36, 37] rfl rfl rfl (.o rfl (.call (zmat_At hx (by omega) hR hC hl (i := i) (k := k) (by omega) (by omega)) (.cons (.t rfl) (.cons (.t rfl) (.cons (.t rfl) .nil))))) ?_
    refine .s [] rfl rfl rfl (.o rfl (.load (.t rfl) (i := 2) rfl ty30 rfl (Ss' := [_, _]) rfl)) ?_
    refine .s [38, 39] rfl rfl rfl (.o rfl (.eq (.call (modn_Mod (by rw [val_words]; have := hx (i * C + k); omega) (by rw [val_words]; omega)) (.cons (.t rfl) (.cons (.t rfl) .nil))) ((show _ = isTup [isZ (cf (vals xs) (i * C + k) % b), isB true] from by simp only [zv_nf, zv_nz]; rw [if_pos hb0, decide_eq_true hb0])))) ?_
    refine .s [40] rfl rfl rfl (.o rfl (.mv (.t rfl))) ?_
    refine .s [34] rfl rfl rfl (.o rfl (.ext (.t rfl) rfl)) ?_
    refine .s [34] rfl rfl rfl (.o rfl (.ext (.t rfl) rfl)) ?_
    refine .als (n1 := 10) (ds := [10]) (zs := [[isB false, SlM isU []]]) rfl (.cons rfl rfl zero30 (fun _ _ => ⟨rfl, nilM _ _, trivial⟩) .nil) (.cons_cons _ (.cons_cons _ (.cons_cons _ (.cons_cons _ .slnil)))) (Cs := [_]) rfl ?_
    refine .new [41] 0 (Ss' := [_, _]) (Cs' := [cellM [_, _]]) rfl (by kernel_rfl) (by kernel_rfl) rfl rfl rfl (by kernel_rfl) rfl (.t rfl) ty30 rfl rfl rfl rfl ?_
    refine .fin (n := 11) mixed rfl (by kernel_rfl) (by kernel_rfl) (by kernel_rfl) (fun bs hbs => ?_)
    obtain ⟨b3, rfl⟩ := len1 hbs
    refine .memEq (M' := [_, _, _, _, _]) rfl ?_
    refine .cv (Cv.wk (.k 1 rfl (.k 2 rfl (.k 3 rfl (.k 4 rfl (.k 6 rfl (.k 25 rfl (.k 26 rfl (.k 27 rfl (.k 28 rfl (.k 7 rfl (.k 29 rfl (.k 30 rfl (.k 31 rfl (.k 8 rfl (.k 32 rfl (.k 33 rfl (.k 9 rfl (.k 35 rfl (.k 36 rfl (.k 37 rfl (.k 38 rfl (.k 39 rfl (.k 40 rfl (.k 34 rfl (.k 41 rfl (.k 42 rfl (.cons (t := 10) (Has.op rfl) .nil)))))))))))))))))))))))))))) ?_
    refine st (.as (.t rfl)) rfl ?_
    refine nl (.thn (k21 _ _ ?_))
    refine .region (st (.mv (.t rfl)) rfl ?_)
    refine st (.load (.t rfl) (i := 0) rfl ty30 rfl (Ss' := [_, _]) rfl) rfl (st (.buildS [isB false, SlM isU []] sl22 ty30 zero30 (fun _ _ => ⟨rfl, nilM _ _, trivial⟩) rfl rfl (.cons (.t rfl) rfl rfl rfl .nil) rfl (S := SlK 2 zc [nz (cf (vals xs) (i * C + k) % b)]) rfl) rfl ?_)
    refine .appendGK (fk := zc) (u := (false, [])) zc_len (by decide) (fun _ => inferInstance) sl22 ty30 zero30 (fun _ _ => ⟨rfl, nilM _ _, trivial⟩) by30 (.t rfl) (i := 1) rfl (.t rfl) (by rw [hvk]; show k + 1 ≤ _; omega) (by simp) rfl fun gr1 => ?_
    refine .memEq (M' := [_, grMK _ _ _, _, _, _]) rfl ?_
    refine st (.as (.t rfl)) rfl ?_
    refine nl ?_
    refine .bln ?_
    refine .thn (k19 _ _ ?_)
    refine .region (st (.addI (.t rfl) (Has.cI 1 rfl) (by first | omega | assumption) (by first | omega | assumption)) rfl ?_)
    refine st (.mv (.t rfl)) rfl ?_
    refine nl ?_
    refine .thn ?_
    refine hK16 (⟨(k + 1, gr1), by show k + 1 ≤ C; omega⟩) _ _ ?_ (Cv.trans (Cv.drop ((.cons _ (.cons_cons _ (.cons_cons _ (.cons_cons _ (.cons_cons _ .slnil))))))) (Cv.mem (.cons (t := 31) (Has.t' rfl ?_) (.cons (t := 8) (Has.t' rfl ?_) (.k 1 rfl (.k 2 rfl (.k 3 rfl (.k 4 rfl (.k 6 rfl (.k 25 rfl (.k 26 rfl (.k 27 rfl (.k 28 rfl (.k 7 rfl (.k 29 rfl (.k 30 rfl .nil)))))))))))))) ?_))
    ·show C - (k + 1) < C - k; omega
    ·exact isI_eq (by omega)
    ·exact isGr_eq (by rw [← vrow_succ, List.map_append, List.length_append]; rfl)
    ·exact grMK_eq (by rw [← vrow_succ, List.map_append]; rfl)
   ·have hc3 := BP.f hc3
    refine .exit ?_
    refine .the ?_
    refine .the ?_
    refine .blh ?_
    refine .thn (k14 _ _ ?_)
    refine .cv (Cv.freezeGK (t := 8) (i := 0) (ys := (vrow b C (vals xs) i k).map nz) zc_len rfl rfl rfl) ?_
    refine .memEq (M' := [_, _, _]) rfl ?_
    refine .cv (Cv.wk (.k 1 rfl (.k 2 rfl (.k 3 rfl (.k 4 rfl (.k 6 rfl (.k 25 rfl (.k 26 rfl (.k 27 rfl (.k 28 rfl (.k 7 rfl (.k 29 rfl (.k 30 rfl (.k 31 rfl (.k 8 rfl (.k 32 rfl .nil)))))))))))))))) ?_
    refine .region (st (.mv (.t rfl)) rfl ?_)
    refine st (.mv (.t rfl)) rfl ?_
    refine .callX (modhnf_put (n0 := w0.heap.size) (gt := gN gt0) (rows := fil b C (vals xs) i) (v0 := vrow b C (vals xs) i k) (K := ((K + 1) * 2 ^ R)) hb0 hC hKm hbK (fil_ok hb0 _ _ i) (by rw [show k = C by omega]; exact vrow_ok hb0 _ _ i)) (List.Perm.refl _) (.cons (.t rfl) (.cons (.t rfl) .nil)) rfl ?_
    rintro _ _ ⟨rfl, rfl⟩
    refine .memEq (M' := (grM (tN w0.heap.size) (gN gt0) ((fil b C (vals xs) (i + 1)).map some) :: zM b2 b :: (some b1, cellM [isI (R : Int), isI (C : Int), SlK 2 zc xs]) :: [])) (by rw [show k = C by omega]; rfl) ?_
    refine nl ?_
    refine .bln ?_
    refine .thn (k11 _ _ ?_)
    refine .region (st (.addI (.t rfl) (Has.cI 1 rfl) (by first | omega | assumption) (by first | omega | assumption)) rfl ?_)
    refine st (.mv (.t rfl)) rfl ?_
    refine nl ?_
    refine .thn ?_
    have hkC : C = k := by omega
    subst hkC
    refine hK8 (⟨i + 1, by omega⟩) _ _ ?_ (Cv.mem (.cons (t := 26) (Has.t' rfl ?_) (.k 1 rfl (.k 2 rfl (.k 3 rfl (.k 4 rfl (.k 6 rfl (.k 25 rfl .nil))))))) ?_)
    ·show R - (i + 1) < R - i; omega
    ·exact isI_eq (by omega)
    ·rfl
  ·have hc2 := BP.f hc2
   refine .exit ?_
   refine .the ?_
   refine .the ?_
   refine .blh ?_
   refine .thn (k6 _ _ ?_)
   refine .cv (Cv.wk (.k 2 rfl (.k 3 rfl (.k 6 rfl .nil)))) ?_
   refine .seq fun _ k22 => ?_
   refine .thaw (t := 6) rfl hF0 rfl (fil_ok hb0 C (vals xs) i).len.symm (fil_ok hb0 C (vals xs) i).differ fun gt3 rs3 hrs3 => ?_
   refine .region (st (.mv (.t rfl)) rfl ?_)
   refine .callX (modhnf_reduce (b := b) (n := C) (K := ((K + 1) * 2 ^ R)) hC hbK (by rw [hrs3]; exact fil_ok hb0 _ _ i) hK) (perm0 _) (.cons (.t rfl) .nil) rfl ?_
   rintro _ _ ⟨rs4, rfl, rfl, hrs4⟩
   have hl4 : rs4.length = C := by have := congrArg List.length hrs4; rwa [List.length_map, rdT_len, hrs3, (fil_ok hb0 C (vals xs) i).len] at this
   refine .memEq (M' := (grM rowV gt3 rs4 :: rs4.map rowM)) (List.append_nil _) ?_
   refine nl (.thn (k22 _ _ ?_))
   refine .seq fun _ k23 => ?_
   refine .cv (Cv.freezeTri (t := 6) (n := C) rfl hl4.symm rfl) ?_
   refine .region (st (.mv (.t rfl)) rfl ?_)
   refine st (.as (.t rfl)) rfl (st (.as (Has.cI 0 rfl)) rfl ?_)
   refine nl (.thn (k23 _ _ ?_))
   refine .ret ?_
   refine rtXND .slnil (.inl rfl) Try.results28 rfl rfl (.tmp (.t rfl) (.tmp (.t rfl) .nil)) ?_
   exact ⟨b, by rw [hrs4, hrs3, show i = R by omega]; rfl, rfl, hMB⟩
theorem modhnf_filled_no {R C K : Nat} {xs : List (Bool × List Nat)} (hx : Bd (vals xs) K) (hK1 : 1 ≤ K) (hR : R ≤ 64) (hC : C ≤ 64) (hl : xs.length = R * C) (hK : (((K + 1) * 2 ^ R) + 2) * 2 ^ C ≤ 80000000) (hKm : ((K + 1) * 2 ^ R) ≤ 30000000) (hp : (Go.Dt.pivs (mf C (vals xs)) R C).length < C) : CtrX Try.prog 28 [isM (R : Int) (C : Int) xs] ([]) (fun S M => S = isTup [nilP, isI 3] ∧ M = []) := by
 refine CtrX.intro Try.func28 rfl (by kernel_rfl) Try.ntmps28 rfl fun w0 F0 => ?_
 refine .cv (Cv.wk (.k 0 rfl .nil)) ?_
 refine .seq fun _ k1 => .region (.box (.t rfl) rfl fun b1 => ?_)
 refine st (.as Has.cP) rfl ?_
 refine st (.as (Has.cI 0 rfl)) rfl ?_
 refine nl (.thn (k1 _ _ ?_))
 refine .seq fun _ k2 => .region (st (.load (.t rfl) (i := 0) rfl ty24 rfl (Ss' := [_, _, _]) rfl) rfl ?_)
 refine .callX (modhnf_Multiple_no hx hK1 hR hC hl hKm hp) (List.Perm.refl _) (.cons (.t rfl) .nil) rfl ?_
 rintro _ _ ⟨rfl, rfl⟩
 refine st (.mv (.t rfl)) rfl (st (.ext (.t rfl) rfl) rfl ?_)
 refine st (.ext (.t rfl) rfl) rfl ?_
 refine .alloc [isB false, SlM isU []] zero30 (fun _ _ => ⟨rfl, nilM _ _, trivial⟩) rfl fun b2 => ?_
 refine .store (.t rfl) (.t rfl) (i := 0) rfl ty30 rfl rfl (Ss' := [_, _]) rfl (M' := [(some _, cellM [_, _]), _]) rfl ?_
 refine st (.as (.t rfl)) rfl ?_
 refine nl (.thn (k2 _ _ ?_))
 refine .cv (Cv.wk (.k 1 rfl (.k 2 rfl (.k 3 rfl (.k 4 rfl (.k 5 rfl .nil)))))) ?_
 refine .seq fun _ k3 => ?_
 refine .seq fun _ k4 => .region (st (.mv (.t rfl)) rfl ?_)
 refine st (.neI (.t rfl) (Has.cI 0 rfl)) rfl ?_
 refine nl (.thn (k4 _ _ ?_))
 refine .cond (.t rfl) (fun hc1 => ?_) (fun hc1 => ?_)
 ·have hc1 := BP.t hc1
  skip
  refine .seq fun _ k5 => .region (st (.mv (.t rfl)) rfl ?_)
  refine st (.as Has.cP) rfl ?_
  refine st (.as (.t rfl)) rfl ?_
  refine nl (.thn (k5 _ _ ?_))
  refine .ret ?_
  refine .thr ?_
  refine rtXND (.cons _ (.cons _ .slnil)) (.inl rfl) Try.results28 rfl rfl (.tmp (.t rfl) (.tmp (.t rfl) .nil)) ?_
  exact ⟨rfl, rfl⟩
 ·have hc1 := BP.f hc1
  exfalso; simp at hc1
theorem modhnf_filled_bad {r c : Int} {xs : List (Bool × List Nat)} (hf : formB r c xs.length = false) : Ctr Try.prog 28 [isM r c xs] (isTup [nilP, isI 2]) := by
 refine Ctr.intro Try.func28 rfl (by kernel_rfl) Try.ntmps28 rfl fun w0 F0 => ?_
 refine .cv (Cv.wk (.k 0 rfl .nil)) ?_
 refine .seq fun _ k1 => .region (.box (.t rfl) rfl fun b1 => ?_)
 refine st (.as Has.cP) rfl ?_
 refine st (.as (Has.cI 0 rfl)) rfl ?_
 refine nl (.thn (k1 _ _ ?_))
 refine .seq fun _ k2 => .region (st (.load (.t rfl) (i := 0) rfl ty24 rfl (Ss' := [_, _, _]) rfl) rfl ?_)
 refine st (.call (modhnf_Multiple_bad hf) (.cons (.t rfl) .nil)) rfl ?_
 refine st (.mv (.t rfl)) rfl (st (.ext (.t rfl) rfl) rfl ?_)
 refine st (.ext (.t rfl) rfl) rfl ?_
 refine .alloc [isB false, SlM isU []] zero30 (fun _ _ => ⟨rfl, nilM _ _, trivial⟩) rfl fun b2 => ?_
 refine .store (.t rfl) (.t rfl) (i := 0) rfl ty30 rfl rfl (Ss' := [_, _]) rfl (M' := [(some _, cellM [_, _]), _]) rfl ?_
 refine st (.as (.t rfl)) rfl ?_
 refine nl (.thn (k2 _ _ ?_))
 refine .cv (Cv.wk (.k 1 rfl (.k 2 rfl (.k 3 rfl (.k 4 rfl (.k 5 rfl .nil)))))) ?_
 refine .seq fun _ k3 => ?_
 refine .seq fun _ k4 => .region (st (.mv (.t rfl)) rfl ?_)
 refine st (.neI (.t rfl) (Has.cI 0 rfl)) rfl ?_
 refine nl (.thn (k4 _ _ ?_))
 refine .cond (.t rfl) (fun hc1 => ?_) (fun hc1 => ?_)
 ·have hc1 := BP.t hc1
  skip
  refine .seq fun _ k5 => .region (st (.mv (.t rfl)) rfl ?_)
  refine st (.as Has.cP) rfl ?_
  refine st (.as (.t rfl)) rfl ?_
  refine nl (.thn (k5 _ _ ?_))
  refine .ret ?_
  refine .thr ?_
  refine rtN (.inl rfl) Try.results28 rfl rfl (.tmp (Has.t' rfl ?_) (.tmp (Has.t' rfl ?_) .nil))
  ·rfl
  ·rfl
 ·have hc1 := BP.f hc1
  exfalso; simp at hc1
theorem modhnf_Hermite {R C K : Nat} {xs : List (Bool × List Nat)} (hx : Bd (vals xs) K) (hK1 : 1 ≤ K) (hR : R ≤ 64) (hC : C ≤ 64) (hl : xs.length = R * C) (hK : (((K + 1) * 2 ^ R) + 2) * 2 ^ C ≤ 80000000) (hKm : ((K + 1) * 2 ^ R) ≤ 30000000) (hp : (Go.Dt.pivs (mf C (vals xs)) R C).length = C) : CtrX Try.prog 25 [isM (R : Int) (C : Int) xs] ([]) (fun S M => ∃ b, S = isTup [isMz R C (hmL b R C (vals xs)), isI 0] ∧ M = [] ∧ MulB R C K (vals xs) b) := by
 refine CtrX.intro Try.func25 rfl (by kernel_rfl) Try.ntmps25 rfl fun w0 F0 => ?_
 refine .cv (Cv.wk (.k 0 rfl .nil)) ?_
 have hRC := side_le hR hC
 refine .seq fun _ k1 => .region (.box (.t rfl) rfl fun b1 => ?_)
 refine .alloc [isI 0, isI 0, nilS] zero24 (fun _ _ => ⟨⟨rfl, by decide, by decide⟩, ⟨rfl, by decide, by decide⟩, rfl, trivial⟩) rfl fun b2 => ?_
 refine st (.as (Has.cI 0 rfl)) rfl ?_
 refine nl (.thn (k1 _ _ ?_))
 refine .seq fun _ k2 => .region (st (.load (.t rfl) (i := 1) rfl ty24 rfl (Ss' := [_, _, _]) rfl) rfl ?_)
 refine .callX (modhnf_filled hx hK1 hR hC hl hK hKm hp) (List.Perm.refl _) (.cons (.t rfl) .nil) rfl ?_
 rintro _ _ ⟨b, rfl, rfl, hMB⟩
 have hb0 := hMB.1
 have hbK := hMB.2.1
 have hTl := filT_len b R C (vals xs) hb0
 refine st (.mv (.t rfl)) rfl (st (.ext (.t rfl) rfl) rfl ?_)
 refine st (.ext (.t rfl) rfl) rfl ?_
 refine st (.as (.t rfl)) rfl (st (.as (.t rfl)) rfl ?_)
 refine nl (.thn (k2 _ _ ?_))
 refine .cv (Cv.wk (.k 1 rfl (.k 2 rfl (.k 3 rfl (.k 4 rfl (.k 5 rfl .nil)))))) ?_
 refine .seq fun _ k3 => ?_
 refine .seq fun _ k4 => .region (st (.mv (.t rfl)) rfl ?_)
 refine st (.neI (.t rfl) (Has.cI 0 rfl)) rfl ?_
 refine nl (.thn (k4 _ _ ?_))
 refine .cond (.t rfl) (fun hc1 => ?_) (fun hc1 => ?_)
 ·have hc1 := BP.t hc1
  exfalso; simp at hc1
 ·have hc1 := BP.f hc1
  skip
  refine .skip ?_
  refine .thn (k3 _ _ ?_)
  refine .seq fun _ k5 => .region (st (.fieldAddr (.t rfl) fld24_0 ty3) rfl ?_)
  refine st (.load1 (.t rfl) (i := 1) rfl ty3 rfl) rfl (st (.fieldAddr (.t rfl) fld24_1 ty3) rfl ?_)
  refine st (.load1 (.t rfl) (i := 1) rfl ty3 rfl) rfl (st (.build [isI 0, isI 0, nilS] pl24 zero24 (fun _ _ => ⟨⟨rfl, by decide, by decide⟩, ⟨rfl, by decide, by decide⟩, rfl, trivial⟩) (.cons (.t rfl) rfl rfl rfl (.cons (.t rfl) rfl rfl rfl .nil)) (Z'' := [_, _, _]) rfl) rfl ?_)
  refine .alloc [isI 0, isI 0, nilS] zero24 (fun _ _ => ⟨⟨rfl, by decide, by decide⟩, ⟨rfl, by decide, by decide⟩, rfl, trivial⟩) rfl fun b3 => ?_
  refine .store (.t rfl) (.t rfl) (i := 0) rfl ty24 rfl rfl (Ss' := [_, _, _]) rfl (M' := [(some _, cellM [_, _, _]), _, _]) rfl ?_
  refine nl (.thn (k5 _ _ ?_))
  refine .cv (Cv.wk (.k 1 rfl (.k 2 rfl (.k 3 rfl (.k 4 rfl (.k 6 rfl .nil)))))) ?_
  refine .seq fun _ k6 => ?_
  refine .seq fun _ k7 => ?_
  refine .cv (Cv.growF (Bool × List Nat) (i := 0) (o := 2) rfl rfl rfl) ?_
  refine .memEq (M' := [grMK zc Gr.nil [], _, _, _]) rfl ?_
  refine .region (st (.fieldAddr (.t rfl) fld24_0 ty3) rfl ?_)
  refine st (.load1 (.t rfl) (i := 3) rfl ty3 rfl) rfl (st (.mv (Has.cI 0 rfl)) rfl ?_)
  refine nl (.thn (k7 _ _ ?_))
  refine .block ?_
  refine .loopF [1, 2, 3, 4, 6, 25] (fun (z : { z : Nat × Gr (Bool × List Nat) // z.1 ≤ R }) => match z with | ⟨(i, g), hI⟩ => [(26, isI (i : Int))]) (fun M => fun (z : { z : Nat × Gr (Bool × List Nat) // z.1 ≤ R }) => match z with | ⟨(i, g), hI⟩ => [grMK zc g ((tab (i * C + 0) C (trF b R C (vals xs))).map nz), (some b3, cellM [isI (R : Int), isI (C : Int), isGr g ((tab (i * C + 0) C (trF b R C (vals xs))).map nz).length]), (some b2, cellM [isI 0, isI 0, nilS]), (some b1, cellM [isI (R : Int), isI (C : Int), SlK 2 zc xs])]) (fun (z : { z : Nat × Gr (Bool × List Nat) // z.1 ≤ R }) => match z with | ⟨(i, g), hI⟩ => R - i) (⟨(0, Gr.nil), Nat.zero_le _⟩) (Cv.mem (.cons (t := 26) (Has.t' rfl ?_) (.k 1 rfl (.k 2 rfl (.k 3 rfl (.k 4 rfl (.k 6 rfl (.k 25 rfl .nil))))))) ?_) ?_
  ·rfl
  ·exact grF_eq (n := 0) (ys := []) (by rw [List.length_map, tab_len, Nat.zero_mul]) (show [] = (tab (0 * C + 0) _ _).map nz by rw [Nat.zero_mul]; rfl)
  rintro ⟨⟨i, g⟩, hI⟩ K8 hK8
  refine .cv (Cv.wk (.k 26 rfl (.k 1 rfl (.k 2 rfl (.k 3 rfl (.k 4 rfl (.k 6 rfl (.k 25 rfl .nil)))))))) ?_
  refine .memEq (M' := [grMK zc g ((tab (i * C + 0) C (trF b R C (vals xs))).map nz), (some b3, cellM [isI (R : Int), isI (C : Int), isGr g ((tab (i * C + 0) C (trF b R C (vals xs))).map nz).length]), (some b2, cellM [isI 0, isI 0, nilS]), (some b1, cellM [isI (R : Int), isI (C : Int), SlK 2 zc xs])]) rfl ?_
  simp only [] at hI
  refine .seq fun _ k9 => .region (st (.ltI (.t rfl) (.t rfl)) rfl ?_)
  refine nl (.thn (k9 _ _ ?_))
  refine .seq fun _ k10 => ?_
  refine .cond (.t rfl) (fun hc2 => ?_) (fun hc2 => ?_)
  ·have hc2 := BP.t hc2
   refine .skip ?_
   refine .thn (k10 _ _ ?_)
   refine .seq fun _ k11 => ?_
   refine .block ?_
   refine .seq fun _ k12 => .region (st (.mv (.t rfl)) rfl ?_)
   refine st (.as (.t rfl)) rfl ?_
   refine nl (.thn (k12 _ _ ?_))
   refine .seq fun _ k13 => .region (st (.fieldAddr (.t rfl) fld24_1 ty3) rfl ?_)
   refine st (.load1 (.t rfl) (i := 3) rfl ty3 rfl) rfl (st (.mv (Has.cI 0 rfl)) rfl ?_)
   refine nl (.thn (k13 _ _ ?_))
   refine .block ?_
   refine .loopF [1, 2, 3, 4, 6, 25, 26, 27, 28, 7, 29, 30] (fun (z : { z : Nat × Gr (Bool × List Nat) // z.1 ≤ C }) => match z with | ⟨(k, g2), hK3⟩ => [(31, isI (k : Int))]) (fun M => fun (z : { z : Nat × Gr (Bool × List Nat) // z.1 ≤ C }) => match z with | ⟨(k, g2), hK3⟩ => [grMK zc g2 ((tab (i * C + k) C (trF b R C (vals xs))).map nz), (some b3, cellM [isI (R : Int), isI (C : Int), isGr g2 ((tab (i * C + k) C (trF b R C (vals xs))).map nz).length]), (some b2, cellM [isI 0, isI 0, nilS]), (some b1, cellM [isI (R : Int), isI (C : Int), SlK 2 zc xs])]) (fun (z : { z : Nat × Gr (Bool × List Nat) // z.1 ≤ C }) => match z with | ⟨(k, g2), hK3⟩ => C - k) (⟨(0, g), Nat.zero_le _⟩) (Cv.mem (.cons (t := 31) (Has.t' rfl ?_) (.k 1 rfl (.k 2 rfl (.k 3 rfl (.k 4 rfl (.k 6 rfl (.k 25 rfl (.k 26 rfl (.k 27 rfl (.k 28 rfl (.k 7 rfl (.k 29 rfl (.k 30 rfl .nil))))))))))))) ?_) ?_
   ·rfl
   ·rfl
   rintro ⟨⟨k, g2⟩, hK3⟩ K14 hK14
   refine .cv (Cv.wk (.k 31 rfl (.k 1 rfl (.k 2 rfl (.k 3 rfl (.k 4 rfl (.k 6 rfl (.k 25 rfl (.k 26 rfl (.k 27 rfl (.k 28 rfl (.k 7 rfl (.k 29 rfl (.k 30 rfl .nil)))))))))))))) ?_
   refine .memEq (M' := [grMK zc g2 ((tab (i * C + k) C (trF b R C (vals xs))).map nz), (some b3, cellM [isI (R : Int), isI (C : Int), isGr g2 ((tab (i * C + k) C (trF b R C (vals xs))).map nz).length]), (some b2, cellM [isI 0, isI 0, nilS]), (some b1, cellM [isI (R : Int), isI (C : Int), SlK 2 zc xs])]) rfl ?_
   simp only [] at hK3
   refine .seq fun _ k15 => .region (st (.ltI (.t rfl) (.t rfl)) rfl ?_)
   refine nl (.thn (k15 _ _ ?_))
   refine .seq fun _ k16 => ?_
   refine .cond (.t rfl) (fun hc3 => ?_) (fun hc3 => ?_)
   ·have hc3 := BP.t hc3
    refine .skip ?_
    refine .thn (k16 _ _ ?_)
    refine .seq fun _ k17 => ?_
    refine .block ?_
    refine .seq fun _ k18 => .region (st (.mv (.t rfl)) rfl ?_)
    refine st (.as (.t rfl)) rfl ?_
    refine nl (.thn (k18 _ _ ?_))
    refine .seq fun _ k19 => .region (st (.build [isB false, SlM isU []] pl30 zero30 (fun _ _ => ⟨rfl, nilM _ _, trivial⟩) .nil (Z'' := [_, _]) rfl) rfl ?_)
    refine .alloc [isB false, SlM isU []] zero30 (fun _ _ => ⟨rfl, nilM _ _, trivial⟩) rfl fun b4 => ?_
    refine .store (.t rfl) (.t rfl) (i := 0) rfl ty30 rfl rfl (Ss' := [_, _]) rfl (M' := [(some _, cellM [_, _]), _, _, _, _]) rfl ?_
    refine nl (.thn (k19 _ _ ?_))
    refine .seq fun _ k20 => ?_
    refine .seq fun _ k21 => .region (st (.mv (.t rfl)) rfl ?_)
    refine st (.mv (.t rfl)) rfl (st (.nilcP (.t rfl)) rfl ?_)
    refine st (.fieldAddrP (.t rfl) fld61_0 ty59 (Ss' := [_, _, _]) rfl) rfl ?_
    refine st (.loadP1 (.t rfl) ty59) rfl ?_
    refine st (.len sl59 (.t rfl)) rfl (st (.ltI (.t rfl) (.t rfl)) rfl ?_)
    refine nl (.thn (k21 _ _ ?_))
    refine .cond (.t rfl) (fun hc4 => ?_) (fun hc4 => ?_)
    ·have hc4 := BP.t hc4
     obtain ⟨p, hp1⟩ : ∃ p, (filT b R C (vals xs))[i]? = some p := ⟨_, List.getElem?_eq_getElem (by omega)⟩
     have hpl := filT_row hb0 p (List.mem_of_getElem? hp1)
     have hpm : (p.map nz).length = C := by rw [List.length_map, hpl]
     have hGt : cf p k = (trF b R C (vals xs)) i k := by unfold trF; rw [Go.Hp.E_of hp1]
     refine .region (st (.mv (.t rfl)) rfl ?_)
     refine st (.nilcP (.t rfl)) rfl ?_
     refine st (.fieldAddrP (.t rfl) fld61_0 ty59 (Ss' := [_, _, _]) rfl) rfl ?_
     refine st (.loadP1 (.t rfl) ty59) rfl ?_
     refine st (.mv (.t rfl)) rfl (st (.ixP sl59 ty22 (.t rfl) (.t rfl) ⟨by omega, by omega⟩ hp1) rfl ?_)
     refine st (.loadP1 (.t rfl) ty22) rfl ?_
     refine st (.mv (.t rfl)) rfl (st (.ixK sl22 ty30 (.t rfl) (.t rfl) zc_len ⟨by omega, by omega⟩ (getZ (i := k) (by omega))) rfl ?_)
     refine st (.loadP (.t rfl) ty30 rfl (Ss' := [_, _]) rfl) rfl ?_
     refine .store (.t rfl) (.t rfl) (i := 0) rfl ty30 rfl rfl (Ss' := [_, _]) rfl (M' := [(some _, cellM [_, _]), _, _, _, _]) rfl ?_
     refine nl (.thn (k20 _ _ ?_))
     refine .region (st (.fieldAddr (.t rfl) fld24_2 ty22) rfl ?_)
     refine st (.load1 (.t rfl) (i := 2) rfl ty22 rfl) rfl (st (.eq (.load (.t rfl) (i := 0) rfl ty30 rfl (Ss' := [_, _]) rfl) ((show _ = Flat (zc (nz ((trF b R C (vals xs)) i k))) from by first | (rw [← hGt]; done) | (rw [← hGf]; exact isZ0)))) rfl ?_)
     refine st (.buildS [isB false, SlM isU []] sl22 ty30 zero30 (fun _ _ => ⟨rfl, nilM _ _, trivial⟩) rfl rfl (.cons (.t rfl) rfl rfl rfl .nil) rfl (S := SlK 2 zc [nz ((trF b R C (vals xs)) i k)]) rfl) rfl ?_
     refine .appendGK (fk := zc) (u := (false, [])) zc_len (by decide) (fun _ => inferInstance) sl22 ty30 zero30 (fun _ _ => ⟨rfl, nilM _ _, trivial⟩) by30 (.t rfl) (i := 1) rfl (.t rfl) (by have hpl3 := place_lt (show i < R by omega) (show k < C by omega); rw [List.length_map, tab_len, List.length_singleton]; omega) (by simp) rfl fun gr1 => ?_
     refine .memEq (M' := [_, grMK _ _ _, _, _, _]) rfl ?_
     refine st (.fieldAddr (.t rfl) fld24_2 ty22) rfl ?_
     refine .store (.t rfl) (.t rfl) (i := 2) rfl ty22 rfl rfl (Ss' := [_, _, _]) rfl (M' := [_, _, (some _, cellM [_, _, _]), _, _]) rfl ?_
     refine nl ?_
     refine .bln ?_
     refine .thn (k17 _ _ ?_)
     refine .region (st (.addI (.t rfl) (Has.cI 1 rfl) (by first | omega | assumption) (by first | omega | assumption)) rfl ?_)
     refine st (.mv (.t rfl)) rfl ?_
     refine nl ?_
     refine .thn ?_
     refine hK14 (⟨(k + 1, gr1), by show k + 1 ≤ C; omega⟩) _ _ ?_ (Cv.trans (Cv.drop ((.cons _ (.cons_cons _ (.cons_cons _ (.cons_cons _ (.cons_cons _ .slnil))))))) (Cv.mem (.cons (t := 31) (Has.t' rfl ?_) (.k 1 rfl (.k 2 rfl (.k 3 rfl (.k 4 rfl (.k 6 rfl (.k 25 rfl (.k 26 rfl (.k 27 rfl (.k 28 rfl (.k 7 rfl (.k 29 rfl (.k 30 rfl .nil))))))))))))) ?_))
     ·show C - (k + 1) < C - k; omega
     ·exact isI_eq (by omega)
     ·exact grF_eq (by rw [← tab_succ _ (show k < C by omega), List.map_append, List.length_append]; rfl) (by rw [← tab_succ _ (show k < C by omega), List.map_append]; rfl)
    ·have hc4 := BP.f hc4
     have hGf : (0 : Int) = (trF b R C (vals xs)) i k := (trF_out hb0 (by omega)).symm
     refine .skip ?_
     refine .thn (k20 _ _ ?_)
     refine .region (st (.fieldAddr (.t rfl) fld24_2 ty22) rfl ?_)
     refine st (.load1 (.t rfl) (i := 2) rfl ty22 rfl) rfl (st (.eq (.load (.t rfl) (i := 0) rfl ty30 rfl (Ss' := [_, _]) rfl) ((show _ = Flat (zc (nz ((trF b R C (vals xs)) i k))) from by first | (rw [← hGt]; done) | (rw [← hGf]; exact isZ0)))) rfl ?_)
     refine st (.buildS [isB false, SlM isU []] sl22 ty30 zero30 (fun _ _ => ⟨rfl, nilM _ _, trivial⟩) rfl rfl (.cons (.t rfl) rfl rfl rfl .nil) rfl (S := SlK 2 zc [nz ((trF b R C (vals xs)) i k)]) rfl) rfl ?_
     refine .appendGK (fk := zc) (u := (false, [])) zc_len (by decide) (fun _ => inferInstance) sl22 ty30 zero30 (fun _ _ => ⟨rfl, nilM _ _, trivial⟩) by30 (.t rfl) (i := 1) rfl (.t rfl) (by have hpl3 := place_lt (show i < R by omega) (show k < C by omega); rw [List.length_map, tab_len, List.length_singleton]; omega) (by simp) rfl fun gr1 => ?_
     refine .memEq (M' := [_, grMK _ _ _, _, _, _]) rfl ?_
     refine st (.fieldAddr (.t rfl) fld24_2 ty22) rfl ?_
     refine .store (.t rfl) (.t rfl) (i := 2) rfl ty22 rfl rfl (Ss' := [_, _, _]) rfl (M' := [_, _, (some _, cellM [_, _, _]), _, _]) rfl ?_
     refine nl ?_
     refine .bln ?_
     refine .thn (k17 _ _ ?_)
     refine .region (st (.addI (.t rfl) (Has.cI 1 rfl) (by first | omega | assumption) (by first | omega | assumption)) rfl ?_)
     refine st (.mv (.t rfl)) rfl ?_
     refine nl ?_
     refine .thn ?_
     refine hK14 (⟨(k + 1, gr1), by show k + 1 ≤ C; omega⟩) _ _ ?_ (Cv.trans (Cv.drop ((.cons _ (.cons_cons _ (.cons_cons _ (.cons_cons _ (.cons_cons _ .slnil))))))) (Cv.mem (.cons (t := 31) (Has.t' rfl ?_) (.k 1 rfl (.k 2 rfl (.k 3 rfl (.k 4 rfl (.k 6 rfl (.k 25 rfl (.k 26 rfl (.k 27 rfl (.k 28 rfl (.k 7 rfl (.k 29 rfl (.k 30 rfl .nil))))))))))))) ?_))
     ·show C - (k + 1) < C - k; omega
     ·exact isI_eq (by omega)
     ·exact grF_eq (by rw [← tab_succ _ (show k < C by omega), List.map_append, List.length_append]; rfl) (by rw [← tab_succ _ (show k < C by omega), List.map_append]; rfl)
   ·have hc3 := BP.f hc3
    refine .exit ?_
    refine .the ?_
    refine .the ?_
    refine .blh ?_
    refine .bln ?_
    refine .thn (k11 _ _ ?_)
    refine .region (st (.addI (.t rfl) (Has.cI 1 rfl) (by first | omega | assumption) (by first | omega | assumption)) rfl ?_)
    refine st (.mv (.t rfl)) rfl ?_
    refine nl ?_
    refine .thn ?_
    have hkC : k = C := by omega
    subst hkC
    refine hK8 (⟨(i + 1, g2), by show i + 1 ≤ R; omega⟩) _ _ ?_ (Cv.mem (.cons (t := 26) (Has.t' rfl ?_) (.k 1 rfl (.k 2 rfl (.k 3 rfl (.k 4 rfl (.k 6 rfl (.k 25 rfl .nil))))))) ?_)
    ·show R - (i + 1) < R - i; omega
    ·exact isI_eq (by omega)
    ·exact grF_eq (by rw [tab_next]) (by rw [tab_next])
  ·have hc2 := BP.f hc2
   refine .exit ?_
   refine .the ?_
   refine .the ?_
   refine .blh ?_
   refine .thn (k6 _ _ ?_)
   refine .cv (Cv.wk (.k 2 rfl (.k 3 rfl (.k 6 rfl .nil)))) ?_
   refine .seq fun _ k22 => ?_
   refine .cv (Cv.freezeF (k := 2) (i := 0) (j := 0) (o := 2) rfl rfl rfl rfl (gr_lenK zc_len) (gr_takeK zc_len) (Ss' := [_, _, SlK 2 zc ((tab (i * C + 0) C (trF b R C (vals xs))).map nz)]) rfl) ?_
   refine .memEq (M' := [(some _, cellM [_, _, SlK 2 zc ((tab (i * C + 0) C (trF b R C (vals xs))).map nz)]), _, _]) rfl ?_
   refine .cv (Cv.wk (.k 2 rfl (.k 3 rfl (.k 6 rfl .nil)))) ?_
   refine .region (st (.load (.t rfl) (i := 0) rfl ty24 rfl (Ss' := [_, _, _]) rfl) rfl ?_)
   refine .store (.t rfl) (.t rfl) (i := 1) rfl ty24 rfl rfl (Ss' := [_, _, _]) rfl (M' := [_, (some _, cellM [_, _, _]), _]) rfl ?_
   refine st (.as (Has.cI 0 rfl)) rfl ?_
   refine nl (.thn (k22 _ _ ?_))
   refine .ret ?_
   refine rtXND (.cons _ (.cons _ (.cons _ .slnil))) (.inl rfl) Try.results25 rfl rfl (.cell rfl (i := 1) rfl ty24 rfl rfl (.tmp (.t rfl) .nil)) ?_
   exact ⟨b, by rw [Nat.add_zero, show i = R by omega]; rfl, rfl, hMB⟩
theorem ix_small {K R C k : Nat} (h : ((K + 1) * 2 ^ R + 2) * 2 ^ C ≤ 80000000) (hk : k ≤ C) : k * ((K + 1) * 2 ^ R) ≤ 80000000 := by
 have h1 : k ≤ 2 ^ C := Nat.le_trans hk (Nat.le_of_lt Nat.lt_two_pow_self)
 have h2 : ((K + 1) * 2 ^ R) * k ≤ ((K + 1) * 2 ^ R + 2) * 2 ^ C := Nat.mul_le_mul (by omega) h1
 rw [Nat.mul_comm]; omega
theorem modhnf_Index {R C K : Nat} {xs : List (Bool × List Nat)} (hx : Bd (vals xs) K) (hK1 : 1 ≤ K) (hR : R ≤ 64) (hC : C ≤ 64) (hl : xs.length = R * C) (hK : (((K + 1) * 2 ^ R) + 2) * 2 ^ C ≤ 80000000) (hKm : ((K + 1) * 2 ^ R) ≤ 30000000) (hp : (Go.Dt.pivs (mf C (vals xs)) R C).length = C) : CtrX Try.prog 8 [isM (R : Int) (C : Int) xs] ([]) (fun S M => ∃ b, S = isTup [isZ (ixv b R C (vals xs) C), isI 0] ∧ M = [] ∧ MulB R C K (vals xs) b) := by
 refine CtrX.intro Try.func8 rfl (by kernel_rfl) Try.ntmps8 rfl fun w0 F0 => ?_
 refine .cv (Cv.wk (.k 0 rfl .nil)) ?_
 refine .seq fun _ k1 => .region (.box (.t rfl) rfl fun b1 => ?_)
 refine .alloc [isB false, SlM isU []] zero30 (fun _ _ => ⟨rfl, nilM _ _, trivial⟩) rfl fun b2 => ?_
 refine st (.as (Has.cI 0 rfl)) rfl ?_
 refine nl (.thn (k1 _ _ ?_))
 refine .seq fun _ k2 => .region (st (.load (.t rfl) (i := 1) rfl ty24 rfl (Ss' := [_, _, _]) rfl) rfl ?_)
 refine .callX (modhnf_filled hx hK1 hR hC hl hK hKm hp) (List.Perm.refl _) (.cons (.t rfl) .nil) rfl ?_
 rintro _ _ ⟨b, rfl, rfl, hMB⟩
 have hb0 := hMB.1
 have hbK := hMB.2.1
 have hTl := filT_len b R C (vals xs) hb0
 refine st (.mv (.t rfl)) rfl (st (.ext (.t rfl) rfl) rfl ?_)
 refine st (.ext (.t rfl) rfl) rfl ?_
 refine st (.as (.t rfl)) rfl (st (.as (.t rfl)) rfl ?_)
 refine nl (.thn (k2 _ _ ?_))
 refine .cv (Cv.wk (.k 2 rfl (.k 3 rfl (.k 4 rfl (.k 5 rfl .nil))))) ?_
 refine .seq fun _ k3 => ?_
 refine .seq fun _ k4 => .region (st (.mv (.t rfl)) rfl ?_)
 refine st (.neI (.t rfl) (Has.cI 0 rfl)) rfl ?_
 refine nl (.thn (k4 _ _ ?_))
 refine .cond (.t rfl) (fun hc1 => ?_) (fun hc1 => ?_)
 ·have hc1 := BP.t hc1
  exfalso; simp at hc1
 ·have hc1 := BP.f hc1
  skip
  refine .skip ?_
  refine .thn (k3 _ _ ?_)
  refine .seq fun _ k5 => .region (st (.call (zint_Of) (.cons (Has.cI 1 rfl) .nil)) rfl ?_)
  refine .alloc [isB false, SlM isU []] zero30 (fun _ _ => ⟨rfl, nilM _ _, trivial⟩) rfl fun b3 => ?_
  refine .store (.t rfl) (.t rfl) (i := 0) rfl ty30 rfl rfl (Ss' := [_, _]) rfl (M' := [(some _, cellM [_, _]), _, _]) rfl ?_
  refine nl (.thn (k5 _ _ ?_))
  refine .seq fun _ k6 => ?_
  refine .seq fun _ k7 => .region (st (.mv (.t rfl)) rfl ?_)
  refine st (.nilcP (.t rfl)) rfl ?_
  refine st (.fieldAddrP (.t rfl) fld61_0 ty59 (Ss' := [_, _, _]) rfl) rfl ?_
  refine st (.loadP1 (.t rfl) ty59) rfl ?_
  refine st (.len sl59 (.t rfl)) rfl (st (.mv (Has.cI 0 rfl)) rfl ?_)
  refine nl (.thn (k7 _ _ ?_))
  refine .cv (Cv.wk (.k 2 rfl (.k 3 rfl (.k 6 rfl (.k 22 rfl (.k 23 rfl (.k 24 rfl .nil))))))) ?_
  refine .block ?_
  refine .loopF [2, 3, 6, 22, 23] (fun (z : { k : Nat // k ≤ C }) => match z with | ⟨k, hk⟩ => [(24, isI (k : Int))]) (fun M => fun (z : { k : Nat // k ≤ C }) => match z with | ⟨k, hk⟩ => [zM b3 (ixv b R C (vals xs) k), (some b2, cellM [isB false, SlM isU []]), (some b1, cellM [isI (R : Int), isI (C : Int), SlK 2 zc xs])]) (fun (z : { k : Nat // k ≤ C }) => match z with | ⟨k, hk⟩ => C - k) (⟨0, Nat.zero_le _⟩) (Cv.mem (.cons (t := 24) (Has.t' rfl ?_) (.k 2 rfl (.k 3 rfl (.k 6 rfl (.k 22 rfl (.k 23 rfl .nil)))))) ?_) ?_
  ·rfl
  ·exact zM_eq rfl rfl
  rintro ⟨k, hk⟩ K8 hK8
  refine .cv (Cv.wk (.k 24 rfl (.k 2 rfl (.k 3 rfl (.k 6 rfl (.k 22 rfl (.k 23 rfl .nil))))))) ?_
  refine .memEq (M' := [zM b3 (ixv b R C (vals xs) k), (some b2, cellM [isB false, SlM isU []]), (some b1, cellM [isI (R : Int), isI (C : Int), SlK 2 zc xs])]) rfl ?_
  refine .seq fun _ k9 => .region (st (.ltI (.t rfl) (.t rfl)) rfl ?_)
  refine nl (.thn (k9 _ _ ?_))
  refine .seq fun _ k10 => ?_
  refine .cond (.t rfl) (fun hc2 => ?_) (fun hc2 => ?_)
  ·have hc2 := BP.t hc2
   obtain ⟨p, hp1⟩ : ∃ p, (filT b R C (vals xs))[k]? = some p := ⟨_, List.getElem?_eq_getElem (by omega)⟩
   have hpl := filT_row hb0 p (List.mem_of_getElem? hp1)
   have hpm : (p.map nz).length = C := by rw [List.length_map, hpl]
   have hGt : cf p k = (trF b R C (vals xs)) k k := by unfold trF; rw [Go.Hp.E_of hp1]
   have hwk := ixv_nw (R := R) (C := C) (L := vals xs) hb0 hbK k
   have hwp : (List.length (words (cf p k).natAbs)) ≤ ((K + 1) * 2 ^ R) := by rw [hGt]; exact nw_le_b (trF_all hb0 k k).1 (trF_all hb0 k k).2 hbK
   have hkb := ix_small hK (show k ≤ C by omega)
   refine .skip ?_
   refine .thn (k10 _ _ ?_)
   refine .seq fun _ k11 => ?_
   refine .block ?_
   refine .seq fun _ k12 => .region (st (.mv (.t rfl)) rfl ?_)
   refine st (.ixP sl59 ty22 (.t rfl) (.t rfl) ⟨by omega, by omega⟩ hp1) rfl ?_
   refine st (.loadP1 (.t rfl) ty22) rfl ?_
   refine st (.as (.t rfl)) rfl (st (.as (.t rfl)) rfl ?_)
   refine nl (.thn (k12 _ _ ?_))
   refine .dr ?_
   refine .s [] rfl rfl rfl (.o rfl (.load (.t rfl) (i := 0) rfl ty30 rfl (Ss' := [_, _]) rfl)) ?_
   refine .s [] rfl rfl rfl (.o rfl (.mv (.t rfl))) ?_
   refine .s [] rfl rfl rfl (.o rfl (.mv (.t rfl))) ?_
   refine .s [30, 31] rfl rfl rfl (.o rfl (.ixK sl22 ty30 (.t rfl) (.t rfl) zc_len ⟨by omega, by omega⟩ (getZ (i := k) (by omega)))) ?_
   refine .s [32] rfl rfl rfl (.o rfl (.loadP (.t rfl) ty30 rfl (Ss' := [_, _]) rfl)) ?_
   refine .fin (n := 5) mixed (by kernel_rfl) (by kernel_rfl) (by kernel_rfl) ?_
   refine .cv (Cv.wk (.k 2 rfl (.k 3 rfl (.k 6 rfl (.k 22 rfl (.k 23 rfl (.k 24 rfl (.k 25 rfl (.k 26 rfl (.k 27 rfl (.k 28 rfl (.k 7 rfl (.k 8 rfl (.k 29 rfl (.k 30 rfl (.k 31 rfl (.k 32 rfl (.k 33 rfl .nil)))))))))))))))))) ?_
   refine st (.eq (.call (zint_Mul (by rw [val_words]; omega) (by rw [val_words]; omega)) (.cons (.t rfl) (.cons (.t rfl) .nil))) ((show _ = isZ (ixv b R C (vals xs) k * cf p k) from isZ_eq (by simp only [zv_nz, zv_nf])))) rfl ?_
   refine .store (.t rfl) (.t rfl) (i := 0) rfl ty30 rfl rfl (Ss' := [_, _]) rfl (M' := [(some _, cellM [_, _]), _, _]) rfl ?_
   refine nl ?_
   refine .bln ?_
   refine .thn (k11 _ _ ?_)
   refine .region (st (.addI (.t rfl) (Has.cI 1 rfl) (by first | omega | assumption) (by first | omega | assumption)) rfl ?_)
   refine st (.mv (.t rfl)) rfl ?_
   refine nl ?_
   refine .thn ?_
   refine hK8 (⟨k + 1, by omega⟩) _ _ ?_ (Cv.mem (.cons (t := 24) (Has.t' rfl ?_) (.k 2 rfl (.k 3 rfl (.k 6 rfl (.k 22 rfl (.k 23 rfl .nil)))))) ?_)
   ·show C - (k + 1) < C - k; omega
   ·exact isI_eq (by omega)
   ·exact zM_eq (by show _ = ixv b R C (vals xs) k * (trF b R C (vals xs)) k k; rw [← hGt]) rfl
  ·have hc2 := BP.f hc2
   refine .exit ?_
   refine .the ?_
   refine .the ?_
   refine .blh ?_
   refine .thn (k6 _ _ ?_)
   refine .seq fun _ k13 => .region (st (.load (.t rfl) (i := 0) rfl ty30 rfl (Ss' := [_, _]) rfl) rfl ?_)
   refine .store (.t rfl) (.t rfl) (i := 1) rfl ty30 rfl rfl (Ss' := [_, _]) rfl (M' := [_, (some _, cellM [_, _]), _]) rfl ?_
   refine st (.as (Has.cI 0 rfl)) rfl ?_
   refine nl (.thn (k13 _ _ ?_))
   refine .cv (Cv.wk (.k 2 rfl (.k 3 rfl .nil))) ?_
   refine .ret ?_
   refine rtXND (.cons _ (.cons _ (.cons _ .slnil))) (.inl rfl) Try.results8 rfl rfl (.cell rfl (i := 1) rfl ty30 rfl rfl (.tmp (.t rfl) .nil)) ?_
   exact ⟨b, by rw [show k = C by omega], rfl, hMB⟩
theorem modhnf_Index_no {R C K : Nat} {xs : List (Bool × List Nat)} (hx : Bd (vals xs) K) (hK1 : 1 ≤ K) (hR : R ≤ 64) (hC : C ≤ 64) (hl : xs.length = R * C) (hK : (((K + 1) * 2 ^ R) + 2) * 2 ^ C ≤ 80000000) (hKm : ((K + 1) * 2 ^ R) ≤ 30000000) (hp : (Go.Dt.pivs (mf C (vals xs)) R C).length < C) : CtrX Try.prog 8 [isM (R : Int) (C : Int) xs] ([]) (fun S M => S = isTup [isZ 0, isI 3] ∧ M = []) := by
 refine CtrX.intro Try.func8 rfl (by kernel_rfl) Try.ntmps8 rfl fun w0 F0 => ?_
 refine .cv (Cv.wk (.k 0 rfl .nil)) ?_
 refine .seq fun _ k1 => .region (.box (.t rfl) rfl fun b1 => ?_)
 refine .alloc [isB false, SlM isU []] zero30 (fun _ _ => ⟨rfl, nilM _ _, trivial⟩) rfl fun b2 => ?_
 refine st (.as (Has.cI 0 rfl)) rfl ?_
 refine nl (.thn (k1 _ _ ?_))
 refine .seq fun _ k2 => .region (st (.load (.t rfl) (i := 1) rfl ty24 rfl (Ss' := [_, _, _]) rfl) rfl ?_)
 refine .callX (modhnf_filled_no hx hK1 hR hC hl hK hKm hp) (List.Perm.refl _) (.cons (.t rfl) .nil) rfl ?_
 rintro _ _ ⟨rfl, rfl⟩
 refine st (.mv (.t rfl)) rfl (st (.ext (.t rfl) rfl) rfl ?_)
 refine st (.ext (.t rfl) rfl) rfl ?_
 refine st (.as (.t rfl)) rfl (st (.as (.t rfl)) rfl ?_)
 refine nl (.thn (k2 _ _ ?_))
 refine .cv (Cv.wk (.k 2 rfl (.k 3 rfl (.k 4 rfl (.k 5 rfl .nil))))) ?_
 refine .seq fun _ k3 => ?_
 refine .seq fun _ k4 => .region (st (.mv (.t rfl)) rfl ?_)
 refine st (.neI (.t rfl) (Has.cI 0 rfl)) rfl ?_
 refine nl (.thn (k4 _ _ ?_))
 refine .cond (.t rfl) (fun hc1 => ?_) (fun hc1 => ?_)
 ·have hc1 := BP.t hc1
  skip
  refine .seq fun _ k5 => .region (st (.build [isB false, SlM isU []] pl30 zero30 (fun _ _ => ⟨rfl, nilM _ _, trivial⟩) .nil (Z'' := [_, _]) rfl) rfl ?_)
  refine st (.mv (.t rfl)) rfl ?_
  refine .store (.t rfl) (.t rfl) (i := 0) rfl ty30 rfl rfl (Ss' := [_, _]) rfl (M' := [(some _, cellM [_, _]), _]) rfl ?_
  refine st (.as (.t rfl)) rfl ?_
  refine nl (.thn (k5 _ _ ?_))
  refine .cv (Cv.wk (.k 2 rfl (.k 3 rfl (.k 4 rfl .nil)))) ?_
  refine .ret ?_
  refine .thr ?_
  refine rtXND (.cons _ (.cons _ .slnil)) (.inl rfl) Try.results8 rfl rfl (.cell rfl (i := 0) rfl ty30 rfl rfl (.tmp (.t rfl) .nil)) ?_
  exact ⟨by rw [isZ0], rfl⟩
 ·have hc1 := BP.f hc1
  exfalso; simp at hc1
theorem modhnf_Index_bad {r c : Int} {xs : List (Bool × List Nat)} (hf : formB r c xs.length = false) : Ctr Try.prog 8 [isM r c xs] (isTup [isZ 0, isI 2]) := by
 refine Ctr.intro Try.func8 rfl (by kernel_rfl) Try.ntmps8 rfl fun w0 F0 => ?_
 refine .cv (Cv.wk (.k 0 rfl .nil)) ?_
 refine .seq fun _ k1 => .region (.box (.t rfl) rfl fun b1 => ?_)
 refine .alloc [isB false, SlM isU []] zero30 (fun _ _ => ⟨rfl, nilM _ _, trivial⟩) rfl fun b2 => ?_
 refine st (.as (Has.cI 0 rfl)) rfl ?_
 refine nl (.thn (k1 _ _ ?_))
 refine .seq fun _ k2 => .region (st (.load (.t rfl) (i := 1) rfl ty24 rfl (Ss' := [_, _, _]) rfl) rfl ?_)
 refine st (.call (modhnf_filled_bad hf) (.cons (.t rfl) .nil)) rfl ?_
 refine st (.mv (.t rfl)) rfl (st (.ext (.t rfl) rfl) rfl ?_)
 refine st (.ext (.t rfl) rfl) rfl ?_
 refine st (.as (.t rfl)) rfl (st (.as (.t rfl)) rfl ?_)
 refine nl (.thn (k2 _ _ ?_))
 refine .cv (Cv.wk (.k 2 rfl (.k 3 rfl (.k 4 rfl (.k 5 rfl .nil))))) ?_
 refine .seq fun _ k3 => ?_
 refine .seq fun _ k4 => .region (st (.mv (.t rfl)) rfl ?_)
 refine st (.neI (.t rfl) (Has.cI 0 rfl)) rfl ?_
 refine nl (.thn (k4 _ _ ?_))
 refine .cond (.t rfl) (fun hc1 => ?_) (fun hc1 => ?_)
 ·have hc1 := BP.t hc1
  skip
  refine .seq fun _ k5 => .region (st (.build [isB false, SlM isU []] pl30 zero30 (fun _ _ => ⟨rfl, nilM _ _, trivial⟩) .nil (Z'' := [_, _]) rfl) rfl ?_)
  refine st (.mv (.t rfl)) rfl ?_
  refine .store (.t rfl) (.t rfl) (i := 0) rfl ty30 rfl rfl (Ss' := [_, _]) rfl (M' := [(some _, cellM [_, _]), _]) rfl ?_
  refine st (.as (.t rfl)) rfl ?_
  refine nl (.thn (k5 _ _ ?_))
  refine .cv (Cv.wk (.k 2 rfl (.k 3 rfl (.k 4 rfl .nil)))) ?_
  refine .ret ?_
  refine .thr ?_
  refine rtN (.inl rfl) Try.results8 rfl rfl (.cell rfl (i := 0) rfl ty30 rfl ?_ (.tmp (Has.t' rfl ?_) .nil))
  ·exact isZ0
  ·rfl
 ·have hc1 := BP.f hc1
  exfalso; simp at hc1
end Go.Proofs.Ythkdmhaafanjlaa
namespace Go.Proofs.Ythkdmhaafanjlaa
open Go.En Go.RowKit
set_option maxRecDepth 10000
set_option maxHeartbeats 4000000
open Go.Nt
open Go.Pz
open Go.Mz
open Go.Hn
open Go.Hp
open Go.Tr
open Go.Dt
theorem law15_awakeX  : CtrX Try.prog 6 [] ([]) (fun S M => S = isB true) := by
 refine CtrX.intro Try.func6 rfl (by kernel_rfl) Try.ntmps6 rfl fun w0 F0 => ?_
 refine .cv (Cv.wk .nil) ?_
 have h1 : (List.length (words (1 : Int).natAbs)) ≤ 1 := nw_small' (by decide)
 refine .seq fun _ k1 => .region (st (.as (Has.cB false)) rfl ?_)
 refine nl (.thn (k1 _ _ ?_))
 refine .seq fun _ k2 => .region (st (.buildS [isI 0, isI 0, isI 0, isI 0, isI 0, isI 0] sl90 ty2 zero2 (fun _ _ => ⟨⟨rfl, by decide, by decide⟩, ⟨rfl, by decide, by decide⟩, ⟨rfl, by decide, by decide⟩, ⟨rfl, by decide, by decide⟩, ⟨rfl, by decide, by decide⟩, ⟨rfl, by decide, by decide⟩, trivial⟩) rfl rfl (.cons (Has.cI 2 rfl) rfl rfl rfl (.cons (Has.cI 0 rfl) rfl rfl rfl (.cons (Has.cI 0 rfl) rfl rfl rfl (.cons (Has.cI 3 rfl) rfl rfl rfl (.cons (Has.cI 1 rfl) rfl rfl rfl (.cons (Has.cI 1 rfl) rfl rfl rfl .nil)))))) rfl (S := SlM isI [_, _, _, _, _, _]) rfl) rfl ?_)
 refine st (.eq (.call (zmat_Of (R := 3) (C := 2) (l := [2, 0, 0, 3, 1, 1]) (by decide) (by decide) rfl (by decide)) (.cons (Has.cI 3 rfl) (.cons (Has.cI 2 rfl) (.cons (.t rfl) .nil)))) ((show isTup [isMz 3 2 _, isI 0] = isTup [isMz 3 2 [2, 0, 0, 3, 1, 1], isI 0] from by rw [aw15_tab]))) rfl ?_
 refine st (.mv (.t rfl)) rfl (st (.ext (.t rfl) rfl) rfl ?_)
 refine st (.ext (.t rfl) rfl) rfl ?_
 refine .alloc [isI 0, isI 0, nilS] zero24 (fun _ _ => ⟨⟨rfl, by decide, by decide⟩, ⟨rfl, by decide, by decide⟩, rfl, trivial⟩) rfl fun b1 => ?_
 refine .store (.t rfl) (.t rfl) (i := 0) rfl ty24 rfl rfl (Ss' := [_, _, _]) rfl (M' := [(some _, cellM [_, _, _])]) rfl ?_
 refine st (.as (.t rfl)) rfl ?_
 refine nl (.thn (k2 _ _ ?_))
 refine .cv (Cv.wk (.k 0 rfl (.k 1 rfl .nil))) ?_
 refine .seq fun _ k3 => .region (st (.load (.t rfl) (i := 0) rfl ty24 rfl (Ss' := [_, _, _]) rfl) rfl ?_)
 refine .callX (modhnf_Index (R := 3) (C := 2) (K := 1) (xs := [2, 0, 0, 3, 1, 1].map nz) (by rw [vals_nz]; exact aw15_b) (by decide) (by decide) (by decide) rfl (by decide) (by decide) (by rw [vals_nz]; exact aw15_p)) (List.Perm.refl _) (.cons (.t rfl) .nil) rfl ?_
 rintro _ _ ⟨b, rfl, rfl, hMB⟩
 rw [vals_nz] at hMB
 have hix := aw15 hMB
 refine st (.mv (.t rfl)) rfl (st (.eq (.ext (.t rfl) rfl) ((show _ = isZ 1 from isZ_eq (by rw [vals_nz, hix])))) rfl ?_)
 refine st (.ext (.t rfl) rfl) rfl ?_
 refine .alloc [isB false, SlM isU []] zero30 (fun _ _ => ⟨rfl, nilM _ _, trivial⟩) rfl fun b2 => ?_
 refine .store (.t rfl) (.t rfl) (i := 0) rfl ty30 rfl rfl (Ss' := [_, _]) rfl (M' := [(some _, cellM [_, _]), _]) rfl ?_
 refine st (.as (.t rfl)) rfl ?_
 refine nl (.thn (k3 _ _ ?_))
 refine .cv (Cv.wk (.k 0 rfl (.k 1 rfl (.k 3 rfl (.k 4 rfl .nil))))) ?_
 refine .seq fun _ k4 => .region (st (.load (.t rfl) (i := 1) rfl ty24 rfl (Ss' := [_, _, _]) rfl) rfl ?_)
 refine .callX (modhnf_Hermite (R := 3) (C := 2) (K := 1) (xs := [2, 0, 0, 3, 1, 1].map nz) (by rw [vals_nz]; exact aw15_b) (by decide) (by decide) (by decide) rfl (by decide) (by decide) (by rw [vals_nz]; exact aw15_p)) (List.Perm.refl _) (.cons (.t rfl) .nil) rfl ?_
 rintro _ _ ⟨b', rfl, rfl, hMB2⟩
 have hll : ((hmL b' 3 2 (vals ([2, 0, 0, 3, 1, 1].map nz))).map nz).length = 6 := by rw [List.length_map, hmL_len]
 refine st (.mv (.t rfl)) rfl (st (.ext (.t rfl) rfl) rfl ?_)
 refine st (.ext (.t rfl) rfl) rfl ?_
 refine .alloc [isI 0, isI 0, nilS] zero24 (fun _ _ => ⟨⟨rfl, by decide, by decide⟩, ⟨rfl, by decide, by decide⟩, rfl, trivial⟩) rfl fun b3 => ?_
 refine .store (.t rfl) (.t rfl) (i := 0) rfl ty24 rfl rfl (Ss' := [_, _, _]) rfl (M' := [(some _, cellM [_, _, _]), _, _]) rfl ?_
 refine st (.as (.t rfl)) rfl ?_
 refine nl (.thn (k4 _ _ ?_))
 refine .cv (Cv.wk (.k 0 rfl (.k 3 rfl (.k 4 rfl (.k 5 rfl (.k 6 rfl .nil)))))) ?_
 refine .seq fun _ k5 => ?_
 refine .dr ?_
 refine .s [] rfl rfl rfl (.o rfl (.mv (.t rfl))) ?_
 refine .s [22] rfl rfl rfl (.o rfl (.eqI (.t rfl) (Has.cI 0 rfl))) ?_
 refine .s [23] rfl rfl rfl (.o rfl (.mv (.t rfl))) ?_
 refine .s [24] rfl rfl rfl (.T rfl rfl rfl (fun hg => have hg' := BP.t hg; OK1.mv (.t rfl))) ?_
 refine .s [24, 25] rfl rfl rfl (.T rfl rfl rfl (fun hg => have hg' := BP.t hg; OK1.eqI (Has.g rfl hg) (Has.cI 0 rfl))) ?_
 refine .s [24, 26] rfl rfl rfl (.o rfl (.pickAnd (.t rfl) (fun h => Has.g rfl h))) ?_
 refine .s [27] rfl rfl rfl (.o rfl (.mv (.t rfl))) ?_
 refine .s [28] rfl rfl rfl (.T rfl rfl rfl (fun hg => have hg' := BP.t hg; OK1.load (.t rfl) (i := 1) rfl ty30 rfl (Ss' := [_, _]) rfl)) ?_
 refine .s [28] rfl rfl rfl (.T rfl rfl rfl (fun hg => have hg' := BP.t hg; OK1.call (zint_Of) (.cons (Has.cI 1 rfl) .nil))) ?_
 refine .fin (n := 9) mixed (by kernel_rfl) (by kernel_rfl) (by kernel_rfl) ?_
 refine .cv (Cv.wk (.k 0 rfl (.k 5 rfl (.k 28 rfl (.k 29 rfl (.k 30 rfl .nil)))))) ?_
 refine stT rfl rfl (fun hg => have hg' := BP.t hg; OK1.eq (.call (zint_Same (by rw [val_words]; omega) (by rw [val_words]; omega)) (.cons (Has.g rfl hg) (.cons (Has.g rfl hg) .nil))) ((show isB _ = isB true from isB_eq (decide_eq_true (by simp only [zv_nf]))))) rfl ?_
 refine st (.pickAnd (.t rfl) (fun h => Has.g rfl h)) rfl ?_
 refine st (.mv (.t rfl)) rfl ?_
 refine stT rfl rfl (fun hg => have hg' := BP.t hg; OK1.fieldAddr (.t rfl) fld24_0 ty3) rfl ?_
 refine stT rfl rfl (fun hg => have hg' := BP.t hg; OK1.load1 (Has.g rfl hg) (i := 0) rfl ty3 rfl) rfl ?_
 refine stT rfl rfl (fun hg => have hg' := BP.t hg; OK1.eqI (Has.g rfl hg) (Has.cI 3 rfl)) rfl ?_
 refine st (.pickAnd (.t rfl) (fun h => Has.g rfl h)) rfl ?_
 refine st (.mv (.t rfl)) rfl ?_
 refine stT rfl rfl (fun hg => have hg' := BP.t hg; OK1.fieldAddr (.t rfl) fld24_2 ty22) rfl ?_
 refine stT rfl rfl (fun hg => have hg' := BP.t hg; OK1.load1 (Has.g rfl hg) (i := 0) rfl ty22 rfl) rfl ?_
 refine stT rfl rfl (fun hg => have hg' := BP.t hg; OK1.len sl22 (Has.g rfl hg)) rfl ?_
 refine stT rfl rfl (fun hg => have hg' := BP.t hg; OK1.eqI (Has.g rfl hg) (Has.cI 6 rfl)) rfl ?_
 refine st (.pickAnd (.t rfl) (fun h => Has.g rfl h)) rfl ?_
 refine st (.as (.t rfl)) rfl ?_
 refine nl (.thn (k5 _ _ ?_))
 refine .cv (Cv.wk (.k 0 rfl .nil)) ?_
 refine .ret ?_
 refine rtX1 (.inl rfl) Try.results6 rfl (.tmp (.t rfl) .nil) ?_
 exact isB_eq (by rw [hll]; rfl)
theorem law15_awake : Ctr Try.prog 6 [] (isB true) := law15_awakeX.toCtr fun S' M' hh => hh
theorem tri_small {w R C : Nat} (hw : w ≤ 2) (hR : R ≤ 5) (hC : C ≤ 5) : ((w + 1) * 2 ^ R + 2) * 2 ^ C ≤ 80000000 := by
 have h1 := Nat.pow_le_pow_right (show 0 < 2 by decide) hR
 have h2 := Nat.pow_le_pow_right (show 0 < 2 by decide) hC
 have h3 : (w + 1) * 2 ^ R ≤ 3 * 2 ^ 5 := Nat.mul_le_mul (by omega) h1
 have h4 : ((w + 1) * 2 ^ R + 2) * 2 ^ C ≤ (3 * 2 ^ 5 + 2) * 2 ^ 5 := Nat.mul_le_mul (by omega) h2
 omega
theorem tri_small2 {w R : Nat} (hw : w ≤ 2) (hR : R ≤ 5) : (w + 1) * 2 ^ R ≤ 30000000 := by
 have h1 := Nat.pow_le_pow_right (show 0 < 2 by decide) hR
 have h3 : (w + 1) * 2 ^ R ≤ 3 * 2 ^ 5 := Nat.mul_le_mul (by omega) h1
 omega
theorem c_ModhnfIndex_bad (r c : Int) (xs : List (Bool × List Nat)) (hf : formB r c xs.length = false) : Ctr Try.prog 3 [isM r c xs] (isB true) := by
 refine Ctr.intro Try.func3 rfl (by kernel_rfl) Try.ntmps3 rfl fun w0 F0 => ?_
 refine .cv (Cv.wk (.k 0 rfl .nil)) ?_
 refine .seq fun _ k1 => .region (.box (.t rfl) rfl fun b1 => ?_)
 refine st (.as (Has.cB false)) rfl ?_
 refine nl (.thn (k1 _ _ ?_))
 refine .seq fun _ k2 => ?_
 refine .seq fun _ k3 => .region (st (.call law15_awake .nil) rfl ?_)
 refine st (.not (.t rfl)) rfl ?_
 refine st (.mv (.t rfl)) rfl ?_
 refine stF rfl rfl (fun hg => have hg' := BP.t hg; OK1.load (.t rfl) (i := 0) rfl ty24 rfl (Ss' := [_, _, _]) rfl) rfl ?_
 refine stF rfl rfl (fun hg => have hg' := BP.t hg; OK1.call (ref11_Few) (.cons (Has.g rfl hg) (.cons (Has.cI 4 rfl) (.cons (Has.cI 1 rfl) .nil)))) rfl ?_
 refine stF rfl rfl (fun hg => have hg' := BP.t hg; OK1.not (Has.g rfl hg)) rfl ?_
 refine st (.pickOr (.t rfl) (fun h => Has.g rfl (ng h))) rfl ?_
 refine nl (.thn (k3 _ _ ?_))
 refine .cv (Cv.wk (.k 1 rfl (.k 2 rfl (.k 16 rfl .nil)))) ?_
 refine .cond (.t rfl) (fun hc1 => ?_) (fun hc1 => ?_)
 ·have hc1 := BP.t hc1
  refine .seq fun _ k4 => .region (st (.call law15_awake .nil) rfl ?_)
  refine st (.as (.t rfl)) rfl ?_
  refine nl (.thn (k4 _ _ ?_))
  refine .ret ?_
  refine .thr ?_
  refine rt1 (.inl rfl) Try.results3 rfl (.tmp (Has.t' rfl ?_) .nil)
  all_goals (rfl)
 ·have hc1 := BP.f hc1
  refine .skip ?_
  refine .thn (k2 _ _ ?_)
  refine .seq fun _ k5 => .region (st (.load (.t rfl) (i := 0) rfl ty24 rfl (Ss' := [_, _, _]) rfl) rfl ?_)
  refine st (.call (modhnf_Index_bad hf) (.cons (.t rfl) .nil)) rfl ?_
  refine st (.mv (.t rfl)) rfl (st (.ext (.t rfl) rfl) rfl ?_)
  refine st (.ext (.t rfl) rfl) rfl ?_
  refine .alloc [isB false, SlM isU []] zero30 (fun _ _ => ⟨rfl, nilM _ _, trivial⟩) rfl fun b2 => ?_
  refine .store (.t rfl) (.t rfl) (i := 0) rfl ty30 rfl rfl (Ss' := [_, _]) rfl (M' := [(some _, cellM [_, _]), _]) rfl ?_
  refine st (.as (.t rfl)) rfl ?_
  refine nl (.thn (k5 _ _ ?_))
  refine .cv (Cv.wk (.k 1 rfl (.k 2 rfl (.k 3 rfl (.k 4 rfl .nil))))) ?_
  refine .seq fun _ k6 => .region (st (.load (.t rfl) (i := 1) rfl ty24 rfl (Ss' := [_, _, _]) rfl) rfl ?_)
  refine st (.call (modhnf_Multiple_bad hf) (.cons (.t rfl) .nil)) rfl ?_
  refine st (.mv (.t rfl)) rfl (st (.ext (.t rfl) rfl) rfl ?_)
  refine st (.ext (.t rfl) rfl) rfl ?_
  refine .alloc [isB false, SlM isU []] zero30 (fun _ _ => ⟨rfl, nilM _ _, trivial⟩) rfl fun b3 => ?_
  refine .store (.t rfl) (.t rfl) (i := 0) rfl ty30 rfl rfl (Ss' := [_, _]) rfl (M' := [(some _, cellM [_, _]), _, _]) rfl ?_
  refine st (.as (.t rfl)) rfl ?_
  refine nl (.thn (k6 _ _ ?_))
  refine .cv (Cv.wk (.k 1 rfl (.k 2 rfl (.k 3 rfl (.k 4 rfl (.k 5 rfl (.k 6 rfl .nil))))))) ?_
  refine .seq fun _ k7 => ?_
  refine .seq fun _ k8 => .region (st (.load (.t rfl) (i := 2) rfl ty24 rfl (Ss' := [_, _, _]) rfl) rfl ?_)
  refine st (.eq (.call (ref11_Formed) (.cons (.t rfl) .nil)) ((show isB _ = isB false from isB_eq (hf)))) rfl ?_
  refine st (.not (.t rfl)) rfl ?_
  refine nl (.thn (k8 _ _ ?_))
  refine .cond (.t rfl) (fun hc2 => ?_) (fun hc2 => ?_)
  ·have hc2 := BP.t hc2
   refine .seq fun _ k9 => .region (st (.mv (.t rfl)) rfl ?_)
   refine st (.eqI (.t rfl) (Has.cI 2 rfl)) rfl ?_
   refine st (.mv (.t rfl)) rfl ?_
   refine stT rfl rfl (fun hg => have hg' := BP.t hg; OK1.mv (.t rfl)) rfl ?_
   refine stT rfl rfl (fun hg => have hg' := BP.t hg; OK1.eqI (Has.g rfl hg) (Has.cI 2 rfl)) rfl ?_
   refine st (.pickAnd (.t rfl) (fun h => Has.g rfl h)) rfl ?_
   refine st (.mv (.t rfl)) rfl ?_
   refine stT rfl rfl (fun hg => have hg' := BP.t hg; OK1.load (.t rfl) (i := 1) rfl ty30 rfl (Ss' := [_, _]) rfl) rfl ?_
   refine stT rfl rfl (fun hg => have hg' := BP.t hg; OK1.eq (.call (zint_Sign (by rw [val_words]; exact Nat.lt_trans nw0z (by decide))) (.cons (Has.g rfl hg) .nil)) ((show isI _ = isI 0 from isI_eq (by rw [zv_nf]; rfl)))) rfl ?_
   refine stT rfl rfl (fun hg => have hg' := BP.t hg; OK1.eqI (Has.g rfl hg) (Has.cI 0 rfl)) rfl ?_
   refine st (.pickAnd (.t rfl) (fun h => Has.g rfl h)) rfl ?_
   refine st (.mv (.t rfl)) rfl ?_
   refine stT rfl rfl (fun hg => have hg' := BP.t hg; OK1.load (.t rfl) (i := 0) rfl ty30 rfl (Ss' := [_, _]) rfl) rfl ?_
   refine stT rfl rfl (fun hg => have hg' := BP.t hg; OK1.eq (.call (zint_Sign (by rw [val_words]; exact Nat.lt_trans nw0z (by decide))) (.cons (Has.g rfl hg) .nil)) ((show isI _ = isI 0 from isI_eq (by rw [zv_nf]; rfl)))) rfl ?_
   refine stT rfl rfl (fun hg => have hg' := BP.t hg; OK1.eqI (Has.g rfl hg) (Has.cI 0 rfl)) rfl ?_
   refine st (.pickAnd (.t rfl) (fun h => Has.g rfl h)) rfl ?_
   refine st (.as (.t rfl)) rfl ?_
   refine nl (.thn (k9 _ _ ?_))
   refine .cv (Cv.wk (.k 1 rfl (.k 2 rfl (.k 3 rfl (.k 4 rfl (.k 5 rfl (.k 6 rfl .nil))))))) ?_
   refine .ret ?_
   refine .thr ?_
   refine rt1 (.inl rfl) Try.results3 rfl (.tmp (Has.t' rfl ?_) .nil)
   all_goals (rfl)
  ·have hc2 := BP.f hc2
   exfalso; simp at hc2
theorem c_ModhnfIndex_no (R C : Nat) (xs : List (Bool × List Nat)) (hR : R ≤ 64) (hC : C ≤ 64) (hl : xs.length = R * C) (hp : (Go.Dt.pivs (mf C (vals xs)) R C).length < C) : CtrX Try.prog 3 [isM (R : Int) (C : Int) xs] ([]) (fun S M => S = isB true) := by
 refine CtrX.intro Try.func3 rfl (by kernel_rfl) Try.ntmps3 rfl fun w0 F0 => ?_
 refine .cv (Cv.wk (.k 0 rfl .nil)) ?_
 refine .fact (Has.okM (Has.t (t := 0) rfl)) fun okp0 => ?_
 have hfo := formB_true hR hC hl
 refine .seq fun _ k1 => .region (.box (.t rfl) rfl fun b1 => ?_)
 refine st (.as (Has.cB false)) rfl ?_
 refine nl (.thn (k1 _ _ ?_))
 refine .seq fun _ k2 => ?_
 refine .seq fun _ k3 => .region (st (.call law15_awake .nil) rfl ?_)
 refine st (.not (.t rfl)) rfl ?_
 refine st (.mv (.t rfl)) rfl ?_
 refine stF rfl rfl (fun hg => have hg' := BP.t hg; OK1.load (.t rfl) (i := 0) rfl ty24 rfl (Ss' := [_, _, _]) rfl) rfl ?_
 refine stF rfl rfl (fun hg => have hg' := BP.t hg; OK1.call (ref11_Few) (.cons (Has.g rfl hg) (.cons (Has.cI 4 rfl) (.cons (Has.cI 1 rfl) .nil)))) rfl ?_
 refine stF rfl rfl (fun hg => have hg' := BP.t hg; OK1.not (Has.g rfl hg)) rfl ?_
 refine st (.pickOr (.t rfl) (fun h => Has.g rfl (ng h))) rfl ?_
 refine nl (.thn (k3 _ _ ?_))
 refine .cv (Cv.wk (.k 1 rfl (.k 2 rfl (.k 16 rfl .nil)))) ?_
 refine .cond (.t rfl) (fun hc1 => ?_) (fun hc1 => ?_)
 ·have hc1 := BP.t hc1
  skip
  refine .seq fun _ k4 => .region (st (.call law15_awake .nil) rfl ?_)
  refine st (.as (.t rfl)) rfl ?_
  refine nl (.thn (k4 _ _ ?_))
  refine .ret ?_
  refine .thr ?_
  refine rtX1D (.cons _ .slnil) (.inl rfl) Try.results3 rfl (.tmp (.t rfl) .nil) ?_
  exact rfl
 ·have hc1 := BP.f hc1
  have HF0 : ((R : Int) ≤ 4 ∧ (C : Int) ≤ 4) ∧ fewB xs 100 1 = true := (by simpa [and_assoc] using hc1)
  obtain ⟨⟨hR5, hC5⟩, HF⟩ := HF0
  obtain ⟨hl0, hb⟩ := fewB_bd (N := 100) (K := 1) okp0 HF rfl rfl (by decide)
  have hz1 : ((1 + 1) * 2 ^ R + 2) * 2 ^ C ≤ 80000000 := tri_small (by decide) (by omega) (by omega)
  have hz2 : (1 + 1) * 2 ^ R ≤ 30000000 := tri_small2 (by decide) (by omega)
  have hgw := gcM_nw (R := R) hb hC (choices R C).length
  refine .skip ?_
  refine .thn (k2 _ _ ?_)
  refine .seq fun _ k5 => .region (st (.load (.t rfl) (i := 0) rfl ty24 rfl (Ss' := [_, _, _]) rfl) rfl ?_)
  refine .callX (modhnf_Index_no hb (by decide) hR hC hl hz1 hz2 hp) (List.Perm.refl _) (.cons (.t rfl) .nil) rfl ?_
  rintro _ _ ⟨rfl, rfl⟩
  refine st (.mv (.t rfl)) rfl (st (.ext (.t rfl) rfl) rfl ?_)
  refine st (.ext (.t rfl) rfl) rfl ?_
  refine .alloc [isB false, SlM isU []] zero30 (fun _ _ => ⟨rfl, nilM _ _, trivial⟩) rfl fun b2 => ?_
  refine .store (.t rfl) (.t rfl) (i := 0) rfl ty30 rfl rfl (Ss' := [_, _]) rfl (M' := [(some _, cellM [_, _]), _]) rfl ?_
  refine st (.as (.t rfl)) rfl ?_
  refine nl (.thn (k5 _ _ ?_))
  refine .cv (Cv.wk (.k 1 rfl (.k 2 rfl (.k 3 rfl (.k 4 rfl .nil))))) ?_
  refine .seq fun _ k6 => .region (st (.load (.t rfl) (i := 1) rfl ty24 rfl (Ss' := [_, _, _]) rfl) rfl ?_)
  refine .callX (modhnf_Multiple_no hb (by decide) hR hC hl hz2 hp) (List.Perm.refl _) (.cons (.t rfl) .nil) rfl ?_
  rintro _ _ ⟨rfl, rfl⟩
  refine st (.mv (.t rfl)) rfl (st (.ext (.t rfl) rfl) rfl ?_)
  refine st (.ext (.t rfl) rfl) rfl ?_
  refine .alloc [isB false, SlM isU []] zero30 (fun _ _ => ⟨rfl, nilM _ _, trivial⟩) rfl fun b3 => ?_
  refine .store (.t rfl) (.t rfl) (i := 0) rfl ty30 rfl rfl (Ss' := [_, _]) rfl (M' := [(some _, cellM [_, _]), _, _]) rfl ?_
  refine st (.as (.t rfl)) rfl ?_
  refine nl (.thn (k6 _ _ ?_))
  refine .cv (Cv.wk (.k 1 rfl (.k 2 rfl (.k 3 rfl (.k 4 rfl (.k 5 rfl (.k 6 rfl .nil))))))) ?_
  refine .seq fun _ k7 => ?_
  refine .seq fun _ k8 => .region (st (.load (.t rfl) (i := 2) rfl ty24 rfl (Ss' := [_, _, _]) rfl) rfl ?_)
  refine st (.eq (.call (ref11_Formed) (.cons (.t rfl) .nil)) ((show isB _ = isB true from isB_eq (hfo)))) rfl ?_
  refine st (.not (.t rfl)) rfl ?_
  refine nl (.thn (k8 _ _ ?_))
  refine .cond (.t rfl) (fun hc2 => ?_) (fun hc2 => ?_)
  ·have hc2 := BP.t hc2
   exfalso; simp at hc2
  ·have hc2 := BP.f hc2
   skip
   refine .skip ?_
   refine .thn (k7 _ _ ?_)
   refine .seq fun _ k9 => .region (st (.load (.t rfl) (i := 2) rfl ty24 rfl (Ss' := [_, _, _]) rfl) rfl ?_)
   refine st (.eq (.call (ref15_Minors hb (by decide) (by omega) (by omega) hl) (.cons (.t rfl) .nil)) ((show isZ _ = isZ 0 from isZ_eq (gcA_no hp)))) rfl ?_
   refine .alloc [isB false, SlM isU []] zero30 (fun _ _ => ⟨rfl, nilM _ _, trivial⟩) rfl fun b4 => ?_
   refine .store (.t rfl) (.t rfl) (i := 0) rfl ty30 rfl rfl (Ss' := [_, _]) rfl (M' := [(some _, cellM [_, _]), _, _, _]) rfl ?_
   refine nl (.thn (k9 _ _ ?_))
   refine .cv (Cv.wk (.k 1 rfl (.k 2 rfl (.k 3 rfl (.k 4 rfl (.k 5 rfl (.k 6 rfl (.k 7 rfl .nil)))))))) ?_
   refine .seq fun _ k10 => ?_
   refine .seq fun _ k11 => .region (st (.load (.t rfl) (i := 0) rfl ty30 rfl (Ss' := [_, _]) rfl) rfl ?_)
   refine st (.eq (.call (zint_Sign (by rw [val_words]; exact Nat.lt_trans nw0z (by decide))) (.cons (.t rfl) .nil)) ((show isI _ = isI 0 from isI_eq (by rw [zv_nf]; rfl)))) rfl ?_
   refine st (.eqI (.t rfl) (Has.cI 0 rfl)) rfl ?_
   refine nl (.thn (k11 _ _ ?_))
   refine .cond (.t rfl) (fun hc3 => ?_) (fun hc3 => ?_)
   ·have hc3 := BP.t hc3
    skip
    refine .seq fun _ k12 => .region (st (.mv (.t rfl)) rfl ?_)
    refine st (.eqI (.t rfl) (Has.cI 3 rfl)) rfl ?_
    refine st (.mv (.t rfl)) rfl ?_
    refine stT rfl rfl (fun hg => have hg' := BP.t hg; OK1.mv (.t rfl)) rfl ?_
    refine stT rfl rfl (fun hg => have hg' := BP.t hg; OK1.eqI (Has.g rfl hg) (Has.cI 3 rfl)) rfl ?_
    refine st (.pickAnd (.t rfl) (fun h => Has.g rfl h)) rfl ?_
    refine st (.mv (.t rfl)) rfl ?_
    refine stT rfl rfl (fun hg => have hg' := BP.t hg; OK1.load (.t rfl) (i := 2) rfl ty30 rfl (Ss' := [_, _]) rfl) rfl ?_
    refine stT rfl rfl (fun hg => have hg' := BP.t hg; OK1.eq (.call (zint_Sign (by rw [val_words]; exact Nat.lt_trans nw0z (by decide))) (.cons (Has.g rfl hg) .nil)) ((show isI _ = isI 0 from isI_eq (by rw [zv_nf]; rfl)))) rfl ?_
    refine stT rfl rfl (fun hg => have hg' := BP.t hg; OK1.eqI (Has.g rfl hg) (Has.cI 0 rfl)) rfl ?_
    refine st (.pickAnd (.t rfl) (fun h => Has.g rfl h)) rfl ?_
    refine st (.mv (.t rfl)) rfl ?_
    refine stT rfl rfl (fun hg => have hg' := BP.t hg; OK1.load (.t rfl) (i := 1) rfl ty30 rfl (Ss' := [_, _]) rfl) rfl ?_
    refine stT rfl rfl (fun hg => have hg' := BP.t hg; OK1.eq (.call (zint_Sign (by rw [val_words]; exact Nat.lt_trans nw0z (by decide))) (.cons (Has.g rfl hg) .nil)) ((show isI _ = isI 0 from isI_eq (by rw [zv_nf]; rfl)))) rfl ?_
    refine stT rfl rfl (fun hg => have hg' := BP.t hg; OK1.eqI (Has.g rfl hg) (Has.cI 0 rfl)) rfl ?_
    refine st (.pickAnd (.t rfl) (fun h => Has.g rfl h)) rfl ?_
    refine st (.as (.t rfl)) rfl ?_
    refine nl (.thn (k12 _ _ ?_))
    refine .cv (Cv.wk (.k 1 rfl (.k 2 rfl (.k 3 rfl (.k 4 rfl (.k 5 rfl (.k 6 rfl (.k 7 rfl .nil)))))))) ?_
    refine .ret ?_
    refine .thr ?_
    refine rtX1D (.cons _ (.cons _ (.cons _ (.cons _ .slnil)))) (.inl rfl) Try.results3 rfl (.tmp (.t rfl) .nil) ?_
    exact rfl
   ·have hc3 := BP.f hc3
    exfalso; simp at hc3
theorem c_ModhnfIndex_ok (R C : Nat) (xs : List (Bool × List Nat)) (hR : R ≤ 64) (hC : C ≤ 64) (hl : xs.length = R * C) (hp : (Go.Dt.pivs (mf C (vals xs)) R C).length = C) : CtrX Try.prog 3 [isM (R : Int) (C : Int) xs] ([]) (fun S M => S = isB true) := by
 refine CtrX.intro Try.func3 rfl (by kernel_rfl) Try.ntmps3 rfl fun w0 F0 => ?_
 refine .cv (Cv.wk (.k 0 rfl .nil)) ?_
 refine .fact (Has.okM (Has.t (t := 0) rfl)) fun okp0 => ?_
 have hfo := formB_true hR hC hl
 refine .seq fun _ k1 => .region (.box (.t rfl) rfl fun b1 => ?_)
 refine st (.as (Has.cB false)) rfl ?_
 refine nl (.thn (k1 _ _ ?_))
 refine .seq fun _ k2 => ?_
 refine .seq fun _ k3 => .region (st (.call law15_awake .nil) rfl ?_)
 refine st (.not (.t rfl)) rfl ?_
 refine st (.mv (.t rfl)) rfl ?_
 refine stF rfl rfl (fun hg => have hg' := BP.t hg; OK1.load (.t rfl) (i := 0) rfl ty24 rfl (Ss' := [_, _, _]) rfl) rfl ?_
 refine stF rfl rfl (fun hg => have hg' := BP.t hg; OK1.call (ref11_Few) (.cons (Has.g rfl hg) (.cons (Has.cI 4 rfl) (.cons (Has.cI 1 rfl) .nil)))) rfl ?_
 refine stF rfl rfl (fun hg => have hg' := BP.t hg; OK1.not (Has.g rfl hg)) rfl ?_
 refine st (.pickOr (.t rfl) (fun h => Has.g rfl (ng h))) rfl ?_
 refine nl (.thn (k3 _ _ ?_))
 refine .cv (Cv.wk (.k 1 rfl (.k 2 rfl (.k 16 rfl .nil)))) ?_
 refine .cond (.t rfl) (fun hc1 => ?_) (fun hc1 => ?_)
 ·have hc1 := BP.t hc1
  skip
  refine .seq fun _ k4 => .region (st (.call law15_awake .nil) rfl ?_)
  refine st (.as (.t rfl)) rfl ?_
  refine nl (.thn (k4 _ _ ?_))
  refine .ret ?_
  refine .thr ?_
  refine rtX1D (.cons _ .slnil) (.inl rfl) Try.results3 rfl (.tmp (.t rfl) .nil) ?_
  exact rfl
 ·have hc1 := BP.f hc1
  have HF0 : ((R : Int) ≤ 4 ∧ (C : Int) ≤ 4) ∧ fewB xs 100 1 = true := (by simpa [and_assoc] using hc1)
  obtain ⟨⟨hR5, hC5⟩, HF⟩ := HF0
  obtain ⟨hl0, hb⟩ := fewB_bd (N := 100) (K := 1) okp0 HF rfl rfl (by decide)
  have hz1 : ((1 + 1) * 2 ^ R + 2) * 2 ^ C ≤ 80000000 := tri_small (by decide) (by omega) (by omega)
  have hz2 : (1 + 1) * 2 ^ R ≤ 30000000 := tri_small2 (by decide) (by omega)
  have hgw := gcM_nw (R := R) hb hC (choices R C).length
  refine .skip ?_
  refine .thn (k2 _ _ ?_)
  refine .seq fun _ k5 => .region (st (.load (.t rfl) (i := 0) rfl ty24 rfl (Ss' := [_, _, _]) rfl) rfl ?_)
  refine .callX (modhnf_Index hb (by decide) hR hC hl hz1 hz2 hp) (List.Perm.refl _) (.cons (.t rfl) .nil) rfl ?_
  rintro _ _ ⟨b, rfl, rfl, hMB⟩
  obtain ⟨g, hg⟩ : ∃ g, g = ixv b R C (vals xs) C := ⟨_, rfl⟩
  have hgp := ixv_pos (R := R) (L := vals xs) hMB.1 C (Nat.le_refl _)
  have hgA := gcA_ix hMB
  change (words (gcA (mf C (vals xs)) R C).natAbs).length ≤ _ at hgw
  rw [hgA] at hgw
  rw [← hg] at hgp hgA hgw ⊢
  refine st (.mv (.t rfl)) rfl (st (.ext (.t rfl) rfl) rfl ?_)
  refine st (.ext (.t rfl) rfl) rfl ?_
  refine .alloc [isB false, SlM isU []] zero30 (fun _ _ => ⟨rfl, nilM _ _, trivial⟩) rfl fun b2 => ?_
  refine .store (.t rfl) (.t rfl) (i := 0) rfl ty30 rfl rfl (Ss' := [_, _]) rfl (M' := [(some _, cellM [_, _]), _]) rfl ?_
  refine st (.as (.t rfl)) rfl ?_
  refine nl (.thn (k5 _ _ ?_))
  refine .cv (Cv.wk (.k 1 rfl (.k 2 rfl (.k 3 rfl (.k 4 rfl .nil))))) ?_
  refine .seq fun _ k6 => .region (st (.load (.t rfl) (i := 1) rfl ty24 rfl (Ss' := [_, _, _]) rfl) rfl ?_)
  refine .callX (modhnf_Multiple hb (by decide) hR hC hl hz2 hp) (List.Perm.refl _) (.cons (.t rfl) .nil) rfl ?_
  rintro _ _ ⟨b', rfl, rfl, hMB2⟩
  have hb0 := hMB2.1
  have hbw := hMB2.2.1
  obtain ⟨Yb, hYb, heb⟩ := mulB_minor hMB2
  have hdv : g ∣ b' := by rw [hg]; exact ixv_mul hMB hMB2
  refine st (.mv (.t rfl)) rfl (st (.ext (.t rfl) rfl) rfl ?_)
  refine st (.ext (.t rfl) rfl) rfl ?_
  refine .alloc [isB false, SlM isU []] zero30 (fun _ _ => ⟨rfl, nilM _ _, trivial⟩) rfl fun b3 => ?_
  refine .store (.t rfl) (.t rfl) (i := 0) rfl ty30 rfl rfl (Ss' := [_, _]) rfl (M' := [(some _, cellM [_, _]), _, _]) rfl ?_
  refine st (.as (.t rfl)) rfl ?_
  refine nl (.thn (k6 _ _ ?_))
  refine .cv (Cv.wk (.k 1 rfl (.k 2 rfl (.k 3 rfl (.k 4 rfl (.k 5 rfl (.k 6 rfl .nil))))))) ?_
  refine .seq fun _ k7 => ?_
  refine .seq fun _ k8 => .region (st (.load (.t rfl) (i := 2) rfl ty24 rfl (Ss' := [_, _, _]) rfl) rfl ?_)
  refine st (.eq (.call (ref11_Formed) (.cons (.t rfl) .nil)) ((show isB _ = isB true from isB_eq (hfo)))) rfl ?_
  refine st (.not (.t rfl)) rfl ?_
  refine nl (.thn (k8 _ _ ?_))
  refine .cond (.t rfl) (fun hc2 => ?_) (fun hc2 => ?_)
  ·have hc2 := BP.t hc2
   exfalso; simp at hc2
  ·have hc2 := BP.f hc2
   skip
   refine .skip ?_
   refine .thn (k7 _ _ ?_)
   refine .seq fun _ k9 => .region (st (.load (.t rfl) (i := 2) rfl ty24 rfl (Ss' := [_, _, _]) rfl) rfl ?_)
   refine st (.eq (.call (ref15_Minors hb (by decide) (by omega) (by omega) hl) (.cons (.t rfl) .nil)) ((show isZ _ = isZ g from isZ_eq hgA))) rfl ?_
   refine .alloc [isB false, SlM isU []] zero30 (fun _ _ => ⟨rfl, nilM _ _, trivial⟩) rfl fun b4 => ?_
   refine .store (.t rfl) (.t rfl) (i := 0) rfl ty30 rfl rfl (Ss' := [_, _]) rfl (M' := [(some _, cellM [_, _]), _, _, _]) rfl ?_
   refine nl (.thn (k9 _ _ ?_))
   refine .cv (Cv.wk (.k 1 rfl (.k 2 rfl (.k 3 rfl (.k 4 rfl (.k 5 rfl (.k 6 rfl (.k 7 rfl .nil)))))))) ?_
   refine .seq fun _ k10 => ?_
   refine .seq fun _ k11 => .region (st (.load (.t rfl) (i := 0) rfl ty30 rfl (Ss' := [_, _]) rfl) rfl ?_)
   refine st (.eq (.call (zint_Sign (by rw [val_words]; omega)) (.cons (.t rfl) .nil)) ((show isI _ = isI (sgn g) from isI_eq (by rw [zv_nf])))) rfl ?_
   refine st (.eqI (.t rfl) (Has.cI 0 rfl)) rfl ?_
   refine nl (.thn (k11 _ _ ?_))
   refine .cond (.t rfl) (fun hc3 => ?_) (fun hc3 => ?_)
   ·have hc3 := BP.t hc3
    exfalso; have h9 := (sgn_eq0 _).1 hc3; omega
   ·have hc3 := BP.f hc3
    skip
    refine .skip ?_
    refine .thn (k10 _ _ ?_)
    refine .seq fun _ k12 => .region (st (.load (.t rfl) (i := 1) rfl ty30 rfl (Ss' := [_, _]) rfl) rfl ?_)
    refine st (.load (.t rfl) (i := 2) rfl ty30 rfl (Ss' := [_, _]) rfl) rfl (st (.eq (.call (zint_Exact (by rw [val_words]; omega) (by rw [val_words]; omega)) (.cons (.t rfl) (.cons (.t rfl) .nil))) ((show isTup [isZ _, isB _] = isTup [isZ (b'.tdiv g), isB true] from by simp only [zv_nf]; rw [if_pos ⟨by omega, Int.tmod_eq_zero_of_dvd hdv⟩, decide_eq_true ⟨by omega, Int.tmod_eq_zero_of_dvd hdv⟩]))) rfl ?_)
    refine st (.mv (.t rfl)) rfl (st (.ext (.t rfl) rfl) rfl ?_)
    refine st (.ext (.t rfl) rfl) rfl ?_
    refine .alloc [isB false, SlM isU []] zero30 (fun _ _ => ⟨rfl, nilM _ _, trivial⟩) rfl fun b5 => ?_
    refine .store (.t rfl) (.t rfl) (i := 0) rfl ty30 rfl rfl (Ss' := [_, _]) rfl (M' := [(some _, cellM [_, _]), _, _, _, _]) rfl ?_
    refine st (.as (.t rfl)) rfl ?_
    refine nl (.thn (k12 _ _ ?_))
    refine .cv (Cv.wk (.k 1 rfl (.k 2 rfl (.k 3 rfl (.k 4 rfl (.k 5 rfl (.k 6 rfl (.k 7 rfl (.k 9 rfl .nil))))))))) ?_
    refine .seq fun _ k13 => .region (st (.mv (.t rfl)) rfl ?_)
    refine st (.eqI (.t rfl) (Has.cI 0 rfl)) rfl ?_
    refine st (.mv (.t rfl)) rfl ?_
    refine stT rfl rfl (fun hg => have hg' := BP.t hg; OK1.mv (.t rfl)) rfl ?_
    refine stT rfl rfl (fun hg => have hg' := BP.t hg; OK1.eqI (Has.g rfl hg) (Has.cI 0 rfl)) rfl ?_
    refine st (.pickAnd (.t rfl) (fun h => Has.g rfl h)) rfl ?_
    refine st (.mv (.t rfl)) rfl ?_
    refine stT rfl rfl (fun hg => have hg' := BP.t hg; OK1.load (.t rfl) (i := 3) rfl ty30 rfl (Ss' := [_, _]) rfl) rfl ?_
    refine stT rfl rfl (fun hg => have hg' := BP.t hg; OK1.load (.t rfl) (i := 1) rfl ty30 rfl (Ss' := [_, _]) rfl) rfl ?_
    refine stT rfl rfl (fun hg => have hg' := BP.t hg; OK1.eq (.call (zint_Same (by rw [val_words]; omega) (by rw [val_words]; omega)) (.cons (Has.g rfl hg) (.cons (Has.g rfl hg) .nil))) ((show isB _ = isB true from isB_eq (decide_eq_true (by simp only [zv_nf]))))) rfl ?_
    refine st (.pickAnd (.t rfl) (fun h => Has.g rfl h)) rfl ?_
    refine st (.mv (.t rfl)) rfl ?_
    refine stT rfl rfl (fun hg => have hg' := BP.t hg; OK1.mv (.t rfl)) rfl ?_
    refine st (.pickAnd (.t rfl) (fun h => Has.g rfl h)) rfl ?_
    refine st (.mv (.t rfl)) rfl ?_
    refine stT rfl rfl (fun hg => have hg' := BP.t hg; OK1.load (.t rfl) (i := 2) rfl ty30 rfl (Ss' := [_, _]) rfl) rfl ?_
    refine stT rfl rfl (fun hg => have hg' := BP.t hg; OK1.eq (.call (zint_Sign (by rw [val_words]; omega)) (.cons (Has.g rfl hg) .nil)) ((show isI _ = isI 1 from isI_eq (by rw [zv_nf]; exact by rcases sgn_cases b' with h | h | h <;> omega)))) rfl ?_
    refine stT rfl rfl (fun hg => have hg' := BP.t hg; OK1.eqI (Has.g rfl hg) (Has.cI 1 rfl)) rfl ?_
    refine st (.pickAnd (.t rfl) (fun h => Has.g rfl h)) rfl ?_
    refine st (.mv (.t rfl)) rfl ?_
    refine stT rfl rfl (fun hg => have hg' := BP.t hg; OK1.load (.t rfl) (i := 4) rfl ty24 rfl (Ss' := [_, _, _]) rfl) rfl ?_
    refine stT rfl rfl (fun hg => have hg' := BP.t hg; OK1.load (.t rfl) (i := 2) rfl ty30 rfl (Ss' := [_, _]) rfl) rfl ?_
    refine stT rfl rfl (fun hg => have hg' := BP.t hg; OK1.call (ref15_Is hb (by decide) (by omega) (by omega) hl (by omega) ⟨Yb, hYb, by omega⟩) (.cons (Has.g rfl hg) (.cons (Has.g rfl hg) .nil))) rfl ?_
    refine st (.pickAnd (.t rfl) (fun h => Has.g rfl h)) rfl ?_
    refine st (.as (.t rfl)) rfl ?_
    refine nl (.thn (k13 _ _ ?_))
    refine .cv (Cv.wk (.k 2 rfl .nil)) ?_
    refine .ret ?_
    refine rtX1D (.cons _ (.cons _ (.cons _ (.cons _ (.cons _ .slnil))))) (.inl rfl) Try.results3 rfl (.tmp (.t rfl) .nil) ?_
    exact rfl
theorem c_ModhnfIndex (r c : Int) (xs : List (Bool × List Nat)) : Ctr Try.prog 3 [isM r c xs] (isB true) := by
  cases h : formB r c xs.length with
  | true =>
    obtain ⟨R, C, rfl, rfl, h1, h2, h3⟩ := formB_iff.1 h
    have hp := (pivs_lt (mf C (vals xs)) R C).2
    by_cases h4 : (Go.Dt.pivs (mf C (vals xs)) R C).length = C
    · exact (c_ModhnfIndex_ok R C xs h1 h2 h3 h4).toCtr fun S' M' hh => hh
    · exact (c_ModhnfIndex_no R C xs h1 h2 h3 (by omega)).toCtr fun S' M' hh => hh
  | false => exact c_ModhnfIndex_bad r c xs h
end Go.Proofs.Ythkdmhaafanjlaa
namespace Go.En
open Go.RowKit Go.ChangeShapes Go.WideShapes Go.ChangeAt
theorem pair_get {α β : Type} (g h : α → β) : ∀ (l : List α) (j : Nat), (l.flatMap fun a => [g a, h a])[j]? = (l[j / 2]?).map (fun a => if j % 2 = 0 then g a else h a)
  | [], j => by simp
  | a :: l, 0 => by simp
  | a :: l, 1 => by simp
  | a :: l, j + 2 => by
    have := pair_get g h l j
    rw [show (j + 2) / 2 = j / 2 + 1 by omega, show (j + 2) % 2 = j % 2 by omega]
    simpa using this
section
variable {H : Type} {enc : TypeId × Value → H} {P : Program}
end
end Go.En
namespace Go.En
open Go.RowKit Go.ChangeShapes Go.WideShapes Go.ChangeAt
section
variable {H : Type} {enc : TypeId × Value → H} {P : Program}
theorem rd_Zs {W : World} {T e tb ts T' : TypeId} {fuel : Nat} {cs : List Value} {x : DataW H × List MemPlace} (hT : P.underlying T = some (.slice e)) (hfs : fsB P e = some [(tb, 0), (ts, 1)]) (hub : P.underlying tb = some .bool) (hu : P.underlying ts = some (.slice T')) (hu' : P.underlying T' = some (.int .u64)) (hc : P.cellsOf T' = 1) (hcb : P.cellsOf tb = 1) (hcs : P.cellsOf ts = 1) (hce : P.cellsOf e = 2)
    (hf : DataW.trod enc P W 0 (fun _ => true) true fuel T cs = some x) (hps : ∀ y ∈ x.2, y.block < W.heap.size) : ∃ (v : Value) (xs : List (Bool × List Nat)), cs = [v] ∧ (isZs xs).h W (fun b => b < W.heap.size) v := by
  obtain ⟨d, ps⟩ := x
  obtain ⟨fs, hue, hsz, hget⟩ := fsB_spec hfs
  obtain ⟨f0, g0, rfl, e0⟩ := hget 0 tb 0 rfl
  obtain ⟨f1, g1, rfl, e1⟩ := hget 1 ts 1 rfl
  have hfs2 : fs = #[f0, f1] := by
    apply Array.ext'
    have hl : fs.toList.length = 2 := by simpa using hsz
    match hq : fs.toList, hl with
    | [p, q], _ =>
      have a0 : fs.toList[0]? = some f0 := by simpa using g0
      have a1 : fs.toList[1]? = some f1 := by simpa using g1
      rw [hq] at a0 a1
      simp at a0 a1
      rw [a0, a1]
  subst hfs2
  rcases Deep.open_slice_pairs hT hue hce e0 e1 hcb hcs hf with ⟨h1, _⟩ | ⟨a, len, cap, m, n, V0, V1, D0, D1, P0, P1, h1, _, hlc, hcm, hm, hx, hel⟩
  · exact ⟨_, [], h1, nilK⟩
  · simp only [if_true] at hm
    subst m
    have hps' : ∀ i, i < cap → ∀ y ∈ P1 i, y.block < W.heap.size := fun i hi y hy => hps y (by
      have := (Prod.mk.inj hx).2
      rw [this]
      exact List.mem_append_right _ (List.mem_flatMap.2 ⟨i, List.mem_range.2 hi, List.mem_append_right _ hy⟩))
    obtain ⟨l, hl, hgl⟩ := list_of_get (p := fun i (x : Bool × List Nat) => V0 i = .bool x.1 ∧ (isWords x.2).h W (fun b => b < W.heap.size) (V1 i)) len (fun i hi => by
      obtain ⟨_, _, q0, q1⟩ := hel i (by omega)
      obtain ⟨b, hb, _⟩ := DataW.trod_bool hub q0
      obtain ⟨v, ws, hv1, hw⟩ := rd_row hu hu' hc word_of q1 (hps' i (by omega))
      obtain rfl : V1 i = v := by simpa using hv1
      exact ⟨(b, ws), by simpa using hb, hw⟩)
    refine ⟨_, l, h1, some a, cap, by rw [hl], by rw [hl]; exact hlc, hcm, flat_len zc_len l, ?_⟩
    rcases Nat.eq_zero_or_pos len with h0 | h0
    · exact .inl (by omega)
    · have hc0 := (hel 0 (by omega)).1
      have hs : a.spot = none := by
        cases hsp : a.spot with
        | none => rfl
        | some s =>
          simp only [Addr.add, Nat.zero_mul, if_true] at hc0
          unfold World.cell? at hc0
          rw [hsp] at hc0
          split at hc0 <;> simp at hc0
      obtain ⟨b, off, sp⟩ := a
      simp only at hs
      subst hs
      right
      refine ⟨b, off, rfl, ?_, (List.range len).flatMap (fun i => [V0 i, V1 i]), ?_, fun j u hj => ?_⟩
      · have : MemPlace.cell b (off + 0) ∈ ps := by
          have := (Prod.mk.inj hx).2
          rw [this]
          exact List.mem_append_left _ (List.mem_map.2 ⟨0, by simp; omega, rfl⟩)
        exact hps _ this
      · have hlen2 : ((List.range len).flatMap fun i => [V0 i, V1 i]).length = len * 2 := by
          have := flat_len (fk := fun (i : Nat) => [isB true, isB true]) (k := 2) (fun _ => rfl) (List.range len)
          rw [List.length_flatMap] at this ⊢
          simpa using this
        refine all2_of_get (by rw [flat_len zc_len, hlen2, hl]) (fun j S v hS hv => ?_)
        have hz := pair_get (fun p : Bool × List Nat => isB p.1) (fun p => isWords p.2) l j
        rw [show (l.flatMap fun a => [isB a.1, isWords a.2]) = l.flatMap zc from rfl, hS] at hz
        have hw := pair_get V0 V1 (List.range len) j
        rw [hv] at hw
        have hj : j / 2 < l.length := by
          rcases Nat.lt_or_ge (j / 2) l.length with h | h
          · exact h
          · rw [List.getElem?_eq_none h] at hz; cases hz
        rw [List.getElem?_eq_getElem hj] at hz
        rw [List.getElem?_range (by omega)] at hw
        simp only [Option.map_some, Option.some.injEq] at hz hw
        obtain ⟨k1, k2⟩ := hgl (j / 2) hj
        subst hz; subst hw
        by_cases hp : j % 2 = 0
        · rw [if_pos hp, if_pos hp, k1]; rfl
        · rw [if_neg hp, if_neg hp]; exact k2
      · have hw := pair_get V0 V1 (List.range len) j
        rw [hj] at hw
        have hjl : j / 2 < len := by
          rcases Nat.lt_or_ge (j / 2) len with h | h
          · exact h
          · rw [List.getElem?_eq_none (by simpa using h)] at hw; cases hw
        rw [List.getElem?_range hjl] at hw
        simp only [Option.map_some, Option.some.injEq] at hw
        obtain ⟨q0, q1, _, _⟩ := hel (j / 2) (by omega)
        rw [add_mk] at q0
        rw [add_mk] at q1
        by_cases hp : j % 2 = 0
        · rw [if_pos hp] at hw; subst hw
          rw [show off + j = off + j / 2 * 2 by omega]; exact q0
        · rw [if_neg hp] at hw; subst hw
          rw [show off + j = off + (j / 2 * 2 + 1) by omega]; exact q1
theorem open_M {W : World} {base : Nat} {T ti tm e tb ts T' : TypeId} {v : Value} {d : DataW H} {ps : List MemPlace} (hfM : fsB P T = some [(ti, 0), (ti, 1), (tm, 2)]) (hui : P.underlying ti = some (.int .i64)) (hT : P.underlying tm = some (.slice e)) (hfs : fsB P e = some [(tb, 0), (ts, 1)]) (hub : P.underlying tb = some .bool) (hu : P.underlying ts = some (.slice T')) (hu' : P.underlying T' = some (.int .u64)) (hc : P.cellsOf T' = 1) (hcb : P.cellsOf tb = 1) (hcs : P.cellsOf ts = 1) (hce : P.cellsOf e = 2)
    (hci : P.cellsOf ti = 1) (hcm : P.cellsOf tm = 1) (hcT : P.cellsOf T = 3) (hv : Value.okWide P W .any base T v) (h : DataW.Trod enc P W 0 (fun _ => true) true T v d ps) (hps : ∀ x ∈ ps, x.block < W.heap.size) : ∃ x : Int × Int × List (Bool × List Nat), (isM x.1 x.2.1 x.2.2).h W (fun b => b < W.heap.size) v := by
  obtain ⟨fs, huT, hsz, hget⟩ := fsB_spec hfM
  have hv' := hv
  simp only [Value.okWide, huT] at hv'
  obtain ⟨cs, rfl, _, _⟩ := hv'
  obtain ⟨fuel, hf⟩ := h
  obtain ⟨xs, m, _, hx, hl, hxl, hfe⟩ := DataW.trod_struct huT hf
  simp [Value.cells] at hl hx
  obtain ⟨f0, g0, rfl, e0⟩ := hget 0 ti 0 rfl
  obtain ⟨f1, g1, k1, e1⟩ := hget 1 _ 1 rfl
  obtain ⟨f2, g2, rfl, e2⟩ := hget 2 tm 2 rfl
  have h0 := hfe 0 f0 g0
  have h1 := hfe 1 f1 g1
  have h2 := hfe 2 f2 g2
  rw [List.getElem?_eq_getElem (by rw [hxl, hsz]; simp)] at h0 h1 h2
  rw [e0, hci] at h0
  rw [e1, k1, hci] at h1
  rw [e2, hcm] at h2
  obtain ⟨r, hr, hr1, hr2⟩ := rd_I hui h0
  obtain ⟨c, hc1, hc2, hc3⟩ := rd_I hui h1
  obtain ⟨u, ws, hu1, hw⟩ := rd_Zs hT hfs hub hu hu' hc hcb hcs hce h2 (fun y hy => hps y (by
    rw [hx.2]
    exact List.mem_flatMap.2 ⟨_, List.getElem_mem _, hy⟩))
  refine ⟨(r, c, ws), cs.toList, by simp, ?_⟩
  have hcs2 : cs.toList = [.int .i64 r, .int .i64 c, u] := by
    have hlen : cs.toList.length = 3 := by rw [← hcT]; simpa using hl
    match hq : cs.toList, hlen with
    | [p, q, t], _ =>
      have a1 : [p] = [Value.int .i64 r] := by have := hr; simpa [Value.cells, hq] using this
      have a2 : [q] = [Value.int .i64 c] := by have := hc1; simpa [Value.cells, hq] using this
      have a3 : [t] = [u] := by have := hu1; simpa [Value.cells, hq] using this
      rw [List.cons.inj a1 |>.1, List.cons.inj a2 |>.1, List.cons.inj a3 |>.1]
  rw [hcs2]
  exact ⟨⟨rfl, hr1, hr2⟩, ⟨rfl, hc2, hc3⟩, hw, trivial⟩
end
end Go.En
namespace Go.Proofs.Ythkdmhaafanjlaa
open Go.En Go.RowKit
set_option maxRecDepth 10000
open Go.ChangeShapes
open Go.WideShapes
open Go.ChangeAt
open Go.Nt
open Go.Pz
open Go.Mz
theorem opens_ModhnfIndex : Opens Try.prog Try.f3 3 := by
 intro H enc W base args ds ps hval hA hlt
 rw [Try.params3] at hA hval
 obtain ⟨v0, vs0, d0, ds0, p0, q0, hargs, rfl, rfl, h0, r0⟩ := trodAll_cons hA
 obtain ⟨rfl, rfl, rfl⟩ := trodAll_nil r0
 obtain rfl : args = #[v0] := by cases args; simp_all
 obtain ⟨x0, o0⟩ := open_M fs24 un3 un22 fs30 un4 un28 un48 (by kernel_rfl) (by kernel_rfl) (by kernel_rfl) (by kernel_rfl) (by kernel_rfl) (by kernel_rfl) (by kernel_rfl) (hval 0 24 v0 rfl rfl) h0 (fun x hx => hlt x (by simp [hx]))
 refine ⟨_, ?_, c_ModhnfIndex x0.1 x0.2.1 x0.2.2⟩
 exact ⟨o0, trivial⟩
theorem modhnfIndex_said : Rows.ModhnfIndexSaid :=
 OpenClaim.holds_of_wide 3 Try.f3 rfl rfl rfl rfl rfl rfl rfl ⟨rfl, rfl, rfl, rfl, rfl⟩ rfl rfl rfl rfl rfl (by kernel_rfl) Try.func3 (by kernel_rfl)
  (of_decide_eq_true (by kernel_rfl)) (by unfold Func.isWrapper; first | (rw [if_pos (by decide +kernel)]; kernel_rfl) | (rw [if_neg (by decide +kernel)]; exact ⟨rfl, rfl⟩))
  (fun os started H enc _ => lift_law (C := Try.checked) (s := Rows.modhnfIndexSpec) (by kernel_rfl) started (by kernel_rfl) Try.func3
   (ChangeSpec.witness6 (enc := enc) (C := Try.checked) false ⟨#[], #[.agg #[.int .i64 0, .int .i64 0, .slice none 0 0]], []⟩ 8 (by kernel_rfl) (by kernel_rfl) (by kernel_rfl) (by kernel_rfl))
   (by kernel_rfl) (by kernel_rfl) rfl rfl un4 (fun ds h => by match ds, h with | [d0], _ => rfl) opens_ModhnfIndex)
#print axioms modhnfIndex_said
end Go.Proofs.Ythkdmhaafanjlaa
