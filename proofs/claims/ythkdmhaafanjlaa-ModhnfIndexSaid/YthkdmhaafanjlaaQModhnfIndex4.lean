/- Rules and contracts, part 4 of 6. -/
import Derived.Test.YthkdmhaafanjlaaQModhnfIndex3
namespace Go.Proofs.Ythkdmhaafanjlaa
open Go.En Go.RowKit
set_option maxRecDepth 10000
set_option maxHeartbeats 4000000
open Go.Nt
theorem nat_Shl {xs : List Nat} {k : Nat} (hk : k ≤ 1048576) (hx : (List.length (words (val xs))) < 4294900000) : Ctr Try.prog 52 [isWords xs, isI (k : Int)] (isTup [isWords (words (val xs * 2 ^ k)), isB true]) := by
 refine Ctr.intro Try.func52 rfl (by kernel_rfl) Try.ntmps52 rfl fun w0 F0 => ?_
 refine .cv (Cv.wk (.k 0 rfl (.k 1 rfl .nil))) ?_
 refine .fact (Has.lenLt (Has.t (t := 0) rfl)) fun lt0 => ?_
 refine .fact (Has.okW (Has.t (t := 0) rfl)) fun ok0 => ?_
 refine .fact (Has.rngI (Has.t (t := 1) rfl)) fun lt1 => ?_
 have e1 : ((k : Int) / 64) = ((k / 64 : Nat) : Int) := by omega
 have e2 : ((k : Int) % 64).toNat = k % 64 := by omega
 refine .seq fun _ k1 => .region (st (.as (Has.cW (f := isU))) rfl ?_)
 refine st (.as (Has.cB false)) rfl ?_
 refine nl (.thn (k1 _ _ ?_))
 refine .seq fun _ k2 => ?_
 refine .seq fun _ k3 => .region (st (.mv (.t rfl)) rfl ?_)
 refine st (.ltI (.t rfl) (Has.cI 0 rfl)) rfl ?_
 refine st (.mv (.t rfl)) rfl ?_
 refine stF rfl rfl (fun hg => have hg' := BP.t hg; OK1.mv (.t rfl)) rfl ?_
 refine stF rfl rfl (fun hg => have hg' := BP.t hg; OK1.gtI (Has.g rfl hg) (Has.cI 1048576 rfl)) rfl ?_
 refine st (.pickOr (.t rfl) (fun h => Has.g rfl (ng h))) rfl ?_
 refine nl (.thn (k3 _ _ ?_))
 refine .cv (Cv.wk (.k 0 rfl (.k 1 rfl (.k 4 rfl (.k 5 rfl (.k 16 rfl .nil)))))) ?_
 refine .cond (.t rfl) (fun hc1 => ?_) (fun hc1 => ?_)
 ·have hc1 := BP.t hc1
  exfalso; first | omega | contradiction | (revert hc1; simp)
 ·have hc1 := BP.f hc1
  refine .skip ?_
  refine .thn (k2 _ _ ?_)
  refine .seq fun _ k4 => .region (st (.mv (.t rfl)) rfl ?_)
  refine st (.call (nat_trim) (.cons (.t rfl) .nil)) rfl ?_
  refine st (.as (.t rfl)) rfl ?_
  refine nl (.thn (k4 _ _ ?_))
  refine .seq fun _ k5 => .region (st (.mv (.t rfl)) rfl ?_)
  refine st (.eq (.quoI (.t rfl) (Has.cI 64 rfl) (by first | omega | assumption | exact True.intro | exact dig_lt _ _ | exact car_le _ _ _ | exact bor_le _ _ _) (by first | omega | assumption | exact True.intro | exact dig_lt _ _ | exact car_le _ _ _ | exact bor_le _ _ _) (by first | omega | assumption | exact True.intro | exact dig_lt _ _ | exact car_le _ _ _ | exact bor_le _ _ _)) (isI_eq e1)) rfl ?_
  refine st (.mv (.t rfl)) rfl (st (.remI (.t rfl) (Has.cI 64 rfl) (by first | omega | assumption | exact True.intro | exact dig_lt _ _ | exact car_le _ _ _ | exact bor_le _ _ _) (by first | omega | assumption | exact True.intro | exact dig_lt _ _ | exact car_le _ _ _ | exact bor_le _ _ _) (by first | omega | assumption | exact True.intro | exact dig_lt _ _ | exact car_le _ _ _ | exact bor_le _ _ _)) rfl ?_)
  refine st (.eq (.convIU un3 un111 (.t rfl) (by first | omega | assumption | exact True.intro | exact dig_lt _ _ | exact car_le _ _ _ | exact bor_le _ _ _) (by first | omega | assumption | exact True.intro | exact dig_lt _ _ | exact car_le _ _ _ | exact bor_le _ _ _)) (isU_eq e2)) rfl ?_
  refine st (.as (.t rfl)) rfl (st (.as (.t rfl)) rfl ?_)
  refine nl (.thn (k5 _ _ ?_))
  refine .cv (Cv.wk (.k 0 rfl (.k 4 rfl (.k 5 rfl (.k 6 rfl (.k 7 rfl .nil)))))) ?_
  refine .seq fun _ k6 => .region (st (.mv (.t rfl)) rfl ?_)
  refine st (.len sl28 (.t rfl)) rfl ?_
  refine st (.mv (.t rfl)) rfl (st (.addI (.t rfl) (.t rfl) (by first | omega | assumption | exact True.intro | exact dig_lt _ _ | exact car_le _ _ _ | exact bor_le _ _ _) (by first | omega | assumption | exact True.intro | exact dig_lt _ _ | exact car_le _ _ _ | exact bor_le _ _ _)) rfl ?_)
  refine st (.addI (.t rfl) (Has.cI 1 rfl) (by first | omega | assumption | exact True.intro | exact dig_lt _ _ | exact car_le _ _ _ | exact bor_le _ _ _) (by first | omega | assumption | exact True.intro | exact dig_lt _ _ | exact car_le _ _ _ | exact bor_le _ _ _)) rfl ?_
  refine .make (f := isU) (u := 0) (n := (List.length (words (val xs))) + k / 64 + 1) (c := (List.length (words (val xs))) + k / 64 + 1) sl28 ty48 zero48 (fun _ _ => ⟨⟨rfl, by decide⟩, trivial⟩) by48 (Has.t' rfl rfl) (Has.t' rfl rfl) ⟨by omega, by omega⟩ rfl fun b1 => ?_
  refine st (.as (.t rfl)) rfl ?_
  refine nl (.thn (k6 _ _ ?_))
  refine .cv (Cv.wk (.k 0 rfl (.k 4 rfl (.k 5 rfl (.k 6 rfl (.k 7 rfl (.k 8 rfl .nil))))))) ?_
  refine .seq fun _ k7 => ?_
  refine .seq fun _ k8 => .region (st (.mv (.t rfl)) rfl ?_)
  refine st (.len sl28 (.t rfl)) rfl (st (.mv (Has.cI 0 rfl)) rfl ?_)
  refine nl (.thn (k8 _ _ ?_))
  refine .block ?_
  refine .loopF [4, 5, 6, 7, 8, 30, 31] (fun (z : { i : Nat // i ≤ (List.length (words (val xs))) }) => match z with | ⟨i, hI⟩ => [(32, isI (i : Int))]) (fun M => fun (z : { i : Nat // i ≤ (List.length (words (val xs))) }) => match z with | ⟨i, hI⟩ => [(some b1, cellM (List.map isU (wordsN ((List.length (words (val xs))) + k / 64 + 1) (val xs % W ^ i * 2 ^ k))))]) (fun (z : { i : Nat // i ≤ (List.length (words (val xs))) }) => match z with | ⟨i, hI⟩ => (List.length (words (val xs))) - i) (⟨0, Nat.zero_le _⟩) (Cv.mem (.cons (t := 32) (Has.t' rfl ?_) (.k 4 rfl (.k 5 rfl (.k 6 rfl (.k 7 rfl (.k 8 rfl (.k 30 rfl (.k 31 rfl .nil)))))))) ?_) ?_
  ·rfl
  ·exact memL_eq (shlStart _ _ _)
  rintro ⟨i, hI⟩ K9 hK9
  refine .cv (Cv.wk (.k 32 rfl (.k 4 rfl (.k 5 rfl (.k 6 rfl (.k 7 rfl (.k 8 rfl (.k 30 rfl (.k 31 rfl .nil))))))))) ?_
  refine .memEq (M' := [(some b1, cellM (List.map isU (wordsN ((List.length (words (val xs))) + k / 64 + 1) (val xs % W ^ i * 2 ^ k))))]) rfl ?_
  have wl : (wordsN ((List.length (words (val xs))) + k / 64 + 1) (val xs % W ^ i * 2 ^ k)).length = (List.length (words (val xs))) + k / 64 + 1 := wordsN_len _ _
  have ek : (((k / 64 : Nat) : Int) + (i : Int)).toNat = k / 64 + i := by omega
  refine .seq fun _ k10 => .region (st (.ltI (.t rfl) (.t rfl)) rfl ?_)
  refine nl (.thn (k10 _ _ ?_))
  refine .seq fun _ k11 => ?_
  refine .cond (.t rfl) (fun hc2 => ?_) (fun hc2 => ?_)
  ·have hc2 := BP.t hc2
   refine .skip ?_
   refine .thn (k11 _ _ ?_)
   refine .seq fun _ k12 => ?_
   refine .block ?_
   refine .seq fun _ k13 => .region (st (.mv (.t rfl)) rfl ?_)
   refine st (.ixP sl28 ty48 (.t rfl) (.t rfl) ⟨by omega, by omega⟩ (getD_some (d := 0) (by first | omega | (simp only [Int.toNat_natCast, List.length_set]; omega)))) rfl ?_
   refine st (.eq (.loadP1 (.t rfl) ty48) (isU_eq (getD_words _ i))) rfl ?_
   refine st (.as (.t rfl)) rfl (st (.as (.t rfl)) rfl ?_)
   refine nl (.thn (k13 _ _ ?_))
   refine .seq fun _ k14 => .region (st (.mv (.t rfl)) rfl ?_)
   refine st (.mv (.t rfl)) rfl (st (.mv (.t rfl)) rfl ?_)
   refine st (.addI (.t rfl) (.t rfl) (by first | omega | assumption | exact True.intro | exact dig_lt _ _ | exact car_le _ _ _ | exact bor_le _ _ _) (by first | omega | assumption | exact True.intro | exact dig_lt _ _ | exact car_le _ _ _ | exact bor_le _ _ _)) rfl ?_
   refine st (.eq (.ixWin sl28 ty48 (.t rfl) (.t rfl) ⟨by omega, by omega⟩) (isPtr_eq (by first | exact ixo0 | exact ixo2 | exact ixo1))) rfl ?_
   refine st (.eq (.load1 (.t rfl) (i := 0) rfl ty48 (map_some (getD_some (d := 0) (by first | omega | (simp only [Int.toNat_natCast, List.length_set]; omega))))) ((show isU _ = isU (val xs % W ^ i * 2 ^ k / W ^ (k / 64 + i)) from isU_eq (by rw [ek]; exact shl_get (by omega))))) rfl ?_
   refine st (.mv (.t rfl)) rfl (st (.mv (.t rfl)) rfl ?_)
   refine st (.shlUU (.t rfl) (.t rfl) (by first | omega | assumption | exact True.intro | exact dig_lt _ _ | exact car_le _ _ _ | exact bor_le _ _ _)) rfl ?_
   refine st (.orU (.t rfl) (.t rfl)) rfl ?_
   refine st (.eq (.ixWin sl28 ty48 (.t rfl) (.t rfl) ⟨by omega, by omega⟩) (isPtr_eq (by first | exact ixo0 | exact ixo2 | exact ixo1))) rfl ?_
   refine .storeM (.t rfl) (.t rfl) (i := 0) rfl ty48 (by first | omega | (simp only [Int.toNat_natCast, List.length_set, List.length_replicate]; omega)) (M' := [(_, _)]) rfl ?_
   refine nl (.thn (k14 _ _ ?_))
   refine .seq fun _ k15 => .region (st (.mv (.t rfl)) rfl ?_)
   refine st (.gtU (.t rfl) (Has.cU 0 rfl)) rfl ?_
   refine nl (.thn (k15 _ _ ?_))
   refine .cond (.t rfl) (fun hc3 => ?_) (fun hc3 => ?_)
   ·have hc3 := BP.t hc3
    refine .region (st (.mv (.t rfl)) rfl ?_)
    refine st (.mv (.t rfl)) rfl (st (.mv (.t rfl)) rfl ?_)
    refine st (.addI (.t rfl) (.t rfl) (by first | omega | assumption | exact True.intro | exact dig_lt _ _ | exact car_le _ _ _ | exact bor_le _ _ _) (by first | omega | assumption | exact True.intro | exact dig_lt _ _ | exact car_le _ _ _ | exact bor_le _ _ _)) rfl ?_
    refine st (.addI (.t rfl) (Has.cI 1 rfl) (by first | omega | assumption | exact True.intro | exact dig_lt _ _ | exact car_le _ _ _ | exact bor_le _ _ _) (by first | omega | assumption | exact True.intro | exact dig_lt _ _ | exact car_le _ _ _ | exact bor_le _ _ _)) rfl ?_
    refine st (.mv (.t rfl)) rfl (st (.mv (.t rfl)) rfl ?_)
    refine st (.subU' (Has.cU 64 rfl) (.t rfl) (by first | omega | assumption | exact True.intro | exact dig_lt _ _ | exact car_le _ _ _ | exact bor_le _ _ _) (by first | omega | assumption | exact True.intro | exact dig_lt _ _ | exact car_le _ _ _ | exact bor_le _ _ _)) rfl ?_
    refine st (.shrUU (.t rfl) (.t rfl) (by first | omega | assumption | exact True.intro | exact dig_lt _ _ | exact car_le _ _ _ | exact bor_le _ _ _)) rfl ?_
    refine st (.eq (.ixWin sl28 ty48 (.t rfl) (.t rfl) ⟨by omega, by omega⟩) (isPtr_eq (by first | exact ixo0 | exact ixo2 | exact ixo1))) rfl ?_
    refine .storeM (.t rfl) (.t rfl) (i := 0) rfl ty48 (by first | omega | (simp only [Int.toNat_natCast, List.length_set, List.length_replicate]; omega)) (M' := [(_, _)]) rfl ?_
    refine nl ?_
    refine .bln ?_
    refine .thn (k12 _ _ ?_)
    refine .region (st (.addI (.t rfl) (Has.cI 1 rfl) (by first | omega | assumption | exact True.intro | exact dig_lt _ _ | exact car_le _ _ _ | exact bor_le _ _ _) (by first | omega | assumption | exact True.intro | exact dig_lt _ _ | exact car_le _ _ _ | exact bor_le _ _ _)) rfl ?_)
    refine st (.mv (.t rfl)) rfl ?_
    refine nl ?_
    refine .thn ?_
    refine hK9 (⟨i + 1, by omega⟩) _ _ ?_ (Cv.mem (.cons (t := 32) (Has.t' rfl ?_) (.k 4 rfl (.k 5 rfl (.k 6 rfl (.k 7 rfl (.k 8 rfl (.k 30 rfl (.k 31 rfl .nil)))))))) ?_)
    ·show (List.length (words (val xs))) - (i + 1) < (List.length (words (val xs))) - i; omega
    ·rfl
    ·exact memL_eq (by rw [ek, shl_set1 (by omega) rfl]; exact shl_set2 (by omega) (by omega) (by omega) rfl)
   ·have hc3 := BP.f hc3
    refine .skip ?_
    refine .bln ?_
    refine .thn (k12 _ _ ?_)
    refine .region (st (.addI (.t rfl) (Has.cI 1 rfl) (by first | omega | assumption | exact True.intro | exact dig_lt _ _ | exact car_le _ _ _ | exact bor_le _ _ _) (by first | omega | assumption | exact True.intro | exact dig_lt _ _ | exact car_le _ _ _ | exact bor_le _ _ _)) rfl ?_)
    refine st (.mv (.t rfl)) rfl ?_
    refine nl ?_
    refine .thn ?_
    refine hK9 (⟨i + 1, by omega⟩) _ _ ?_ (Cv.mem (.cons (t := 32) (Has.t' rfl ?_) (.k 4 rfl (.k 5 rfl (.k 6 rfl (.k 7 rfl (.k 8 rfl (.k 30 rfl (.k 31 rfl .nil)))))))) ?_)
    ·show (List.length (words (val xs))) - (i + 1) < (List.length (words (val xs))) - i; omega
    ·rfl
    ·exact memL_eq (by rw [ek, shl_set1 (by omega) rfl]; exact shl_end0 (by omega) (by omega))
  ·have hc2 := BP.f hc2
   refine .exit ?_
   refine .the ?_
   refine .the ?_
   refine .blh ?_
   refine .thn (k7 _ _ ?_)
   refine .cv (Cv.wk (.k 4 rfl (.k 5 rfl (.k 8 rfl .nil)))) ?_
   refine .seq fun _ k16 => ?_
   refine .cv (Cv.freeze' (t := 8) (i := 0) (ys := wordsN ((List.length (words (val xs))) + k / 64 + 1) (val xs % W ^ i * 2 ^ k)) rfl rfl rfl (by simp; omega) (freeze_all (by rw [wl]))) ?_
   refine .memEq (M' := []) rfl ?_
   refine .cv (Cv.wk (.k 4 rfl (.k 5 rfl (.k 8 rfl .nil)))) ?_
   refine .region (st (.mv (.t rfl)) rfl ?_)
   refine st (.call (nat_normal) (.cons (.t rfl) .nil)) rfl ?_
   refine st (.as (.t rfl)) rfl (st (.as (Has.cB true)) rfl ?_)
   refine nl (.thn (k16 _ _ ?_))
   refine .ret ?_
   refine rtN (.inl rfl) Try.results52 rfl rfl (.tmp (Has.t' rfl ?_) (.tmp (Has.t' rfl ?_) .nil))
   ·obtain rfl : i = (List.length (words (val xs))) := (by omega); exact SlM_eq (shlEnd rfl)
   ·rfl
theorem nat_Shr {xs : List Nat} {k : Nat} (hk : k < 9223372036854775808) (hx : (List.length (words (val xs))) < 4294900000) : Ctr Try.prog 54 [isWords xs, isI (k : Int)] (isTup [isWords (words (val xs / 2 ^ k)), isB true]) := by
 refine Ctr.intro Try.func54 rfl (by kernel_rfl) Try.ntmps54 rfl fun w0 F0 => ?_
 refine .cv (Cv.wk (.k 0 rfl (.k 1 rfl .nil))) ?_
 refine .fact (Has.lenLt (Has.t (t := 0) rfl)) fun lt0 => ?_
 refine .fact (Has.okW (Has.t (t := 0) rfl)) fun ok0 => ?_
 refine .fact (Has.rngI (Has.t (t := 1) rfl)) fun lt1 => ?_
 have e1 : ((k : Int) / 64) = ((k / 64 : Nat) : Int) := by omega
 have e2 : ((k : Int) % 64).toNat = k % 64 := by omega
 have nX := nw_div (val xs) (k / 64)
 refine .seq fun _ k1 => .region (st (.as (Has.cW (f := isU))) rfl ?_)
 refine st (.as (Has.cB false)) rfl ?_
 refine nl (.thn (k1 _ _ ?_))
 refine .seq fun _ k2 => ?_
 refine .seq fun _ k3 => .region (st (.mv (.t rfl)) rfl ?_)
 refine st (.ltI (.t rfl) (Has.cI 0 rfl)) rfl ?_
 refine nl (.thn (k3 _ _ ?_))
 refine .cond (.t rfl) (fun hc1 => ?_) (fun hc1 => ?_)
 ·have hc1 := BP.t hc1
  exfalso; first | omega | contradiction | (revert hc1; simp)
 ·have hc1 := BP.f hc1
  refine .skip ?_
  refine .thn (k2 _ _ ?_)
  refine .seq fun _ k4 => .region (st (.mv (.t rfl)) rfl ?_)
  refine st (.call (nat_trim) (.cons (.t rfl) .nil)) rfl ?_
  refine st (.as (.t rfl)) rfl ?_
  refine nl (.thn (k4 _ _ ?_))
  refine .seq fun _ k5 => .region (st (.mv (.t rfl)) rfl ?_)
  refine st (.eq (.quoI (.t rfl) (Has.cI 64 rfl) (by first | omega | assumption | exact True.intro | exact dig_lt _ _ | exact car_le _ _ _ | exact bor_le _ _ _) (by first | omega | assumption | exact True.intro | exact dig_lt _ _ | exact car_le _ _ _ | exact bor_le _ _ _) (by first | omega | assumption | exact True.intro | exact dig_lt _ _ | exact car_le _ _ _ | exact bor_le _ _ _)) (isI_eq e1)) rfl ?_
  refine st (.mv (.t rfl)) rfl (st (.remI (.t rfl) (Has.cI 64 rfl) (by first | omega | assumption | exact True.intro | exact dig_lt _ _ | exact car_le _ _ _ | exact bor_le _ _ _) (by first | omega | assumption | exact True.intro | exact dig_lt _ _ | exact car_le _ _ _ | exact bor_le _ _ _) (by first | omega | assumption | exact True.intro | exact dig_lt _ _ | exact car_le _ _ _ | exact bor_le _ _ _)) rfl ?_)
  refine st (.eq (.convIU un3 un111 (.t rfl) (by first | omega | assumption | exact True.intro | exact dig_lt _ _ | exact car_le _ _ _ | exact bor_le _ _ _) (by first | omega | assumption | exact True.intro | exact dig_lt _ _ | exact car_le _ _ _ | exact bor_le _ _ _)) (isU_eq e2)) rfl ?_
  refine st (.as (.t rfl)) rfl (st (.as (.t rfl)) rfl ?_)
  refine nl (.thn (k5 _ _ ?_))
  refine .cv (Cv.wk (.k 0 rfl (.k 4 rfl (.k 5 rfl (.k 6 rfl (.k 7 rfl .nil)))))) ?_
  refine .seq fun _ k6 => ?_
  refine .seq fun _ k7 => .region (st (.mv (.t rfl)) rfl ?_)
  refine st (.mv (.t rfl)) rfl (st (.len sl28 (.t rfl)) rfl ?_)
  refine st (.geI (.t rfl) (.t rfl)) rfl ?_
  refine nl (.thn (k7 _ _ ?_))
  refine .cond (.t rfl) (fun hc2 => ?_) (fun hc2 => ?_)
  ·have hc2 := BP.t hc2
   refine .seq fun _ k8 => .region (st (.as (Has.cW (f := isU))) rfl ?_)
   refine st (.as (Has.cB true)) rfl ?_
   refine nl (.thn (k8 _ _ ?_))
   refine .ret ?_
   refine .thr ?_
   refine rtN (.inl rfl) Try.results54 rfl rfl (.tmp (Has.t' rfl ?_) (.tmp (Has.t' rfl ?_) .nil))
   ·exact SlM_eq (shr_none (by omega))
   ·rfl
  ·have hc2 := BP.f hc2
   refine .skip ?_
   refine .thn (k6 _ _ ?_)
   refine .seq fun _ k9 => .region (st (.mv (.t rfl)) rfl ?_)
   refine st (.mv (.t rfl)) rfl (st (.eq (.slLM sl28 ty48 (.t rfl) (.t rfl) ⟨by omega, by omega⟩) (SlM_eq (drop_words (val xs) (k / 64)))) rfl ?_)
   refine st (.as (.t rfl)) rfl ?_
   refine nl (.thn (k9 _ _ ?_))
   refine .cv (Cv.wk (.k 0 rfl (.k 4 rfl (.k 5 rfl (.k 7 rfl .nil))))) ?_
   refine .seq fun _ k10 => .region (st (.mv (.t rfl)) rfl ?_)
   refine st (.len sl28 (.t rfl)) rfl ?_
   refine .make (f := isU) (u := 0) (n := (List.length (words (val xs / W ^ (k / 64))))) (c := (List.length (words (val xs / W ^ (k / 64))))) sl28 ty48 zero48 (fun _ _ => ⟨⟨rfl, by decide⟩, trivial⟩) by48 (Has.t' rfl rfl) (Has.t' rfl rfl) ⟨by omega, by omega⟩ rfl fun b1 => ?_
   refine st (.as (.t rfl)) rfl ?_
   refine nl (.thn (k10 _ _ ?_))
   refine .seq fun _ k11 => ?_
   refine .seq fun _ k12 => .region (st (.mv (.t rfl)) rfl ?_)
   refine st (.len sl28 (.t rfl)) rfl (st (.mv (Has.cI 0 rfl)) rfl ?_)
   refine nl (.thn (k12 _ _ ?_))
   refine .block ?_
   refine .loopF [0, 4, 5, 7, 8, 30, 31] (fun (z : { i : Nat // i ≤ (List.length (words (val xs / W ^ (k / 64)))) }) => match z with | ⟨i, hI⟩ => [(32, isI (i : Int))]) (fun M => fun (z : { i : Nat // i ≤ (List.length (words (val xs / W ^ (k / 64)))) }) => match z with | ⟨i, hI⟩ => [(some b1, cellM (List.map isU (wpart ((val xs / W ^ (k / 64)) / 2 ^ (k % 64)) i ((List.length (words (val xs / W ^ (k / 64))))))))]) (fun (z : { i : Nat // i ≤ (List.length (words (val xs / W ^ (k / 64)))) }) => match z with | ⟨i, hI⟩ => (List.length (words (val xs / W ^ (k / 64)))) - i) (⟨0, Nat.zero_le _⟩) (Cv.mem (.cons (t := 32) (Has.t' rfl ?_) (.k 0 rfl (.k 4 rfl (.k 5 rfl (.k 7 rfl (.k 8 rfl (.k 30 rfl (.k 31 rfl .nil)))))))) ?_) ?_
   ·rfl
   ·exact memL_eq (wpart_zero _ _)
   rintro ⟨i, hI⟩ K13 hK13
   refine .cv (Cv.wk (.k 32 rfl (.k 0 rfl (.k 4 rfl (.k 5 rfl (.k 7 rfl (.k 8 rfl (.k 30 rfl (.k 31 rfl .nil))))))))) ?_
   refine .memEq (M' := [(some b1, cellM (List.map isU (wpart ((val xs / W ^ (k / 64)) / 2 ^ (k % 64)) i ((List.length (words (val xs / W ^ (k / 64))))))))]) rfl ?_
   have wl : (wpart ((val xs / W ^ (k / 64)) / 2 ^ (k % 64)) i ((List.length (words (val xs / W ^ (k / 64)))))).length = (List.length (words (val xs / W ^ (k / 64)))) := wpart_len (by omega)
   refine .seq fun _ k14 => .region (st (.ltI (.t rfl) (.t rfl)) rfl ?_)
   refine nl (.thn (k14 _ _ ?_))
   refine .seq fun _ k15 => ?_
   refine .cond (.t rfl) (fun hc3 => ?_) (fun hc3 => ?_)
   ·have hc3 := BP.t hc3
    refine .skip ?_
    refine .thn (k15 _ _ ?_)
    refine .seq fun _ k16 => ?_
    refine .block ?_
    refine .seq fun _ k17 => .region (st (.mv (.t rfl)) rfl ?_)
    refine st (.ixP sl28 ty48 (.t rfl) (.t rfl) ⟨by omega, by omega⟩ (getD_some (d := 0) (by first | omega | (simp only [Int.toNat_natCast, List.length_set]; omega)))) rfl ?_
    refine st (.eq (.loadP1 (.t rfl) ty48) (isU_eq (getD_words _ i))) rfl ?_
    refine st (.as (.t rfl)) rfl (st (.as (.t rfl)) rfl ?_)
    refine nl (.thn (k17 _ _ ?_))
    refine .seq fun _ k18 => .region (st (.mv (.t rfl)) rfl ?_)
    refine st (.mv (.t rfl)) rfl (st (.mv (.t rfl)) rfl ?_)
    refine st (.mv (.t rfl)) rfl (st (.shrUU (.t rfl) (.t rfl) (by first | omega | assumption | exact True.intro | exact dig_lt _ _ | exact car_le _ _ _ | exact bor_le _ _ _)) rfl ?_)
    refine st (.eq (.ixWin sl28 ty48 (.t rfl) (.t rfl) ⟨by omega, by omega⟩) (isPtr_eq (by first | exact ixo0 | exact ixo2 | exact ixo1))) rfl ?_
    refine .storeM (.t rfl) (.t rfl) (i := 0) rfl ty48 (by first | omega | (simp only [Int.toNat_natCast, List.length_set, List.length_replicate]; omega)) (M' := [(_, _)]) rfl ?_
    refine nl (.thn (k18 _ _ ?_))
    refine .seq fun _ k19 => .region (st (.mv (.t rfl)) rfl ?_)
    refine st (.gtU (.t rfl) (Has.cU 0 rfl)) rfl ?_
    refine st (.mv (.t rfl)) rfl ?_
    refine stT rfl rfl (fun hg => have hg' := BP.t hg; OK1.mv (.t rfl)) rfl ?_
    refine stT rfl rfl (fun hg => have hg' := BP.t hg; OK1.addI (Has.g rfl hg) (Has.cI 1 rfl) (by first | omega | assumption | exact True.intro | exact dig_lt _ _ | exact car_le _ _ _ | exact bor_le _ _ _) (by first | omega | assumption | exact True.intro | exact dig_lt _ _ | exact car_le _ _ _ | exact bor_le _ _ _)) rfl ?_
    refine stT rfl rfl (fun hg => have hg' := BP.t hg; OK1.mv (.t rfl)) rfl ?_
    refine stT rfl rfl (fun hg => have hg' := BP.t hg; OK1.len sl28 (Has.g rfl hg)) rfl ?_
    refine stT rfl rfl (fun hg => have hg' := BP.t hg; OK1.ltI (Has.g rfl hg) (Has.g rfl hg)) rfl ?_
    refine st (.pickAnd (.t rfl) (fun h => Has.g rfl h)) rfl ?_
    refine nl (.thn (k19 _ _ ?_))
    refine .cond (.t rfl) (fun hc4 => ?_) (fun hc4 => ?_)
    ·have hc4 := BP.t hc4
     refine .dr ?_
     refine .s [] rfl rfl rfl (.o rfl (.mv (.t rfl))) ?_
     refine .s [] rfl rfl rfl (.o rfl (.mv (.t rfl))) ?_
     refine .s [52, 53] rfl rfl rfl (.o rfl (.eq (.ixWin sl28 ty48 (.t rfl) (.t rfl) ⟨by omega, by omega⟩) (isPtr_eq (by first | exact ixo0 | exact ixo2 | exact ixo1)))) ?_
     refine .s [54] rfl rfl rfl (.o rfl (.load1 (.t rfl) (i := 0) rfl ty48 (map_some (getD_some (d := 0) (by first | omega | (simp only [Int.toNat_natCast, List.length_set]; omega)))))) ?_
     refine .s [] rfl rfl rfl (.o rfl (.mv (.t rfl))) ?_
     refine .s [] rfl rfl rfl (.o rfl (.mv (.t rfl))) ?_
     refine .s [57] rfl rfl rfl (.o rfl (.addI (.t rfl) (Has.cI 1 rfl) (by first | omega | assumption | exact True.intro | exact dig_lt _ _ | exact car_le _ _ _ | exact bor_le _ _ _) (by first | omega | assumption | exact True.intro | exact dig_lt _ _ | exact car_le _ _ _ | exact bor_le _ _ _))) ?_
     refine .s [56, 58] rfl rfl rfl (.o rfl (.ixP sl28 ty48 (.t rfl) (.t rfl) ⟨by omega, by omega⟩ (getD_some (d := 0) (by first | omega | (simp only [Int.toNat_natCast, List.length_set]; omega))))) ?_
     refine .s [59] rfl rfl rfl (.o rfl (.eq (.loadP1 (.t rfl) ty48) ((show isU _ = isU (dig (val xs / W ^ (k / 64)) (i + 1)) from isU_eq (getD_words _ (i + 1)))))) ?_
     refine .s [] rfl rfl rfl (.o rfl (.mv (.t rfl))) ?_
     refine .s [61] rfl rfl rfl (.o rfl (.subU' (Has.cU 64 rfl) (.t rfl) (by first | omega | assumption | exact True.intro | exact dig_lt _ _ | exact car_le _ _ _ | exact bor_le _ _ _) (by first | omega | assumption | exact True.intro | exact dig_lt _ _ | exact car_le _ _ _ | exact bor_le _ _ _))) ?_
     refine .s [60, 62] rfl rfl rfl (.o rfl (.shlUU (.t rfl) (.t rfl) (by first | omega | assumption | exact True.intro | exact dig_lt _ _ | exact car_le _ _ _ | exact bor_le _ _ _))) ?_
     refine .fin (n := 12) mixed (by kernel_rfl) (by kernel_rfl) (by kernel_rfl) ?_
     refine .cv (Cv.wk (.k 0 rfl (.k 4 rfl (.k 5 rfl (.k 7 rfl (.k 8 rfl (.k 30 rfl (.k 31 rfl (.k 32 rfl (.k 33 rfl (.k 34 rfl (.k 35 rfl (.k 36 rfl (.k 9 rfl (.k 10 rfl (.k 37 rfl (.k 38 rfl (.k 39 rfl (.k 40 rfl (.k 41 rfl (.k 42 rfl (.k 43 rfl (.k 44 rfl (.k 45 rfl (.k 46 rfl (.k 47 rfl (.k 48 rfl (.k 49 rfl (.k 50 rfl (.k 51 rfl (.k 52 rfl (.k 53 rfl (.k 54 rfl (.k 55 rfl (.k 56 rfl (.k 57 rfl (.k 58 rfl (.k 59 rfl (.k 60 rfl (.k 61 rfl (.k 62 rfl (.k 63 rfl .nil)))))))))))))))))))))))))))))))))))))))))) ?_
     refine st (.orU (.t rfl) (.t rfl)) rfl ?_
     refine st (.eq (.ixWin sl28 ty48 (.t rfl) (.t rfl) ⟨by omega, by omega⟩) (isPtr_eq (by first | exact ixo0 | exact ixo2 | exact ixo1))) rfl ?_
     refine .storeM (.t rfl) (.t rfl) (i := 0) rfl ty48 (by first | omega | (simp only [Int.toNat_natCast, List.length_set, List.length_replicate]; omega)) (M' := [(_, _)]) rfl ?_
     refine nl ?_
     refine .bln ?_
     refine .thn (k16 _ _ ?_)
     refine .region (st (.addI (.t rfl) (Has.cI 1 rfl) (by first | omega | assumption | exact True.intro | exact dig_lt _ _ | exact car_le _ _ _ | exact bor_le _ _ _) (by first | omega | assumption | exact True.intro | exact dig_lt _ _ | exact car_le _ _ _ | exact bor_le _ _ _)) rfl ?_)
     refine st (.mv (.t rfl)) rfl ?_
     refine nl ?_
     refine .thn ?_
     refine hK13 (⟨i + 1, by omega⟩) _ _ ?_ (Cv.mem (.cons (t := 32) (Has.t' rfl ?_) (.k 0 rfl (.k 4 rfl (.k 5 rfl (.k 7 rfl (.k 8 rfl (.k 30 rfl (.k 31 rfl .nil)))))))) ?_)
     ·show (List.length (words (val xs / W ^ (k / 64)))) - (i + 1) < (List.length (words (val xs / W ^ (k / 64)))) - i; omega
     ·rfl
     ·exact memL_eq (shr_step2 (by omega) (by omega))
    ·have hc4 := BP.f hc4
     refine .skip ?_
     refine .bln ?_
     refine .thn (k16 _ _ ?_)
     refine .region (st (.addI (.t rfl) (Has.cI 1 rfl) (by first | omega | assumption | exact True.intro | exact dig_lt _ _ | exact car_le _ _ _ | exact bor_le _ _ _) (by first | omega | assumption | exact True.intro | exact dig_lt _ _ | exact car_le _ _ _ | exact bor_le _ _ _)) rfl ?_)
     refine st (.mv (.t rfl)) rfl ?_
     refine nl ?_
     refine .thn ?_
     refine hK13 (⟨i + 1, by omega⟩) _ _ ?_ (Cv.mem (.cons (t := 32) (Has.t' rfl ?_) (.k 0 rfl (.k 4 rfl (.k 5 rfl (.k 7 rfl (.k 8 rfl (.k 30 rfl (.k 31 rfl .nil)))))))) ?_)
     ·show (List.length (words (val xs / W ^ (k / 64)))) - (i + 1) < (List.length (words (val xs / W ^ (k / 64)))) - i; omega
     ·rfl
     ·exact memL_eq (shr_step1 (by omega) (by omega) rfl (by omega))
   ·have hc3 := BP.f hc3
    refine .exit ?_
    refine .the ?_
    refine .the ?_
    refine .blh ?_
    refine .thn (k11 _ _ ?_)
    refine .cv (Cv.wk (.k 4 rfl (.k 5 rfl (.k 8 rfl .nil)))) ?_
    refine .seq fun _ k20 => ?_
    refine .cv (Cv.freeze' (t := 8) (i := 0) (ys := wordsN ((List.length (words (val xs / W ^ (k / 64))))) ((val xs / W ^ (k / 64)) / 2 ^ (k % 64))) rfl rfl rfl (by simp; omega) (fz_wpart' (by omega))) ?_
    refine .memEq (M' := []) rfl ?_
    refine .cv (Cv.wk (.k 4 rfl (.k 5 rfl (.k 8 rfl .nil)))) ?_
    refine .region (st (.mv (.t rfl)) rfl ?_)
    refine st (.call (nat_normal) (.cons (.t rfl) .nil)) rfl ?_
    refine st (.as (.t rfl)) rfl (st (.as (Has.cB true)) rfl ?_)
    refine nl (.thn (k20 _ _ ?_))
    refine .ret ?_
    refine rtN (.inl rfl) Try.results54 rfl rfl (.tmp (Has.t' rfl ?_) (.tmp (Has.t' rfl ?_) .nil))
    ·exact SlM_eq (shr_end rfl)
    ·rfl
theorem clone_NatO {xs : List Nat} (hx : xs.length ≤ 4294967296) : CtrO Try.prog 83 [isWords xs] isU 0 xs := by
 refine CtrO.intro Try.func83 rfl (by kernel_rfl) Try.ntmps83 rfl fun w0 F0 => ?_
 refine .cv (Cv.wk (.k 0 rfl .nil)) ?_
 refine .fact (Has.lenLt (Has.t (t := 0) rfl)) fun lt0 => ?_
 refine .fact (Has.okW (Has.t (t := 0) rfl)) fun ok0 => ?_
 refine .seq fun _ k1 => .region (st (.as (Has.cW (f := isU))) rfl ?_)
 refine nl (.thn (k1 _ _ ?_))
 refine .seq fun _ k2 => ?_
 refine .seq fun _ k3 => .region (st (.mv (.t rfl)) rfl ?_)
 refine .eqNil sl28 (.t rfl) rfl fun bn1 hn1 => ?_
 refine nl (.thn (k3 _ _ ?_))
 refine .cond (.t rfl) (fun hc2 => ?_) (fun hc2 => ?_)
 ·have hc2 := BP.t hc2
  refine .seq fun _ k4 => .region (st (.as (Has.cW (f := isU))) rfl ?_)
  refine nl (.thn (k4 _ _ ?_))
  refine .ret ?_
  refine .thr ?_
  refine rtO0 (.inl rfl) Try.results83 rfl ?_ (.tmp (Has.t' rfl ?_) .nil)
  ·exact hn1 hc2
  ·rfl
 ·have hc2 := BP.f hc2
  refine .skip ?_
  refine .thn (k2 _ _ ?_)
  refine .seq fun _ k5 => .region (.buildS0 sl28 ty48 rfl ?_)
  refine st (.mv (.t rfl)) rfl ?_
  refine .appendO (f := isU) (u := 0) sl28 ty48 zero48 (fun _ _ => ⟨⟨rfl, by decide⟩, trivial⟩) by48 (.t rfl) (.t rfl) (by first | omega | assumption) rfl (fun hO3 => ?_) (fun hO3 b1 cb1 jb1 => ?_)
  ·skip
   refine st (.as (.t rfl)) rfl ?_
   refine nl (.thn (k5 _ _ ?_))
   refine .cv (Cv.wk (.k 2 rfl .nil)) ?_
   refine .ret ?_
   refine rtO0 (.inl rfl) Try.results83 rfl ?_ (.tmp (Has.t' rfl ?_) .nil)
   ·exact hO3
   ·rfl
  ·skip
   refine st (.as (.t rfl)) rfl ?_
   refine nl (.thn (k5 _ _ ?_))
   refine .cv (Cv.wk (.k 2 rfl .nil)) ?_
   refine .ret ?_
   refine rtO1 (.inl rfl) Try.results83 rfl ?_ (b := b1) (c := cb1) (k := jb1) (i := 0) ?_ (.tmp (Has.t' rfl ?_) .nil)
   ·exact hO3
   ·rfl
   ·rfl
theorem nat_trimW {A k c : Nat} (hA : A ≠ 0) : CtrM Try.prog 70 (fun b0 => [isWin b0 0 ((List.length (words A))) c]) (cellM (List.map isU (words A ++ List.replicate k 0))) (cellM (List.map isU (words A ++ List.replicate k 0))) (fun b0 => isWin b0 0 ((List.length (words A))) c) := by
 refine CtrM.intro Try.func70 rfl (by kernel_rfl) Try.ntmps70 (fun _ => rfl) fun w0 F0 b0 => ?_
 refine .cv (Cv.wk (.k 0 rfl .nil)) ?_
 refine .fact (Has.lenLt (Has.t (t := 0) rfl)) fun lt0 => ?_
 refine .fact (Has.winLe (Has.t (t := 0) rfl)) fun lw0 => ?_
 have nA := nw_pos hA
 refine .seq fun _ k1 => .region (st (.as (Has.cW (f := isU))) rfl ?_)
 refine nl (.thn (k1 _ _ ?_))
 refine .seq fun _ k2 => .region (st (.mv (.t rfl)) rfl ?_)
 refine st (.len sl28 (.t rfl)) rfl (st (.as (.t rfl)) rfl ?_)
 refine nl (.thn (k2 _ _ ?_))
 refine .seq fun _ k3 => ?_
 refine .block ?_
 refine .loopF [0, 2] (fun (_ : Unit) => [(3, isI ((List.length (words A)) : Int))]) (fun M => fun (_ : Unit) => M) (fun (_ : Unit) => 0) (()) (Cv.mem (.cons (t := 3) (Has.t' rfl ?_) (.k 0 rfl (.k 2 rfl .nil))) ?_) ?_
 ·rfl
 ·rfl
 rintro _ K4 hK4
 refine .cv (Cv.wk (.k 3 rfl (.k 0 rfl (.k 2 rfl .nil)))) ?_
 refine .seq fun _ k5 => ?_
 refine .seq fun _ k6 => .region (st (.mv (.t rfl)) rfl ?_)
 refine st (.gtI (.t rfl) (Has.cI 0 rfl)) rfl ?_
 refine st (.mv (.t rfl)) rfl ?_
 refine stT rfl rfl (fun hg => have hg' := BP.t hg; OK1.mv (.t rfl)) rfl ?_
 refine stT rfl rfl (fun hg => have hg' := BP.t hg; OK1.mv (.t rfl)) rfl ?_
 refine stT rfl rfl (fun hg => have hg' := BP.t hg; OK1.subI (Has.g rfl hg) (Has.cI 1 rfl) (by first | omega | assumption) (by first | omega | assumption)) rfl ?_
 refine stT rfl rfl (fun hg => have hg' := BP.t hg; OK1.eq (.ixWin sl28 ty48 (Has.g rfl hg) (Has.g rfl hg) ⟨by omega, by omega⟩) (isPtr_eq (by first | exact ixo0 | exact ixo2 | exact ixo1))) rfl ?_
 refine stT rfl rfl (fun hg => have hg' := BP.t hg; OK1.load1 (Has.g rfl hg) (i := 0) rfl ty48 (map_some (getD_some (d := 0) (by simp only [List.length_append]; omega)))) rfl ?_
 refine stT rfl rfl (fun hg => have hg' := BP.t hg; OK1.eqU (Has.g rfl hg) (Has.cU 0 rfl)) rfl ?_
 refine st (.pickAnd (.t rfl) (fun h => Has.g rfl h)) rfl ?_
 refine nl (.thn (k6 _ _ ?_))
 refine .cond (.t rfl) (fun hc1 => ?_) (fun hc1 => ?_)
 ·have hc1 := BP.t hc1
  exact absurd hc1.2 (topW hA)
 ·have hc1 := BP.f hc1
  refine .exit ?_
  refine .the ?_
  refine .the ?_
  refine .blh ?_
  refine .thn (k3 _ _ ?_)
  refine .cv (Cv.wk (.k 0 rfl (.k 2 rfl (.k 3 rfl .nil)))) ?_
  refine .seq fun _ k7 => .region (st (.mv (.t rfl)) rfl ?_)
  refine st (.mv (.t rfl)) rfl (st (.slHWin sl28 ty48 (.t rfl) (.t rfl) ⟨by omega, by omega, by omega⟩) rfl ?_)
  refine st (.as (.t rfl)) rfl ?_
  refine nl (.thn (k7 _ _ ?_))
  refine .cv (Cv.wk (.k 2 rfl .nil)) ?_
  refine .ret ?_
  refine rtM1 (.inl rfl) Try.results70 rfl (i := 0) ?_ (.tmp (Has.t' rfl ?_) .nil)
  all_goals (rfl)
theorem nat_normalW {A k c : Nat} (hA : A ≠ 0) : CtrM Try.prog 82 (fun b0 => [isWin b0 0 ((List.length (words A))) c]) (cellM (List.map isU (words A ++ List.replicate k 0))) (cellM (List.map isU (words A ++ List.replicate k 0))) (fun b0 => isWin b0 0 ((List.length (words A))) c) := by
 refine CtrM.intro Try.func82 rfl (by kernel_rfl) Try.ntmps82 (fun _ => rfl) fun w0 F0 b0 => ?_
 refine .cv (Cv.wk (.k 0 rfl .nil)) ?_
 refine .fact (Has.lenLt (Has.t (t := 0) rfl)) fun lt0 => ?_
 refine .fact (Has.winLe (Has.t (t := 0) rfl)) fun lw0 => ?_
 have nA := nw_pos hA
 refine .seq fun _ k1 => .region (st (.as (Has.cW (f := isU))) rfl ?_)
 refine nl (.thn (k1 _ _ ?_))
 refine .seq fun _ k2 => .region (st (.mv (.t rfl)) rfl ?_)
 refine .callM (nat_trimW hA) (i := 0) rfl (.cons (.t rfl) .nil) rfl (M' := [(_, _)]) rfl ?_
 refine st (.as (.t rfl)) rfl ?_
 refine nl (.thn (k2 _ _ ?_))
 refine .seq fun _ k3 => ?_
 refine .seq fun _ k4 => .region (st (.mv (.t rfl)) rfl ?_)
 refine st (.len sl28 (.t rfl)) rfl (st (.eqI (.t rfl) (Has.cI 0 rfl)) rfl ?_)
 refine nl (.thn (k4 _ _ ?_))
 refine .cond (.t rfl) (fun hc1 => ?_) (fun hc1 => ?_)
 ·have hc1 := BP.t hc1
  exfalso; first | omega | contradiction | (revert hc1; simp)
 ·have hc1 := BP.f hc1
  refine .skip ?_
  refine .thn (k3 _ _ ?_)
  refine .cv (Cv.wk (.k 0 rfl (.k 2 rfl .nil))) ?_
  refine .seq fun _ k5 => .region (st (.mv (.t rfl)) rfl ?_)
  refine st (.as (.t rfl)) rfl ?_
  refine nl (.thn (k5 _ _ ?_))
  refine .ret ?_
  refine rtM1 (.inl rfl) Try.results82 rfl (i := 0) ?_ (.tmp (Has.t' rfl ?_) .nil)
  all_goals (rfl)
theorem nat_NormO {xs : List Nat} (hx : (List.length (words (val xs))) ≤ 4294967296) : CtrO Try.prog 50 [isWords xs] isU 0 (words (val xs)) := by
 refine CtrO.intro Try.func50 rfl (by kernel_rfl) Try.ntmps50 rfl fun w0 F0 => ?_
 refine .cv (Cv.wk (.k 0 rfl .nil)) ?_
 refine .fact (Has.lenLt (Has.t (t := 0) rfl)) fun lt0 => ?_
 refine .fact (Has.okW (Has.t (t := 0) rfl)) fun ok0 => ?_
 refine .seq fun _ k1 => .region (st (.as (Has.cW (f := isU))) rfl ?_)
 refine nl (.thn (k1 _ _ ?_))
 refine .seq fun _ k2 => .region (st (.mv (.t rfl)) rfl ?_)
 refine st (.call (nat_trim) (.cons (.t rfl) .nil)) rfl ?_
 refine .callO (clone_NatO hx) (.cons (.t rfl) .nil) rfl (fun hO1 => ?_) (fun hO1 b1 cb1 jb1 => ?_)
 ·skip
  refine st (.call (nat_normal (xs := [])) (.cons (.t rfl) .nil)) rfl ?_
  refine st (.as (.t rfl)) rfl ?_
  refine nl (.thn (k2 _ _ ?_))
  refine .cv (Cv.wk (.k 2 rfl .nil)) ?_
  refine .ret ?_
  refine rtO0 (.inl rfl) Try.results50 rfl ?_ (.tmp (Has.t' rfl ?_) .nil)
  ·exact hO1
  ·exact SlM_eq words_zero
 ·skip
  refine .callM (nat_normalW (words_ne hO1)) (i := 0) rfl (.cons (.t rfl) .nil) rfl (M' := [(_, _)]) rfl ?_
  refine st (.as (.t rfl)) rfl ?_
  refine nl (.thn (k2 _ _ ?_))
  refine .cv (Cv.wk (.k 2 rfl .nil)) ?_
  refine .ret ?_
  refine rtO1 (.inl rfl) Try.results50 rfl ?_ (b := b1) (c := cb1) (k := jb1) (i := 0) ?_ (.tmp (Has.t' rfl ?_) .nil)
  ·exact hO1
  ·rfl
  ·rfl
theorem bits_Len64 {x : Nat} : Ctr Try.prog 71 [isU x] (isI (bitLen x : Int)) := by
 refine Ctr.intro Try.func71 rfl (by kernel_rfl) Try.ntmps71 rfl fun w0 F0 => ?_
 refine .cv (Cv.wk (.k 0 rfl .nil)) ?_
 refine .fact (Has.ltU (Has.t (t := 0) rfl)) fun lt0 => ?_
 refine .seq fun _ k1 => .region (st (.as (Has.cI 0 rfl)) rfl ?_)
 refine nl (.thn (k1 _ _ ?_))
 refine .cutF [] (fun (z : { z : Nat × Nat // bitLen x = z.2 + bitLen z.1 ∧ z.1 < 4294967296 ∧ z.2 ≤ 32 }) => match z with | ⟨(y, n), hI⟩ => [(0, isU y), (2, isI (n : Int))]) (fun M => fun (z : { z : Nat × Nat // bitLen x = z.2 + bitLen z.1 ∧ z.1 < 4294967296 ∧ z.2 ≤ 32 }) => match z with | ⟨(y, n), hI⟩ => M) (fun K2 hK2 => ?_) ?_
 ·skip
  refine .seq fun _ k3 => .region (st (.mv (.t rfl)) rfl ?_)
  refine st (.geU (.t rfl) (Has.cU 4294967296 rfl)) rfl ?_
  refine nl (.thn (k3 _ _ ?_))
  refine .cond (.t rfl) (fun hc1 => ?_) (fun hc1 => ?_)
  ·have hc1 := BP.t hc1
   refine .seq fun _ k4 => .region (st (.mv (.t rfl)) rfl ?_)
   refine st (.shrUU (.t rfl) (Has.cU 32 rfl) (by first | omega | assumption)) rfl ?_
   refine st (.as (.t rfl)) rfl ?_
   refine nl (.thn (k4 _ _ ?_))
   refine .region (st (.as (Has.cI 32 rfl)) rfl ?_)
   refine nl ?_
   refine .thn ?_
   refine hK2 (⟨(x / 2 ^ 32, 32), by have := bitLen_shift x 32 (by omega); exact this, by show x / 2 ^ 32 < _; omega, Nat.le_refl _⟩) _ _ (Cv.mem (.cons (t := 0) (Has.t' rfl ?_) (.cons (t := 2) (Has.t' rfl ?_) .nil)) ?_)
   ·rfl
   ·rfl
   ·rfl
  ·have hc1 := BP.f hc1
   refine .skip ?_
   refine .thn ?_
   refine hK2 (⟨(x, 0), (Nat.zero_add _).symm, by show x < _; omega, Nat.zero_le _⟩) _ _ (Cv.mem (.cons (t := 0) (Has.t' rfl ?_) (.cons (t := 2) (Has.t' rfl ?_) .nil)) ?_)
   ·rfl
   ·rfl
   ·rfl
 rintro ⟨⟨y, n⟩, h1, h2, h3⟩
 refine .cv (Cv.wk (.k 0 rfl (.k 2 rfl .nil))) ?_
 simp only [] at h1 h2 h3
 refine .cutF [] (fun (z : { z : Nat × Nat // bitLen x = z.2 + bitLen z.1 ∧ z.1 < 65536 ∧ z.2 ≤ 48 }) => match z with | ⟨(y, n), hI⟩ => [(0, isU y), (2, isI (n : Int))]) (fun M => fun (z : { z : Nat × Nat // bitLen x = z.2 + bitLen z.1 ∧ z.1 < 65536 ∧ z.2 ≤ 48 }) => match z with | ⟨(y, n), hI⟩ => M) (fun K5 hK5 => ?_) ?_
 ·skip
  refine .seq fun _ k6 => .region (st (.mv (.t rfl)) rfl ?_)
  refine st (.geU (.t rfl) (Has.cU 65536 rfl)) rfl ?_
  refine nl (.thn (k6 _ _ ?_))
  refine .cond (.t rfl) (fun hc2 => ?_) (fun hc2 => ?_)
  ·have hc2 := BP.t hc2
   refine .seq fun _ k7 => .region (st (.mv (.t rfl)) rfl ?_)
   refine st (.shrUU (.t rfl) (Has.cU 16 rfl) (by first | omega | assumption)) rfl ?_
   refine st (.as (.t rfl)) rfl ?_
   refine nl (.thn (k7 _ _ ?_))
   refine .region (st (.mv (.t rfl)) rfl ?_)
   refine st (.addI (.t rfl) (Has.cI 16 rfl) (by first | omega | assumption) (by first | omega | assumption)) rfl ?_
   refine st (.as (.t rfl)) rfl ?_
   refine nl ?_
   refine .thn ?_
   refine hK5 (⟨(y / 2 ^ 16, n + 16), by have := bitLen_shift y 16 (by omega); show bitLen x = n + 16 + bitLen (y / 2 ^ 16); omega, by show y / 2 ^ 16 < _; omega, by show n + 16 ≤ _; omega⟩) _ _ (Cv.mem (.cons (t := 0) (Has.t' rfl ?_) (.cons (t := 2) (Has.t' rfl ?_) .nil)) ?_)
   ·rfl
   ·rfl
   ·rfl
  ·have hc2 := BP.f hc2
   refine .skip ?_
   refine .thn ?_
   refine hK5 (⟨(y, n), h1, by show y < _; omega, by show n ≤ _; omega⟩) _ _ (Cv.mem (.cons (t := 0) (Has.t' rfl ?_) (.cons (t := 2) (Has.t' rfl ?_) .nil)) ?_)
   ·rfl
   ·rfl
   ·rfl
 rintro ⟨⟨y, n⟩, h1, h2, h3⟩
 refine .cv (Cv.wk (.k 0 rfl (.k 2 rfl .nil))) ?_
 simp only [] at h1 h2 h3
 refine .cutF [] (fun (z : { z : Nat × Nat // bitLen x = z.2 + bitLen z.1 ∧ z.1 < 256 ∧ z.2 ≤ 56 }) => match z with | ⟨(y, n), hI⟩ => [(0, isU y), (2, isI (n : Int))]) (fun M => fun (z : { z : Nat × Nat // bitLen x = z.2 + bitLen z.1 ∧ z.1 < 256 ∧ z.2 ≤ 56 }) => match z with | ⟨(y, n), hI⟩ => M) (fun K8 hK8 => ?_) ?_
 ·skip
  refine .seq fun _ k9 => .region (st (.mv (.t rfl)) rfl ?_)
  refine st (.geU (.t rfl) (Has.cU 256 rfl)) rfl ?_
  refine nl (.thn (k9 _ _ ?_))
  refine .cond (.t rfl) (fun hc3 => ?_) (fun hc3 => ?_)
  ·have hc3 := BP.t hc3
   refine .seq fun _ k10 => .region (st (.mv (.t rfl)) rfl ?_)
   refine st (.shrUU (.t rfl) (Has.cU 8 rfl) (by first | omega | assumption)) rfl ?_
   refine st (.as (.t rfl)) rfl ?_
   refine nl (.thn (k10 _ _ ?_))
   refine .region (st (.mv (.t rfl)) rfl ?_)
   refine st (.addI (.t rfl) (Has.cI 8 rfl) (by first | omega | assumption) (by first | omega | assumption)) rfl ?_
   refine st (.as (.t rfl)) rfl ?_
   refine nl ?_
   refine .thn ?_
   refine hK8 (⟨(y / 2 ^ 8, n + 8), by have := bitLen_shift y 8 (by omega); show bitLen x = n + 8 + bitLen (y / 2 ^ 8); omega, by show y / 2 ^ 8 < _; omega, by show n + 8 ≤ _; omega⟩) _ _ (Cv.mem (.cons (t := 0) (Has.t' rfl ?_) (.cons (t := 2) (Has.t' rfl ?_) .nil)) ?_)
   ·rfl
   ·rfl
   ·rfl
  ·have hc3 := BP.f hc3
   refine .skip ?_
   refine .thn ?_
   refine hK8 (⟨(y, n), h1, by show y < _; omega, by show n ≤ _; omega⟩) _ _ (Cv.mem (.cons (t := 0) (Has.t' rfl ?_) (.cons (t := 2) (Has.t' rfl ?_) .nil)) ?_)
   ·rfl
   ·rfl
   ·rfl
 rintro ⟨⟨y, n⟩, h1, h2, h3⟩
 refine .cv (Cv.wk (.k 0 rfl (.k 2 rfl .nil))) ?_
 simp only [] at h1 h2 h3
 have h8 := bitLen_le8 y h2
 have hy : Int.toNat (y : Int) = y := rfl
 refine .seq fun _ k11 => .region (st (.mv (.t rfl)) rfl ?_)
 refine st (.mv (.t rfl)) rfl (st (.convUu8 un48 un5 (.t rfl) (by first | omega | assumption)) rfl ?_)
 refine st (.eq (.idxStr un9 (.t rfl) (by omega) ⟨(show Int.toNat (y : Int) < 256 by omega), len8tab_get _ _⟩) ((show isK .u8 _ = isK .u8 ((bitLen y : Nat) : Int) from rfl))) rfl ?_
 refine st (.convKI un5 un3 (.t rfl) (by first | omega | assumption) (by first | omega | assumption)) rfl ?_
 refine st (.addI (.t rfl) (.t rfl) (by first | omega | assumption) (by first | omega | assumption)) rfl ?_
 refine st (.as (.t rfl)) rfl ?_
 refine nl (.thn (k11 _ _ ?_))
 refine .cv (Cv.wk (.k 2 rfl .nil)) ?_
 refine .ret ?_
 refine rt1 (.inl rfl) Try.results71 rfl (.tmp (Has.t' rfl ?_) .nil)
 all_goals (exact isI_eq (by omega))
theorem bits_LZ64 {x : Nat} : Ctr Try.prog 51 [isU x] (isI ((64 - bitLen x : Nat) : Int)) := by
 refine Ctr.intro Try.func51 rfl (by kernel_rfl) Try.ntmps51 rfl fun w0 F0 => ?_
 refine .cv (Cv.wk (.k 0 rfl .nil)) ?_
 refine .fact (Has.ltU (Has.t (t := 0) rfl)) fun lt0 => ?_
 have h64 := bitLen_le64 lt0
 refine .seq fun _ k1 => .region (st (.as (Has.cI 0 rfl)) rfl ?_)
 refine nl (.thn (k1 _ _ ?_))
 refine .seq fun _ k2 => .region (st (.mv (.t rfl)) rfl ?_)
 refine st (.call (bits_Len64) (.cons (.t rfl) .nil)) rfl ?_
 refine st (.subI (Has.cI 64 rfl) (.t rfl) (by first | omega | assumption) (by first | omega | assumption)) rfl ?_
 refine st (.as (.t rfl)) rfl ?_
 refine nl (.thn (k2 _ _ ?_))
 refine .ret ?_
 refine rt1 (.inl rfl) Try.results51 rfl (.tmp (Has.t' rfl ?_) .nil)
 all_goals (exact isI_eq (by omega))
theorem bits_Div64 {hi lo y : Nat} (h : hi < y) : Ctr Try.prog 56 [isU hi, isU lo, isU y] (isTup [isU ((hi * 18446744073709551616 + lo) / y), isU ((hi * 18446744073709551616 + lo) % y)]) := by
 refine Ctr.intro Try.func56 rfl (by kernel_rfl) Try.ntmps56 rfl fun w0 F0 => ?_
 refine .cv (Cv.wk (.k 0 rfl (.k 1 rfl (.k 2 rfl .nil)))) ?_
 refine .fact (Has.ltU (Has.t (t := 0) rfl)) fun lt0 => ?_
 refine .fact (Has.ltU (Has.t (t := 1) rfl)) fun lt1 => ?_
 refine .fact (Has.ltU (Has.t (t := 2) rfl)) fun lt2 => ?_
 obtain ⟨s, Y, A, U1, U0, v1, v0, hs, hY, D⟩ := d64 lt1 lt2 h
 have hs64 := D.ks
 have hYl := D.yl
 have hAl := D.al
 have hV1 := D.hv.a
 have hV1' := D.hv.b
 have hV0 := D.hv.c
 have hU1 := D.hv.f
 have hU0 := D.hv2.f
 have hR1 := D.r1
 have hR0 := D.r0
 have hQ1 := D.q1
 have hQ0 := D.q0
 have dv := Nat.div_mul_le_self A v1
 have dv2 := Nat.div_mul_le_self ((A * 4294967296 + U1) % Y) v1
 refine .seq fun _ k1 => .region (st (.as (Has.cU 0 rfl)) rfl ?_)
 refine st (.as (Has.cU 0 rfl)) rfl ?_
 refine nl (.thn (k1 _ _ ?_))
 refine .seq fun _ k2 => ?_
 refine .seq fun _ k3 => .region (st (.mv (.t rfl)) rfl ?_)
 refine st (.eqU (.t rfl) (Has.cU 0 rfl)) rfl ?_
 refine nl (.thn (k3 _ _ ?_))
 refine .cond (.t rfl) (fun hc1 => ?_) (fun hc1 => ?_)
 ·have hc1 := BP.t hc1
  exfalso; first | omega | contradiction | (revert hc1; simp)
 ·have hc1 := BP.f hc1
  refine .skip ?_
  refine .thn (k2 _ _ ?_)
  refine .seq fun _ k4 => ?_
  refine .seq fun _ k5 => .region (st (.mv (.t rfl)) rfl ?_)
  refine st (.mv (.t rfl)) rfl (st (.leU (.t rfl) (.t rfl)) rfl ?_)
  refine nl (.thn (k5 _ _ ?_))
  refine .cond (.t rfl) (fun hc2 => ?_) (fun hc2 => ?_)
  ·have hc2 := BP.t hc2
   exfalso; first | omega | contradiction | (revert hc2; simp)
  ·have hc2 := BP.f hc2
   refine .skip ?_
   refine .thn (k4 _ _ ?_)
   refine .cv (Cv.wk (.k 0 rfl (.k 1 rfl (.k 2 rfl (.k 6 rfl (.k 7 rfl .nil)))))) ?_
   refine .seq fun _ k6 => ?_
   refine .seq fun _ k7 => .region (st (.mv (.t rfl)) rfl ?_)
   refine st (.eqU (.t rfl) (Has.cU 0 rfl)) rfl ?_
   refine nl (.thn (k7 _ _ ?_))
   refine .cond (.t rfl) (fun hc3 => ?_) (fun hc3 => ?_)
   ·have hc3 := BP.t hc3
    refine .seq fun _ k8 => ?_
    refine .cv (Cv.wk (.k 0 rfl (.k 1 rfl (.k 2 rfl (.k 7 rfl (.k 26 rfl (.k 27 rfl .nil))))))) ?_
    refine .dr ?_
    refine .s [] rfl rfl rfl (.o rfl (.mv (.t rfl))) ?_
    refine .s [] rfl rfl rfl (.o rfl (.mv (.t rfl))) ?_
    refine .s [28, 29] rfl rfl rfl (.o rfl (.quoU (.t rfl) (.t rfl) (by first | with_reducible exact True.intro | with_reducible assumption | with_reducible exact Nat.div_mul_le_self _ _ | with_reducible exact Nat.lt_of_le_of_lt (Nat.div_mul_le_self _ _) hR1 | omega | exact mul_bb (by omega) (by omega)) (by first | with_reducible exact True.intro | with_reducible assumption | with_reducible exact Nat.div_mul_le_self _ _ | with_reducible exact Nat.lt_of_le_of_lt (Nat.div_mul_le_self _ _) hR1 | omega | exact mul_bb (by omega) (by omega)))) ?_
    refine .s [] rfl rfl rfl (.o rfl (.mv (.t rfl))) ?_
    refine .s [] rfl rfl rfl (.o rfl (.mv (.t rfl))) ?_
    refine .s [31, 32] rfl rfl rfl (.o rfl (.remU (.t rfl) (.t rfl) (by first | with_reducible exact True.intro | with_reducible assumption | with_reducible exact Nat.div_mul_le_self _ _ | with_reducible exact Nat.lt_of_le_of_lt (Nat.div_mul_le_self _ _) hR1 | omega | exact mul_bb (by omega) (by omega)) (by first | with_reducible exact True.intro | with_reducible assumption | with_reducible exact Nat.div_mul_le_self _ _ | with_reducible exact Nat.lt_of_le_of_lt (Nat.div_mul_le_self _ _) hR1 | omega | exact mul_bb (by omega) (by omega)))) ?_
    refine .s [30] rfl rfl rfl (.o rfl (.as (.t rfl))) ?_
    refine .fin (n := 7) mixed (by kernel_rfl) (by kernel_rfl) (by kernel_rfl) ?_
    refine .cv (Cv.wk (.k 0 rfl (.k 1 rfl (.k 2 rfl (.k 7 rfl (.k 33 rfl (.k 6 rfl .nil))))))) ?_
    refine st (.as (.t rfl)) rfl ?_
    refine nl (.thn (k8 _ _ ?_))
    refine .ret ?_
    refine .thr ?_
    refine rtN (.inl rfl) Try.results56 rfl rfl (.tmp (Has.t' rfl ?_) (.tmp (Has.t' rfl ?_) .nil))
    ·exact isU_eq (by rw [hc3, Nat.zero_mul, Nat.zero_add])
    ·exact isU_eq (by rw [hc3, Nat.zero_mul, Nat.zero_add])
   ·have hc3 := BP.f hc3
    refine .skip ?_
    refine .thn (k6 _ _ ?_)
    refine .seq fun _ k9 => .region (st (.mv (.t rfl)) rfl ?_)
    refine st (.call (bits_LZ64) (.cons (.t rfl) .nil)) rfl ?_
    refine st (.eq (.convIU un3 un111 (.t rfl) (by first | with_reducible exact True.intro | with_reducible assumption | with_reducible exact Nat.div_mul_le_self _ _ | with_reducible exact Nat.lt_of_le_of_lt (Nat.div_mul_le_self _ _) hR1 | omega | exact mul_bb (by omega) (by omega)) (by first | with_reducible exact True.intro | with_reducible assumption | with_reducible exact Nat.div_mul_le_self _ _ | with_reducible exact Nat.lt_of_le_of_lt (Nat.div_mul_le_self _ _) hR1 | omega | exact mul_bb (by omega) (by omega))) ((show isU _ = isU s from isU_eq (by omega)))) rfl ?_
    refine st (.as (.t rfl)) rfl ?_
    refine nl (.thn (k9 _ _ ?_))
    refine .cv (Cv.wk (.k 0 rfl (.k 1 rfl (.k 2 rfl (.k 6 rfl (.k 7 rfl (.k 8 rfl .nil))))))) ?_
    refine .seq fun _ k10 => .region (st (.mv (.t rfl)) rfl ?_)
    refine st (.mv (.t rfl)) rfl (st (.eq (.shlUU (.t rfl) (.t rfl) (by first | with_reducible exact True.intro | with_reducible assumption | with_reducible exact Nat.div_mul_le_self _ _ | with_reducible exact Nat.lt_of_le_of_lt (Nat.div_mul_le_self _ _) hR1 | omega | exact mul_bb (by omega) (by omega))) ((show isU _ = isU Y from isU_eq (by rw [← hY]; exact Nat.mod_eq_of_lt D.yl)))) rfl ?_)
    refine st (.as (.t rfl)) rfl ?_
    refine nl (.thn (k10 _ _ ?_))
    refine .seq fun _ k11 => .region (st (.mv (.t rfl)) rfl ?_)
    refine st (.eq (.shrUU (.t rfl) (Has.cU 32 rfl) (by first | with_reducible exact True.intro | with_reducible assumption | with_reducible exact Nat.div_mul_le_self _ _ | with_reducible exact Nat.lt_of_le_of_lt (Nat.div_mul_le_self _ _) hR1 | omega | exact mul_bb (by omega) (by omega))) ((show isU _ = isU v1 from isU_eq (by have := D.kv1; omega)))) rfl ?_
    refine st (.as (.t rfl)) rfl ?_
    refine nl (.thn (k11 _ _ ?_))
    refine .cv (Cv.wk (.k 0 rfl (.k 1 rfl (.k 2 rfl (.k 6 rfl (.k 7 rfl (.k 8 rfl (.k 9 rfl .nil)))))))) ?_
    refine .seq fun _ k12 => .region (st (.mv (.t rfl)) rfl ?_)
    refine st (.eq (.andU (.t rfl) (Has.cU 4294967295 rfl)) ((show isU _ = isU v0 from isU_eq ((Nat.and_two_pow_sub_one_eq_mod _ 32).trans (by have := D.kv0; omega))))) rfl ?_
    refine st (.as (.t rfl)) rfl ?_
    refine nl (.thn (k12 _ _ ?_))
    refine .seq fun _ k13 => .region (st (.mv (.t rfl)) rfl ?_)
    refine st (.mv (.t rfl)) rfl (st (.shlUU (.t rfl) (.t rfl) (by first | with_reducible exact True.intro | with_reducible assumption | with_reducible exact Nat.div_mul_le_self _ _ | with_reducible exact Nat.lt_of_le_of_lt (Nat.div_mul_le_self _ _) hR1 | omega | exact mul_bb (by omega) (by omega))) rfl ?_)
    refine st (.mv (.t rfl)) rfl (st (.mv (.t rfl)) rfl ?_)
    refine st (.subU' (Has.cU 64 rfl) (.t rfl) (by first | with_reducible exact True.intro | with_reducible assumption | with_reducible exact Nat.div_mul_le_self _ _ | with_reducible exact Nat.lt_of_le_of_lt (Nat.div_mul_le_self _ _) hR1 | omega | exact mul_bb (by omega) (by omega)) (by first | with_reducible exact True.intro | with_reducible assumption | with_reducible exact Nat.div_mul_le_self _ _ | with_reducible exact Nat.lt_of_le_of_lt (Nat.div_mul_le_self _ _) hR1 | omega | exact mul_bb (by omega) (by omega))) rfl ?_
    refine st (.shrUU (.t rfl) (.t rfl) (by first | with_reducible exact True.intro | with_reducible assumption | with_reducible exact Nat.div_mul_le_self _ _ | with_reducible exact Nat.lt_of_le_of_lt (Nat.div_mul_le_self _ _) hR1 | omega | exact mul_bb (by omega) (by omega))) rfl ?_
    refine st (.eq (.orU (.t rfl) (.t rfl)) ((show isU _ = isU A from isU_eq D.un32))) rfl ?_
    refine st (.as (.t rfl)) rfl ?_
    refine nl (.thn (k13 _ _ ?_))
    refine .cv (Cv.wk (.k 1 rfl (.k 2 rfl (.k 6 rfl (.k 7 rfl (.k 8 rfl (.k 9 rfl (.k 10 rfl (.k 11 rfl .nil))))))))) ?_
    refine .seq fun _ k14 => .region (st (.mv (.t rfl)) rfl ?_)
    refine st (.mv (.t rfl)) rfl (st (.shlUU (.t rfl) (.t rfl) (by first | with_reducible exact True.intro | with_reducible assumption | with_reducible exact Nat.div_mul_le_self _ _ | with_reducible exact Nat.lt_of_le_of_lt (Nat.div_mul_le_self _ _) hR1 | omega | exact mul_bb (by omega) (by omega))) rfl ?_)
    refine st (.as (.t rfl)) rfl ?_
    refine nl (.thn (k14 _ _ ?_))
    refine .seq fun _ k15 => .region (st (.mv (.t rfl)) rfl ?_)
    refine st (.eq (.shrUU (.t rfl) (Has.cU 32 rfl) (by first | with_reducible exact True.intro | with_reducible assumption | with_reducible exact Nat.div_mul_le_self _ _ | with_reducible exact Nat.lt_of_le_of_lt (Nat.div_mul_le_self _ _) hR1 | omega | exact mul_bb (by omega) (by omega))) ((show isU _ = isU U1 from isU_eq (by have := D.u1; omega)))) rfl ?_
    refine st (.as (.t rfl)) rfl ?_
    refine nl (.thn (k15 _ _ ?_))
    refine .cv (Cv.wk (.k 2 rfl (.k 6 rfl (.k 7 rfl (.k 8 rfl (.k 9 rfl (.k 10 rfl (.k 11 rfl (.k 12 rfl (.k 13 rfl .nil)))))))))) ?_
    refine .seq fun _ k16 => .region (st (.mv (.t rfl)) rfl ?_)
    refine st (.eq (.andU (.t rfl) (Has.cU 4294967295 rfl)) ((show isU _ = isU U0 from isU_eq ((Nat.and_two_pow_sub_one_eq_mod _ 32).trans (by have := D.u0; omega))))) rfl ?_
    refine st (.as (.t rfl)) rfl ?_
    refine nl (.thn (k16 _ _ ?_))
    refine .seq fun _ k17 => .region (st (.mv (.t rfl)) rfl ?_)
    refine st (.mv (.t rfl)) rfl (st (.quoU (.t rfl) (.t rfl) (by first | with_reducible exact True.intro | with_reducible assumption | with_reducible exact Nat.div_mul_le_self _ _ | with_reducible exact Nat.lt_of_le_of_lt (Nat.div_mul_le_self _ _) hR1 | omega | exact mul_bb (by omega) (by omega)) (by first | with_reducible exact True.intro | with_reducible assumption | with_reducible exact Nat.div_mul_le_self _ _ | with_reducible exact Nat.lt_of_le_of_lt (Nat.div_mul_le_self _ _) hR1 | omega | exact mul_bb (by omega) (by omega))) rfl ?_)
    refine st (.as (.t rfl)) rfl ?_
    refine nl (.thn (k17 _ _ ?_))
    refine .cv (Cv.wk (.k 2 rfl (.k 6 rfl (.k 7 rfl (.k 8 rfl (.k 9 rfl (.k 10 rfl (.k 11 rfl (.k 13 rfl (.k 14 rfl (.k 15 rfl .nil))))))))))) ?_
    refine .seq fun _ k18 => .region (st (.mv (.t rfl)) rfl ?_)
    refine st (.mv (.t rfl)) rfl (st (.mv (.t rfl)) rfl ?_)
    refine st (.mulU' (.t rfl) (.t rfl) (by first | with_reducible exact True.intro | with_reducible assumption | with_reducible exact Nat.div_mul_le_self _ _ | with_reducible exact Nat.lt_of_le_of_lt (Nat.div_mul_le_self _ _) hR1 | omega | exact mul_bb (by omega) (by omega))) rfl ?_
    refine st (.subU' (.t rfl) (.t rfl) (by first | with_reducible exact True.intro | with_reducible assumption | with_reducible exact Nat.div_mul_le_self _ _ | with_reducible exact Nat.lt_of_le_of_lt (Nat.div_mul_le_self _ _) hR1 | omega | exact mul_bb (by omega) (by omega)) (by first | with_reducible exact True.intro | with_reducible assumption | with_reducible exact Nat.div_mul_le_self _ _ | with_reducible exact Nat.lt_of_le_of_lt (Nat.div_mul_le_self _ _) hR1 | omega | exact mul_bb (by omega) (by omega))) rfl ?_
    refine st (.as (.t rfl)) rfl ?_
    refine nl (.thn (k18 _ _ ?_))
    refine .cv (Cv.wk (.k 2 rfl (.k 6 rfl (.k 7 rfl (.k 8 rfl (.k 9 rfl (.k 10 rfl (.k 11 rfl (.k 13 rfl (.k 14 rfl (.k 15 rfl (.k 16 rfl .nil)))))))))))) ?_
    refine .cutF [2, 6, 7, 8, 9, 10, 11, 13, 14] (fun (_ : Unit) => [(15, isU ((A * 4294967296 + U1) / Y))]) (fun M => fun (_ : Unit) => M) (fun K19 hK19 => ?_) ?_
    ·skip
     refine .block ?_
     refine .loopF [2, 6, 7, 8, 9, 10, 11, 13, 14] (fun (z : { z : Nat × Nat // Gs A U1 v1 v0 z.1 z.2 }) => match z with | ⟨(q, r), hI⟩ => [(15, isU q), (16, isU r)]) (fun M => fun (z : { z : Nat × Nat // Gs A U1 v1 v0 z.1 z.2 }) => match z with | ⟨(q, r), hI⟩ => M) (fun (z : { z : Nat × Nat // Gs A U1 v1 v0 z.1 z.2 }) => match z with | ⟨(q, r), hI⟩ => q) (⟨(A / v1, A - A / v1 * v1), Gs.start D.hv⟩) (Cv.mem (.cons (t := 15) (Has.t' rfl ?_) (.cons (t := 16) (Has.t' rfl ?_) (.k 2 rfl (.k 6 rfl (.k 7 rfl (.k 8 rfl (.k 9 rfl (.k 10 rfl (.k 11 rfl (.k 13 rfl (.k 14 rfl .nil))))))))))) ?_) ?_
     ·rfl
     ·rfl
     ·rfl
     rintro ⟨⟨q, r⟩, g⟩ K20 hK20
     refine .cv (Cv.wk (.k 15 rfl (.k 16 rfl (.k 2 rfl (.k 6 rfl (.k 7 rfl (.k 8 rfl (.k 9 rfl (.k 10 rfl (.k 11 rfl (.k 13 rfl (.k 14 rfl .nil)))))))))))) ?_
     simp only [] at g
     have gq := g.q
     have gr := g.r
     have hv0 := D.hv.c
     have hv1 := D.hv.b
     have hu1 := D.hv.f
     refine .seq fun _ k21 => ?_
     refine .seq fun _ k22 => .region (st (.mv (.t rfl)) rfl ?_)
     refine st (.geU (.t rfl) (Has.cU 4294967296 rfl)) rfl ?_
     refine st (.mv (.t rfl)) rfl ?_
     refine stF rfl rfl (fun hg => have hg' := BP.t hg; OK1.mv (.t rfl)) rfl ?_
     refine stF rfl rfl (fun hg => have hg' := BP.t hg; OK1.mv (.t rfl)) rfl ?_
     refine stF rfl rfl (fun hg => have hg' := BP.t hg; OK1.mulU' (Has.g rfl hg) (Has.g rfl hg) (by first | with_reducible exact True.intro | with_reducible assumption | with_reducible exact Nat.div_mul_le_self _ _ | with_reducible exact Nat.lt_of_le_of_lt (Nat.div_mul_le_self _ _) hR1 | omega | exact mul_bb (by omega) (by omega))) rfl ?_
     refine stF rfl rfl (fun hg => have hg' := BP.t hg; OK1.mv (.t rfl)) rfl ?_
     refine stF rfl rfl (fun hg => have hg' := BP.t hg; OK1.mulU' (Has.cU 4294967296 rfl) (Has.g rfl hg) (by first | with_reducible exact True.intro | with_reducible assumption | with_reducible exact Nat.div_mul_le_self _ _ | with_reducible exact Nat.lt_of_le_of_lt (Nat.div_mul_le_self _ _) hR1 | omega | exact mul_bb (by omega) (by omega))) rfl ?_
     refine stF rfl rfl (fun hg => have hg' := BP.t hg; OK1.mv (.t rfl)) rfl ?_
     refine stF rfl rfl (fun hg => have hg' := BP.t hg; OK1.addU' (Has.g rfl hg) (Has.g rfl hg) (by first | with_reducible exact True.intro | with_reducible assumption | with_reducible exact Nat.div_mul_le_self _ _ | with_reducible exact Nat.lt_of_le_of_lt (Nat.div_mul_le_self _ _) hR1 | omega | exact mul_bb (by omega) (by omega))) rfl ?_
     refine stF rfl rfl (fun hg => have hg' := BP.t hg; OK1.gtU (Has.g rfl hg) (Has.g rfl hg)) rfl ?_
     refine st (.pickOr (.t rfl) (fun h => Has.g rfl (ng h))) rfl ?_
     refine nl (.thn (k22 _ _ ?_))
     refine .cond (.t rfl) (fun hc4 => ?_) (fun hc4 => ?_)
     ·have hc4 := BP.t hc4
      have hn := Gs.next D.hv g hc4
      refine .skip ?_
      refine .thn (k21 _ _ ?_)
      refine .block ?_
      refine .seq fun _ k23 => .region (st (.mv (.t rfl)) rfl ?_)
      refine st (.subU' (.t rfl) (Has.cU 1 rfl) (by first | with_reducible exact True.intro | with_reducible assumption | with_reducible exact Nat.div_mul_le_self _ _ | with_reducible exact Nat.lt_of_le_of_lt (Nat.div_mul_le_self _ _) hR1 | omega | exact mul_bb (by omega) (by omega)) (by first | with_reducible exact True.intro | with_reducible assumption | with_reducible exact Nat.div_mul_le_self _ _ | with_reducible exact Nat.lt_of_le_of_lt (Nat.div_mul_le_self _ _) hR1 | omega | exact mul_bb (by omega) (by omega))) rfl ?_
      refine st (.as (.t rfl)) rfl ?_
      refine nl (.thn (k23 _ _ ?_))
      refine .seq fun _ k24 => .region (st (.mv (.t rfl)) rfl ?_)
      refine st (.mv (.t rfl)) rfl (st (.addU' (.t rfl) (.t rfl) (by first | with_reducible exact True.intro | with_reducible assumption | with_reducible exact Nat.div_mul_le_self _ _ | with_reducible exact Nat.lt_of_le_of_lt (Nat.div_mul_le_self _ _) hR1 | omega | exact mul_bb (by omega) (by omega))) rfl ?_)
      refine st (.as (.t rfl)) rfl ?_
      refine nl (.thn (k24 _ _ ?_))
      refine .seq fun _ k25 => .region (st (.mv (.t rfl)) rfl ?_)
      refine st (.geU (.t rfl) (Has.cU 4294967296 rfl)) rfl ?_
      refine nl (.thn (k25 _ _ ?_))
      refine .cond (.t rfl) (fun hc5 => ?_) (fun hc5 => ?_)
      ·have hc5 := BP.t hc5
       refine .exit ?_
       refine .blm rfl ?_
       refine .the ?_
       refine .blh ?_
       refine .thn ?_
       refine hK19 (()) _ _ (Cv.mem (.cons (t := 15) (Has.t' rfl ?_) (.k 2 rfl (.k 6 rfl (.k 7 rfl (.k 8 rfl (.k 9 rfl (.k 10 rfl (.k 11 rfl (.k 13 rfl (.k 14 rfl .nil)))))))))) ?_)
       ·exact isU_eq ((Gs.exit2 D.hv hn.1 hn.2.1 hn.2.2.1 (by omega)).trans (by rw [D.kY]))
       ·rfl
      ·have hc5 := BP.f hc5
       refine .skip ?_
       refine .bln ?_
       refine .thn ?_
       refine hK20 (⟨(q - 1, r + v1), hn.1, hn.2.1, by show q - 1 ≤ _; omega, by show r + v1 < _; omega⟩) _ _ ?_ (Cv.mem (.cons (t := 15) (Has.t' rfl ?_) (.cons (t := 16) (Has.t' rfl ?_) (.k 2 rfl (.k 6 rfl (.k 7 rfl (.k 8 rfl (.k 9 rfl (.k 10 rfl (.k 11 rfl (.k 13 rfl (.k 14 rfl .nil))))))))))) ?_)
       ·show q - 1 < q; omega
       ·rfl
       ·rfl
       ·rfl
     ·have hc4 := BP.f hc4
      refine .exit ?_
      refine .the ?_
      refine .the ?_
      refine .blh ?_
      refine .thn ?_
      refine hK19 (()) _ _ (Cv.mem (.cons (t := 15) (Has.t' rfl ?_) (.k 2 rfl (.k 6 rfl (.k 7 rfl (.k 8 rfl (.k 9 rfl (.k 10 rfl (.k 11 rfl (.k 13 rfl (.k 14 rfl .nil)))))))))) ?_)
      ·exact isU_eq ((Gs.exit D.hv g (by omega)).trans (by rw [D.kY]))
      ·rfl
    rintro _
    refine .cv (Cv.wk (.k 15 rfl (.k 2 rfl (.k 6 rfl (.k 7 rfl (.k 8 rfl (.k 9 rfl (.k 10 rfl (.k 11 rfl (.k 13 rfl (.k 14 rfl .nil))))))))))) ?_
    refine .seq fun _ k26 => .region (st (.mv (.t rfl)) rfl ?_)
    refine st (.mulU (.t rfl) (Has.cU 4294967296 rfl)) rfl ?_
    refine st (.mv (.t rfl)) rfl (st (.addU (.t rfl) (.t rfl)) rfl ?_)
    refine st (.mv (.t rfl)) rfl (st (.mv (.t rfl)) rfl ?_)
    refine st (.mulU (.t rfl) (.t rfl)) rfl ?_
    refine st (.eq (.subU (.t rfl) (.t rfl) (by first | with_reducible exact True.intro | with_reducible assumption | with_reducible exact Nat.div_mul_le_self _ _ | with_reducible exact Nat.lt_of_le_of_lt (Nat.div_mul_le_self _ _) hR1 | omega | exact mul_bb (by omega) (by omega))) ((show isU _ = isU ((A * 4294967296 + U1) % Y) from isU_eq (wrapSub (divMul _ _) hR1 hU1)))) rfl ?_
    refine st (.as (.t rfl)) rfl ?_
    refine nl (.thn (k26 _ _ ?_))
    refine .cv (Cv.wk (.k 2 rfl (.k 6 rfl (.k 7 rfl (.k 8 rfl (.k 9 rfl (.k 10 rfl (.k 14 rfl (.k 15 rfl (.k 17 rfl .nil)))))))))) ?_
    refine .seq fun _ k27 => .region (st (.mv (.t rfl)) rfl ?_)
    refine st (.mv (.t rfl)) rfl (st (.quoU (.t rfl) (.t rfl) (by first | with_reducible exact True.intro | with_reducible assumption | with_reducible exact Nat.div_mul_le_self _ _ | with_reducible exact Nat.lt_of_le_of_lt (Nat.div_mul_le_self _ _) hR1 | omega | exact mul_bb (by omega) (by omega)) (by first | with_reducible exact True.intro | with_reducible assumption | with_reducible exact Nat.div_mul_le_self _ _ | with_reducible exact Nat.lt_of_le_of_lt (Nat.div_mul_le_self _ _) hR1 | omega | exact mul_bb (by omega) (by omega))) rfl ?_)
    refine st (.as (.t rfl)) rfl ?_
    refine nl (.thn (k27 _ _ ?_))
    refine .seq fun _ k28 => .region (st (.mv (.t rfl)) rfl ?_)
    refine st (.mv (.t rfl)) rfl (st (.mv (.t rfl)) rfl ?_)
    refine st (.mulU' (.t rfl) (.t rfl) (by first | with_reducible exact True.intro | with_reducible assumption | with_reducible exact Nat.div_mul_le_self _ _ | with_reducible exact Nat.lt_of_le_of_lt (Nat.div_mul_le_self _ _) hR1 | omega | exact mul_bb (by omega) (by omega))) rfl ?_
    refine st (.subU' (.t rfl) (.t rfl) (by first | with_reducible exact True.intro | with_reducible assumption | with_reducible exact Nat.div_mul_le_self _ _ | with_reducible exact Nat.lt_of_le_of_lt (Nat.div_mul_le_self _ _) hR1 | omega | exact mul_bb (by omega) (by omega)) (by first | with_reducible exact True.intro | with_reducible assumption | with_reducible exact Nat.div_mul_le_self _ _ | with_reducible exact Nat.lt_of_le_of_lt (Nat.div_mul_le_self _ _) hR1 | omega | exact mul_bb (by omega) (by omega))) rfl ?_
    refine st (.as (.t rfl)) rfl ?_
    refine nl (.thn (k28 _ _ ?_))
    refine .cv (Cv.wk (.k 2 rfl (.k 6 rfl (.k 7 rfl (.k 8 rfl (.k 9 rfl (.k 10 rfl (.k 14 rfl (.k 15 rfl (.k 17 rfl (.k 18 rfl (.k 16 rfl .nil)))))))))))) ?_
    refine .cutF [2, 6, 7, 8, 14, 15, 17] (fun (_ : Unit) => [(18, isU ((((A * 4294967296 + U1) % Y) * 4294967296 + U0) / Y))]) (fun M => fun (_ : Unit) => M) (fun K29 hK29 => ?_) ?_
    ·skip
     refine .block ?_
     refine .loopF [2, 6, 7, 8, 9, 10, 14, 15, 17] (fun (z : { z : Nat × Nat // Gs ((A * 4294967296 + U1) % Y) U0 v1 v0 z.1 z.2 }) => match z with | ⟨(q, r), hI⟩ => [(18, isU q), (16, isU r)]) (fun M => fun (z : { z : Nat × Nat // Gs ((A * 4294967296 + U1) % Y) U0 v1 v0 z.1 z.2 }) => match z with | ⟨(q, r), hI⟩ => M) (fun (z : { z : Nat × Nat // Gs ((A * 4294967296 + U1) % Y) U0 v1 v0 z.1 z.2 }) => match z with | ⟨(q, r), hI⟩ => q) (⟨(((A * 4294967296 + U1) % Y) / v1, ((A * 4294967296 + U1) % Y) - ((A * 4294967296 + U1) % Y) / v1 * v1), Gs.start D.hv2⟩) (Cv.mem (.cons (t := 18) (Has.t' rfl ?_) (.cons (t := 16) (Has.t' rfl ?_) (.k 2 rfl (.k 6 rfl (.k 7 rfl (.k 8 rfl (.k 9 rfl (.k 10 rfl (.k 14 rfl (.k 15 rfl (.k 17 rfl .nil))))))))))) ?_) ?_
     ·rfl
     ·rfl
     ·rfl
     rintro ⟨⟨q, r⟩, g⟩ K30 hK30
     refine .cv (Cv.wk (.k 18 rfl (.k 16 rfl (.k 2 rfl (.k 6 rfl (.k 7 rfl (.k 8 rfl (.k 9 rfl (.k 10 rfl (.k 14 rfl (.k 15 rfl (.k 17 rfl .nil)))))))))))) ?_
     simp only [] at g
     have gq := g.q
     have gr := g.r
     have hv0 := D.hv2.c
     have hv1 := D.hv2.b
     have hu1 := D.hv2.f
     refine .seq fun _ k31 => ?_
     refine .seq fun _ k32 => .region (st (.mv (.t rfl)) rfl ?_)
     refine st (.geU (.t rfl) (Has.cU 4294967296 rfl)) rfl ?_
     refine st (.mv (.t rfl)) rfl ?_
     refine stF rfl rfl (fun hg => have hg' := BP.t hg; OK1.mv (.t rfl)) rfl ?_
     refine stF rfl rfl (fun hg => have hg' := BP.t hg; OK1.mv (.t rfl)) rfl ?_
     refine stF rfl rfl (fun hg => have hg' := BP.t hg; OK1.mulU' (Has.g rfl hg) (Has.g rfl hg) (by first | with_reducible exact True.intro | with_reducible assumption | with_reducible exact Nat.div_mul_le_self _ _ | with_reducible exact Nat.lt_of_le_of_lt (Nat.div_mul_le_self _ _) hR1 | omega | exact mul_bb (by omega) (by omega))) rfl ?_
     refine stF rfl rfl (fun hg => have hg' := BP.t hg; OK1.mv (.t rfl)) rfl ?_
     refine stF rfl rfl (fun hg => have hg' := BP.t hg; OK1.mulU' (Has.cU 4294967296 rfl) (Has.g rfl hg) (by first | with_reducible exact True.intro | with_reducible assumption | with_reducible exact Nat.div_mul_le_self _ _ | with_reducible exact Nat.lt_of_le_of_lt (Nat.div_mul_le_self _ _) hR1 | omega | exact mul_bb (by omega) (by omega))) rfl ?_
     refine stF rfl rfl (fun hg => have hg' := BP.t hg; OK1.mv (.t rfl)) rfl ?_
     refine stF rfl rfl (fun hg => have hg' := BP.t hg; OK1.addU' (Has.g rfl hg) (Has.g rfl hg) (by first | with_reducible exact True.intro | with_reducible assumption | with_reducible exact Nat.div_mul_le_self _ _ | with_reducible exact Nat.lt_of_le_of_lt (Nat.div_mul_le_self _ _) hR1 | omega | exact mul_bb (by omega) (by omega))) rfl ?_
     refine stF rfl rfl (fun hg => have hg' := BP.t hg; OK1.gtU (Has.g rfl hg) (Has.g rfl hg)) rfl ?_
     refine st (.pickOr (.t rfl) (fun h => Has.g rfl (ng h))) rfl ?_
     refine nl (.thn (k32 _ _ ?_))
     refine .cond (.t rfl) (fun hc6 => ?_) (fun hc6 => ?_)
     ·have hc6 := BP.t hc6
      have hn := Gs.next D.hv2 g hc6
      refine .skip ?_
      refine .thn (k31 _ _ ?_)
      refine .block ?_
      refine .seq fun _ k33 => .region (st (.mv (.t rfl)) rfl ?_)
      refine st (.subU' (.t rfl) (Has.cU 1 rfl) (by first | with_reducible exact True.intro | with_reducible assumption | with_reducible exact Nat.div_mul_le_self _ _ | with_reducible exact Nat.lt_of_le_of_lt (Nat.div_mul_le_self _ _) hR1 | omega | exact mul_bb (by omega) (by omega)) (by first | with_reducible exact True.intro | with_reducible assumption | with_reducible exact Nat.div_mul_le_self _ _ | with_reducible exact Nat.lt_of_le_of_lt (Nat.div_mul_le_self _ _) hR1 | omega | exact mul_bb (by omega) (by omega))) rfl ?_
      refine st (.as (.t rfl)) rfl ?_
      refine nl (.thn (k33 _ _ ?_))
      refine .seq fun _ k34 => .region (st (.mv (.t rfl)) rfl ?_)
      refine st (.mv (.t rfl)) rfl (st (.addU' (.t rfl) (.t rfl) (by first | with_reducible exact True.intro | with_reducible assumption | with_reducible exact Nat.div_mul_le_self _ _ | with_reducible exact Nat.lt_of_le_of_lt (Nat.div_mul_le_self _ _) hR1 | omega | exact mul_bb (by omega) (by omega))) rfl ?_)
      refine st (.as (.t rfl)) rfl ?_
      refine nl (.thn (k34 _ _ ?_))
      refine .seq fun _ k35 => .region (st (.mv (.t rfl)) rfl ?_)
      refine st (.geU (.t rfl) (Has.cU 4294967296 rfl)) rfl ?_
      refine nl (.thn (k35 _ _ ?_))
      refine .cond (.t rfl) (fun hc7 => ?_) (fun hc7 => ?_)
      ·have hc7 := BP.t hc7
       refine .exit ?_
       refine .blm rfl ?_
       refine .the ?_
       refine .blh ?_
       refine .thn ?_
       refine hK29 (()) _ _ (Cv.mem (.cons (t := 18) (Has.t' rfl ?_) (.k 2 rfl (.k 6 rfl (.k 7 rfl (.k 8 rfl (.k 14 rfl (.k 15 rfl (.k 17 rfl .nil)))))))) ?_)
       ·exact isU_eq ((Gs.exit2 D.hv2 hn.1 hn.2.1 hn.2.2.1 (by omega)).trans (by rw [D.kY]))
       ·rfl
      ·have hc7 := BP.f hc7
       refine .skip ?_
       refine .bln ?_
       refine .thn ?_
       refine hK30 (⟨(q - 1, r + v1), hn.1, hn.2.1, by show q - 1 ≤ _; omega, by show r + v1 < _; omega⟩) _ _ ?_ (Cv.mem (.cons (t := 18) (Has.t' rfl ?_) (.cons (t := 16) (Has.t' rfl ?_) (.k 2 rfl (.k 6 rfl (.k 7 rfl (.k 8 rfl (.k 9 rfl (.k 10 rfl (.k 14 rfl (.k 15 rfl (.k 17 rfl .nil))))))))))) ?_)
       ·show q - 1 < q; omega
       ·rfl
       ·rfl
       ·rfl
     ·have hc6 := BP.f hc6
      refine .exit ?_
      refine .the ?_
      refine .the ?_
      refine .blh ?_
      refine .thn ?_
      refine hK29 (()) _ _ (Cv.mem (.cons (t := 18) (Has.t' rfl ?_) (.k 2 rfl (.k 6 rfl (.k 7 rfl (.k 8 rfl (.k 14 rfl (.k 15 rfl (.k 17 rfl .nil)))))))) ?_)
      ·exact isU_eq ((Gs.exit D.hv2 g (by omega)).trans (by rw [D.kY]))
      ·rfl
    rintro _
    refine .cv (Cv.wk (.k 18 rfl (.k 2 rfl (.k 6 rfl (.k 7 rfl (.k 8 rfl (.k 14 rfl (.k 15 rfl (.k 17 rfl .nil))))))))) ?_
    refine .seq fun _ k36 => .region (st (.mv (.t rfl)) rfl ?_)
    refine st (.mulU (.t rfl) (Has.cU 4294967296 rfl)) rfl ?_
    refine st (.mv (.t rfl)) rfl (st (.addU (.t rfl) (.t rfl)) rfl ?_)
    refine st (.mv (.t rfl)) rfl (st (.mulU (.t rfl) (Has.cU 4294967296 rfl)) rfl ?_)
    refine st (.mv (.t rfl)) rfl (st (.addU (.t rfl) (.t rfl)) rfl ?_)
    refine st (.mv (.t rfl)) rfl (st (.mv (.t rfl)) rfl ?_)
    refine st (.mulU (.t rfl) (.t rfl)) rfl ?_
    refine st (.eq (.subU (.t rfl) (.t rfl) (by first | with_reducible exact True.intro | with_reducible assumption | with_reducible exact Nat.div_mul_le_self _ _ | with_reducible exact Nat.lt_of_le_of_lt (Nat.div_mul_le_self _ _) hR1 | omega | exact mul_bb (by omega) (by omega))) ((show isU _ = isU ((((A * 4294967296 + U1) % Y) * 4294967296 + U0) % Y) from isU_eq (wrapSub (divMul _ _) hR0 hU0)))) rfl ?_
    refine st (.mv (.t rfl)) rfl (st (.shrUU (.t rfl) (.t rfl) (by first | with_reducible exact True.intro | with_reducible assumption | with_reducible exact Nat.div_mul_le_self _ _ | with_reducible exact Nat.lt_of_le_of_lt (Nat.div_mul_le_self _ _) hR1 | omega | exact mul_bb (by omega) (by omega))) rfl ?_)
    refine st (.as (.t rfl)) rfl (st (.as (.t rfl)) rfl ?_)
    refine nl (.thn (k36 _ _ ?_))
    refine .cv (Cv.wk (.k 6 rfl (.k 7 rfl .nil))) ?_
    refine .ret ?_
    refine rtN (.inl rfl) Try.results56 rfl rfl (.tmp (Has.t' rfl ?_) (.tmp (Has.t' rfl ?_) .nil))
    ·exact isU_eq (Eq.trans (wrapAdd hQ1 hQ0) D.quo)
    ·exact isU_eq D.rem
theorem div_Small {xs : List Nat} {x : Nat} (hx : (List.length (words (val xs))) < 4294900000) : Ctr Try.prog 22 [isWords xs, isU x] (isTup [isWords (words (val xs / x)), isU (if x = 0 then 0 else val xs % x), isB (decide (x ≠ 0))]) := by
 refine Ctr.intro Try.func22 rfl (by kernel_rfl) Try.ntmps22 rfl fun w0 F0 => ?_
 refine .cv (Cv.wk (.k 0 rfl (.k 1 rfl .nil))) ?_
 refine .fact (Has.lenLt (Has.t (t := 0) rfl)) fun lt0 => ?_
 refine .fact (Has.okW (Has.t (t := 0) rfl)) fun ok0 => ?_
 refine .fact (Has.ltU (Has.t (t := 1) rfl)) fun lt1 => ?_
 refine .seq fun _ k1 => .region (st (.as (Has.cW (f := isU))) rfl ?_)
 refine st (.as (Has.cU 0 rfl)) rfl ?_
 refine st (.as (Has.cB false)) rfl ?_
 refine nl (.thn (k1 _ _ ?_))
 refine .seq fun _ k2 => ?_
 refine .seq fun _ k3 => .region (st (.mv (.t rfl)) rfl ?_)
 refine st (.eqU (.t rfl) (Has.cU 0 rfl)) rfl ?_
 refine nl (.thn (k3 _ _ ?_))
 refine .cond (.t rfl) (fun hc1 => ?_) (fun hc1 => ?_)
 ·have hc1 := BP.t hc1
  refine .seq fun _ k4 => .region (st (.as (Has.cW (f := isU))) rfl ?_)
  refine st (.as (Has.cU 0 rfl)) rfl ?_
  refine st (.as (Has.cB false)) rfl ?_
  refine nl (.thn (k4 _ _ ?_))
  refine .ret ?_
  refine .thr ?_
  refine rtN (.inl rfl) Try.results22 rfl rfl (.tmp (Has.t' rfl ?_) (.tmp (Has.t' rfl ?_) (.tmp (Has.t' rfl ?_) .nil)))
  ·exact SlM_eq (by rw [hc1, Nat.div_zero, words_zero])
  ·exact isU_eq (by rw [if_pos hc1])
  ·exact isB_eq (by simp [hc1])
 ·have hc1 := BP.f hc1
  refine .skip ?_
  refine .thn (k2 _ _ ?_)
  refine .seq fun _ k5 => .region (st (.mv (.t rfl)) rfl ?_)
  refine .callO (nat_NormO (by omega)) (.cons (.t rfl) .nil) rfl (fun hO2 => ?_) (fun hO2 b1 cb1 jb1 => ?_)
  ·skip
   refine st (.as (.t rfl)) rfl ?_
   refine nl (.thn (k5 _ _ ?_))
   refine .seq fun _ k6 => .region (st (.as (Has.cU 0 rfl)) rfl ?_)
   refine nl (.thn (k6 _ _ ?_))
   refine .seq fun _ k7 => ?_
   refine .seq fun _ k8 => .region (st (.mv (.t rfl)) rfl ?_)
   refine st (.len sl28 (.t rfl)) rfl (st (.subI (.t rfl) (Has.cI 1 rfl) (by first | omega | (simp only [List.length_nil]; omega)) (by first | omega | (simp only [List.length_nil]; omega))) rfl ?_)
   refine st (.as (.t rfl)) rfl ?_
   refine nl (.thn (k8 _ _ ?_))
   refine .cv (Cv.wk (.k 0 rfl (.k 1 rfl (.k 4 rfl (.k 5 rfl (.k 6 rfl (.k 7 rfl (.k 8 rfl .nil)))))))) ?_
   refine .block ?_
   refine .loopF [0, 1, 4, 5, 6] (fun (_ : Unit) => [(8, isI (-1)), (7, isU 0)]) (fun M => fun (_ : Unit) => M) (fun (_ : Unit) => 0) (()) (Cv.mem (.cons (t := 8) (Has.t' rfl ?_) (.cons (t := 7) (Has.t' rfl ?_) (.k 0 rfl (.k 1 rfl (.k 4 rfl (.k 5 rfl (.k 6 rfl .nil))))))) ?_) ?_
   ·rfl
   ·rfl
   ·rfl
   rintro _ K9 hK9
   refine .cv (Cv.wk (.k 8 rfl (.k 7 rfl (.k 0 rfl (.k 1 rfl (.k 4 rfl (.k 5 rfl (.k 6 rfl .nil)))))))) ?_
   refine .seq fun _ k10 => ?_
   refine .seq fun _ k11 => .region (st (.mv (.t rfl)) rfl ?_)
   refine st (.geI (.t rfl) (Has.cI 0 rfl)) rfl ?_
   refine nl (.thn (k11 _ _ ?_))
   refine .cond (.t rfl) (fun hc3 => ?_) (fun hc3 => ?_)
   ·have hc3 := BP.t hc3
    exfalso; first | omega | contradiction | (revert hc3; simp)
   ·have hc3 := BP.f hc3
    refine .exit ?_
    refine .the ?_
    refine .the ?_
    refine .blh ?_
    refine .thn (k7 _ _ ?_)
    refine .seq fun _ k12 => .region (st (.mv (.t rfl)) rfl ?_)
    refine st (.call (nat_Norm (by first | (rw [val_wordsN]; exact normLe (by omega)) | (show (words 0).length ≤ _; rw [words_zero]; exact Nat.zero_le _))) (.cons (.t rfl) .nil)) rfl ?_
    refine st (.mv (.t rfl)) rfl (st (.as (.t rfl)) rfl ?_)
    refine st (.as (.t rfl)) rfl (st (.as (Has.cB true)) rfl ?_)
    refine nl (.thn (k12 _ _ ?_))
    refine .cv (Cv.wk (.k 4 rfl (.k 5 rfl (.k 6 rfl .nil)))) ?_
    refine .ret ?_
    refine rtN (.inl rfl) Try.results22 rfl rfl (.tmp (Has.t' rfl ?_) (.tmp (Has.t' rfl ?_) (.tmp (Has.t' rfl ?_) .nil)))
    ·exact SlM_eq (by rw [of_words_nil hO2, Nat.zero_div]; rfl)
    ·exact isU_eq (by rw [if_neg hc1, of_words_nil hO2, Nat.zero_mod])
    ·exact isB_eq (by simp [hc1])
  ·skip
   refine st (.as (.t rfl)) rfl ?_
   refine nl (.thn (k5 _ _ ?_))
   refine .seq fun _ k13 => .region (st (.as (Has.cU 0 rfl)) rfl ?_)
   refine nl (.thn (k13 _ _ ?_))
   refine .seq fun _ k14 => ?_
   refine .seq fun _ k15 => .region (st (.mv (.t rfl)) rfl ?_)
   refine st (.len sl28 (.t rfl)) rfl (st (.subI (.t rfl) (Has.cI 1 rfl) (by first | omega | (simp only [List.length_nil]; omega)) (by first | omega | (simp only [List.length_nil]; omega))) rfl ?_)
   refine st (.as (.t rfl)) rfl ?_
   refine nl (.thn (k15 _ _ ?_))
   refine .cv (Cv.wk (.k 0 rfl (.k 1 rfl (.k 4 rfl (.k 5 rfl (.k 6 rfl (.k 7 rfl (.k 8 rfl .nil)))))))) ?_
   refine .block ?_
   refine .loopF [0, 1, 4, 5, 6] (fun (z : { k : Nat // k ≤ (List.length (words (val xs))) }) => match z with | ⟨k, hI⟩ => [(8, isI ((k : Int) - 1)), (7, isU (val xs / W ^ k % x))]) (fun M => fun (z : { k : Nat // k ≤ (List.length (words (val xs))) }) => match z with | ⟨k, hI⟩ => [(some b1, cellM (List.map isU (mix k (val xs) (val xs / x) ((List.length (words (val xs)))) ++ List.replicate jb1 0)))]) (fun (z : { k : Nat // k ≤ (List.length (words (val xs))) }) => match z with | ⟨k, hI⟩ => k) (⟨(List.length (words (val xs))), Nat.le_refl _⟩) (Cv.mem (.cons (t := 8) (Has.t' rfl ?_) (.cons (t := 7) (Has.t' rfl ?_) (.k 0 rfl (.k 1 rfl (.k 4 rfl (.k 5 rfl (.k 6 rfl .nil))))))) ?_) ?_
   ·rfl
   ·exact isU_eq (by rw [Nat.div_eq_of_lt (nw_lt _), Nat.zero_mod])
   ·exact memL_eq (smallStart _ _ _)
   rintro ⟨k, hI⟩ K16 hK16
   refine .cv (Cv.wk (.k 8 rfl (.k 7 rfl (.k 0 rfl (.k 1 rfl (.k 4 rfl (.k 5 rfl (.k 6 rfl .nil)))))))) ?_
   refine .memEq (M' := [(some b1, cellM (List.map isU (mix k (val xs) (val xs / x) ((List.length (words (val xs)))) ++ List.replicate jb1 0)))]) rfl ?_
   have wl : (mix k (val xs) (val xs / x) ((List.length (words (val xs)))) ++ List.replicate jb1 0).length = (List.length (words (val xs))) + jb1 := by rw [List.length_append, mix_len hI, List.length_replicate]
   have ek : ((k : Int) - 1).toNat = k - 1 := by omega
   refine .seq fun _ k17 => ?_
   refine .seq fun _ k18 => .region (st (.mv (.t rfl)) rfl ?_)
   refine st (.geI (.t rfl) (Has.cI 0 rfl)) rfl ?_
   refine nl (.thn (k18 _ _ ?_))
   refine .cond (.t rfl) (fun hc4 => ?_) (fun hc4 => ?_)
   ·have hc4 := BP.t hc4
    refine .skip ?_
    refine .thn (k17 _ _ ?_)
    refine .seq fun _ k19 => ?_
    refine .block ?_
    refine .region (st (.mv (.t rfl)) rfl ?_)
    refine st (.mv (.t rfl)) rfl (st (.mv (.t rfl)) rfl ?_)
    refine st (.mv (.t rfl)) rfl (st (.mv (.t rfl)) rfl ?_)
    refine st (.eq (.ixWin sl28 ty48 (.t rfl) (.t rfl) ⟨by omega, by omega⟩) (isPtr_eq (by first | exact ixo0 | exact ixo2 | exact ixo1))) rfl ?_
    refine st (.eq (.load1 (.t rfl) (i := 0) rfl ty48 (map_some (getD_some (d := 0) (by omega)))) ((show isU _ = isU (dig (val xs) (k - 1)) from isU_eq (by rw [ek, getD_app (by rw [mix_len hI]; omega), mix_low (by omega)])))) rfl ?_
    refine st (.mv (.t rfl)) rfl (st (.call (bits_Div64 (Nat.mod_lt _ (by omega))) (.cons (.t rfl) (.cons (.t rfl) (.cons (.t rfl) .nil)))) rfl ?_)
    refine st (.mv (.t rfl)) rfl (st (.ext (.t rfl) rfl) rfl ?_)
    refine st (.ext (.t rfl) rfl) rfl (st (.eq (.ixWin sl28 ty48 (.t rfl) (.t rfl) ⟨by omega, by omega⟩) (isPtr_eq (by first | exact ixo0 | exact ixo2 | exact ixo1))) rfl ?_)
    refine .storeM (.t rfl) (.t rfl) (i := 0) rfl ty48 (by omega) (M' := [(_, _)]) rfl ?_
    refine st (.as (.t rfl)) rfl ?_
    refine nl ?_
    refine .bln ?_
    refine .thn (k19 _ _ ?_)
    refine .region (st (.mv (.t rfl)) rfl ?_)
    refine st (.subI (.t rfl) (Has.cI 1 rfl) (by first | omega | (simp only [List.length_nil]; omega)) (by first | omega | (simp only [List.length_nil]; omega))) rfl ?_
    refine st (.as (.t rfl)) rfl ?_
    refine nl ?_
    refine .thn ?_
    have hs := small_step (A := val xs) (x := x) (by omega) (by omega : 0 < k)
    refine hK16 (⟨k - 1, by omega⟩) _ _ ?_ (Cv.mem (.cons (t := 8) (Has.t' rfl ?_) (.cons (t := 7) (Has.t' rfl ?_) (.k 0 rfl (.k 1 rfl (.k 4 rfl (.k 5 rfl (.k 6 rfl .nil))))))) ?_)
    ·show k - 1 < k; omega
    ·exact isI_eq (by show _ = ((k - 1 : Nat) : Int) - 1; omega)
    ·exact isU_eq hs.2
    ·exact memL_eq (by rw [ek]; exact mix_down (by omega) hI hs.1)
   ·have hc4 := BP.f hc4
    refine .exit ?_
    refine .the ?_
    refine .the ?_
    refine .blh ?_
    refine .thn (k14 _ _ ?_)
    refine .seq fun _ k20 => ?_
    refine .cv (Cv.freeze' (t := 0) (i := 0) (ys := wordsN ((List.length (words (val xs)))) (val xs / x)) rfl rfl rfl (by omega) (by obtain rfl : k = 0 := (by omega); exact smallEnd rfl)) ?_
    refine .memEq (M' := []) rfl ?_
    refine .cv (Cv.wk (.k 0 rfl (.k 1 rfl (.k 4 rfl (.k 5 rfl (.k 6 rfl (.k 8 rfl (.k 7 rfl (.k 16 rfl (.k 17 rfl .nil)))))))))) ?_
    refine .region (st (.mv (.t rfl)) rfl ?_)
    refine st (.call (nat_Norm (by first | (rw [val_wordsN]; exact normLe (by omega)) | (show (words 0).length ≤ _; rw [words_zero]; exact Nat.zero_le _))) (.cons (.t rfl) .nil)) rfl ?_
    refine st (.mv (.t rfl)) rfl (st (.as (.t rfl)) rfl ?_)
    refine st (.as (.t rfl)) rfl (st (.as (Has.cB true)) rfl ?_)
    refine nl (.thn (k20 _ _ ?_))
    refine .cv (Cv.wk (.k 4 rfl (.k 5 rfl (.k 6 rfl .nil)))) ?_
    refine .ret ?_
    refine rtN (.inl rfl) Try.results22 rfl rfl (.tmp (Has.t' rfl ?_) (.tmp (Has.t' rfl ?_) (.tmp (Has.t' rfl ?_) .nil)))
    ·exact SlM_eq (words_quo _ _)
    ·obtain rfl : k = 0 := (by omega); exact isU_eq (by rw [if_neg hc1, Nat.pow_zero, Nat.div_one])
    ·exact isB_eq (by simp [hc1])
theorem div_guess {u2 u1 u0 v1 v0 : Nat} (h : 0 < v1) : Ctr Try.prog 84 [isU u2, isU u1, isU u0, isU v1, isU v0] (isU (gss u2 u1 u0 v1 v0)) := by
 refine Ctr.intro Try.func84 rfl (by kernel_rfl) Try.ntmps84 rfl fun w0 F0 => ?_
 refine .cv (Cv.wk (.k 0 rfl (.k 1 rfl (.k 2 rfl (.k 3 rfl (.k 4 rfl .nil)))))) ?_
 refine .fact (Has.ltU (Has.t (t := 0) rfl)) fun lt0 => ?_
 refine .fact (Has.ltU (Has.t (t := 1) rfl)) fun lt1 => ?_
 refine .fact (Has.ltU (Has.t (t := 2) rfl)) fun lt2 => ?_
 refine .fact (Has.ltU (Has.t (t := 3) rfl)) fun lt3 => ?_
 refine .fact (Has.ltU (Has.t (t := 4) rfl)) fun lt4 => ?_
 refine .seq fun _ k1 => .region (st (.as (Has.cU 0 rfl)) rfl ?_)
 refine nl (.thn (k1 _ _ ?_))
 refine .seq fun _ k2 => ?_
 refine .seq fun _ k3 => .region (st (.mv (.t rfl)) rfl ?_)
 refine st (.mv (.t rfl)) rfl (st (.gtU (.t rfl) (.t rfl)) rfl ?_)
 refine nl (.thn (k3 _ _ ?_))
 refine .cond (.t rfl) (fun hc1 => ?_) (fun hc1 => ?_)
 ·have hc1 := BP.t hc1
  refine .seq fun _ k4 => .region (st (.as (Has.cU 18446744073709551615 rfl)) rfl ?_)
  refine nl (.thn (k4 _ _ ?_))
  refine .ret ?_
  refine .thr ?_
  refine rt1 (.inl rfl) Try.results84 rfl (.tmp (Has.t' rfl ?_) .nil)
  all_goals (exact isU_eq (gss_max hc1 lt4 h))
 ·have hc1 := BP.f hc1
  refine .skip ?_
  refine .thn (k2 _ _ ?_)
  refine .seq fun _ k5 => .region (st (.as (Has.cU 18446744073709551615 rfl)) rfl ?_)
  refine st (.as (Has.cU 0 rfl)) rfl ?_
  refine st (.as (Has.cU 0 rfl)) rfl ?_
  refine nl (.thn (k5 _ _ ?_))
  refine .cutF [2, 3, 4, 10] (fun (z : { z : Nat × Nat // Gw u2 u1 u0 v1 v0 z.1 z.2 }) => match z with | ⟨(q, r), hI⟩ => [(11, isU q), (12, isU (r % 18446744073709551616)), (13, isU (r / 18446744073709551616))]) (fun M => fun (z : { z : Nat × Nat // Gw u2 u1 u0 v1 v0 z.1 z.2 }) => match z with | ⟨(q, r), hI⟩ => M) (fun K6 hK6 => ?_) ?_
  ·skip
   refine .seq fun _ k7 => .region (st (.mv (.t rfl)) rfl ?_)
   refine st (.mv (.t rfl)) rfl (st (.eqU (.t rfl) (.t rfl)) rfl ?_)
   refine nl (.thn (k7 _ _ ?_))
   refine .cv (Cv.wk (.k 0 rfl (.k 1 rfl (.k 2 rfl (.k 3 rfl (.k 4 rfl (.k 10 rfl (.k 11 rfl (.k 12 rfl (.k 13 rfl (.k 21 rfl .nil))))))))))) ?_
   refine .cond (.t rfl) (fun hc2 => ?_) (fun hc2 => ?_)
   ·have hc2 := BP.t hc2
    refine .region (st (.mv (.t rfl)) rfl ?_)
    refine st (.mv (.t rfl)) rfl (st (.add64 ext_add64 (.t rfl) (.t rfl) (Has.cU 0 rfl) (by first | with_reducible assumption | omega) ⟨(by first | with_reducible assumption | omega), (by first | with_reducible assumption | omega)⟩) rfl ?_)
    refine st (.mv (.t rfl)) rfl (st (.ext (.t rfl) rfl) rfl ?_)
    refine st (.ext (.t rfl) rfl) rfl ?_
    refine st (.as (.t rfl)) rfl (st (.as (.t rfl)) rfl ?_)
    refine nl ?_
    refine .thn ?_
    refine hK6 (⟨(18446744073709551615, u1 + v1), Gw.same hc2 lt1 lt3⟩) _ _ (Cv.mem (.cons (t := 11) (Has.t' rfl ?_) (.cons (t := 12) (Has.t' rfl ?_) (.cons (t := 13) (Has.t' rfl ?_) (.k 2 rfl (.k 3 rfl (.k 4 rfl (.k 10 rfl .nil))))))) ?_)
    ·rfl
    ·rfl
    ·rfl
    ·rfl
   ·have hc2 := BP.f hc2
    refine .region (st (.mv (.t rfl)) rfl ?_)
    refine st (.mv (.t rfl)) rfl (st (.mv (.t rfl)) rfl ?_)
    refine st (.call (bits_Div64 (by omega)) (.cons (.t rfl) (.cons (.t rfl) (.cons (.t rfl) .nil)))) rfl ?_
    refine st (.mv (.t rfl)) rfl (st (.ext (.t rfl) rfl) rfl ?_)
    refine st (.ext (.t rfl) rfl) rfl ?_
    refine st (.as (.t rfl)) rfl (st (.as (.t rfl)) rfl ?_)
    refine nl ?_
    refine .thn ?_
    have hm := Nat.mod_lt (u2 * 18446744073709551616 + u1) h
    refine hK6 (⟨((u2 * 18446744073709551616 + u1) / v1, (u2 * 18446744073709551616 + u1) % v1), Gw.start (by omega) lt1 lt2 lt3⟩) _ _ (Cv.mem (.cons (t := 11) (Has.t' rfl ?_) (.cons (t := 12) (Has.t' rfl ?_) (.cons (t := 13) (Has.t' rfl ?_) (.k 2 rfl (.k 3 rfl (.k 4 rfl (.k 10 rfl .nil))))))) ?_)
    ·rfl
    ·exact isU_eq (Nat.mod_eq_of_lt (by omega)).symm
    ·exact isU_eq (Nat.div_eq_of_lt (by omega)).symm
    ·rfl
  rintro ⟨⟨q, r⟩, g⟩
  refine .cv (Cv.wk (.k 11 rfl (.k 12 rfl (.k 13 rfl (.k 2 rfl (.k 3 rfl (.k 4 rfl (.k 10 rfl .nil)))))))) ?_
  simp only [] at g
  refine .seq fun _ k8 => ?_
  refine .block ?_
  refine .loopF [2, 3, 4, 10] (fun (z : { z : Nat × Nat // Gw u2 u1 u0 v1 v0 z.1 z.2 }) => match z with | ⟨(q, r), hI⟩ => [(11, isU q), (12, isU (r % 18446744073709551616)), (13, isU (r / 18446744073709551616))]) (fun M => fun (z : { z : Nat × Nat // Gw u2 u1 u0 v1 v0 z.1 z.2 }) => match z with | ⟨(q, r), hI⟩ => M) (fun (z : { z : Nat × Nat // Gw u2 u1 u0 v1 v0 z.1 z.2 }) => match z with | ⟨(q, r), hI⟩ => q) (⟨(q, r), g⟩) (Cv.mem (.cons (t := 11) (Has.t' rfl ?_) (.cons (t := 12) (Has.t' rfl ?_) (.cons (t := 13) (Has.t' rfl ?_) (.k 2 rfl (.k 3 rfl (.k 4 rfl (.k 10 rfl .nil))))))) ?_) ?_
  ·rfl
  ·rfl
  ·rfl
  ·rfl
  rintro ⟨⟨q, r⟩, g⟩ K9 hK9
  refine .cv (Cv.wk (.k 11 rfl (.k 12 rfl (.k 13 rfl (.k 2 rfl (.k 3 rfl (.k 4 rfl (.k 10 rfl .nil)))))))) ?_
  simp only [] at g
  have gq := g.q
  have gr := g.r
  refine .seq fun _ k10 => ?_
  refine .seq fun _ k11 => .region (st (.mv (.t rfl)) rfl ?_)
  refine st (.eqU (.t rfl) (Has.cU 0 rfl)) rfl ?_
  refine nl (.thn (k11 _ _ ?_))
  refine .cond (.t rfl) (fun hc3 => ?_) (fun hc3 => ?_)
  ·have hc3 := BP.t hc3
   refine .skip ?_
   refine .thn (k10 _ _ ?_)
   refine .block ?_
   refine .seq fun _ k12 => .region (st (.mv (.t rfl)) rfl ?_)
   refine st (.mv (.t rfl)) rfl (st (.call bits_Mul64 (.cons (.t rfl) (.cons (.t rfl) .nil))) rfl ?_)
   refine st (.mv (.t rfl)) rfl (st (.ext (.t rfl) rfl) rfl ?_)
   refine st (.ext (.t rfl) rfl) rfl ?_
   refine st (.as (.t rfl)) rfl (st (.as (.t rfl)) rfl ?_)
   refine nl (.thn (k12 _ _ ?_))
   refine .seq fun _ k13 => ?_
   refine .seq fun _ k14 => .region (st (.mv (.t rfl)) rfl ?_)
   refine st (.mv (.t rfl)) rfl (st (.ltU (.t rfl) (.t rfl)) rfl ?_)
   refine st (.mv (.t rfl)) rfl ?_
   refine stF rfl rfl (fun hg => have hg' := BP.t hg; OK1.mv (.t rfl)) rfl ?_
   refine stF rfl rfl (fun hg => have hg' := BP.t hg; OK1.mv (.t rfl)) rfl ?_
   refine stF rfl rfl (fun hg => have hg' := BP.t hg; OK1.eqU (Has.g rfl hg) (Has.g rfl hg)) rfl ?_
   refine stF rfl rfl (fun hg => have hg' := BP.t hg; OK1.mv (Has.g rfl hg)) rfl ?_
   refine stGT rfl rfl (fun hg => have hg' := BP.t hg; OK1.mv (.t rfl)) rfl ?_
   refine stGT rfl rfl (fun hg => have hg' := BP.t hg; OK1.mv (.t rfl)) rfl ?_
   refine stGT rfl rfl (fun hg => have hg' := BP.t hg; OK1.leU (Has.g rfl hg) (Has.g rfl hg)) rfl ?_
   refine stF rfl rfl (fun hg => have hg' := BP.t hg; OK1.pickAnd (Has.g rfl hg) (fun h => Has.g rfl (ga hg h))) rfl ?_
   refine st (.pickOr (.t rfl) (fun h => Has.g rfl (ng h))) rfl ?_
   refine nl (.thn (k14 _ _ ?_))
   refine .cond (.t rfl) (fun hc4 => ?_) (fun hc4 => ?_)
   ·have hc4 := BP.t hc4
    have ht := (test_le (p := q * v0) (r := r % 18446744073709551616) (u0 := u0) (by omega) lt2).1 hc4
    rw [Nat.mod_eq_of_lt (show r < 18446744073709551616 by omega)] at ht
    refine .exit ?_
    refine .the ?_
    refine .blm rfl ?_
    refine .the ?_
    refine .blh ?_
    refine .thn (k8 _ _ ?_)
    refine .cv (Cv.wk (.k 10 rfl (.k 11 rfl .nil))) ?_
    refine .seq fun _ k15 => .region (st (.mv (.t rfl)) rfl ?_)
    refine st (.as (.t rfl)) rfl ?_
    refine nl (.thn (k15 _ _ ?_))
    refine .ret ?_
    refine rt1 (.inl rfl) Try.results84 rfl (.tmp (Has.t' rfl ?_) .nil)
    all_goals (exact isU_eq (g.exit h ht))
   ·have hc4 := BP.f hc4
    have ht : ¬ _ := fun hh => absurd ((test_le (p := q * v0) (r := r % 18446744073709551616) (u0 := u0) (by omega) lt2).2 hh) (by omega)
    have hn := Gw.next h lt3 g (by omega) (by omega)
    refine .skip ?_
    refine .thn (k13 _ _ ?_)
    refine .seq fun _ k16 => .region (st (.mv (.t rfl)) rfl ?_)
    refine st (.subU' (.t rfl) (Has.cU 1 rfl) (by first | with_reducible assumption | omega) (by first | with_reducible assumption | omega)) rfl ?_
    refine st (.as (.t rfl)) rfl ?_
    refine nl (.thn (k16 _ _ ?_))
    refine .region (st (.mv (.t rfl)) rfl ?_)
    refine st (.mv (.t rfl)) rfl (st (.add64 ext_add64 (.t rfl) (.t rfl) (Has.cU 0 rfl) (by first | with_reducible assumption | omega) ⟨(by first | with_reducible assumption | omega), (by first | with_reducible assumption | omega)⟩) rfl ?_)
    refine st (.mv (.t rfl)) rfl (st (.ext (.t rfl) rfl) rfl ?_)
    refine st (.ext (.t rfl) rfl) rfl ?_
    refine st (.as (.t rfl)) rfl (st (.as (.t rfl)) rfl ?_)
    refine nl ?_
    refine .bln ?_
    refine .thn ?_
    refine hK9 (⟨(q - 1, r + v1), hn.1⟩) _ _ ?_ (Cv.mem (.cons (t := 11) (Has.t' rfl ?_) (.cons (t := 12) (Has.t' rfl ?_) (.cons (t := 13) (Has.t' rfl ?_) (.k 2 rfl (.k 3 rfl (.k 4 rfl (.k 10 rfl .nil))))))) ?_)
    ·show q - 1 < q; have := hn.2; omega
    ·rfl
    ·exact isU_eq (by show (r % _ + v1 + 0) % _ = (r + v1) % _; omega)
    ·exact isU_eq (by show (r % _ + v1 + 0) / _ = (r + v1) / _; omega)
    ·rfl
  ·have hc3 := BP.f hc3
   refine .exit ?_
   refine .the ?_
   refine .the ?_
   refine .blh ?_
   refine .thn (k8 _ _ ?_)
   refine .cv (Cv.wk (.k 10 rfl (.k 11 rfl .nil))) ?_
   refine .seq fun _ k17 => .region (st (.mv (.t rfl)) rfl ?_)
   refine st (.as (.t rfl)) rfl ?_
   refine nl (.thn (k17 _ _ ?_))
   refine .ret ?_
   refine rt1 (.inl rfl) Try.results84 rfl (.tmp (Has.t' rfl ?_) .nil)
   all_goals (exact isU_eq (g.exit2 h lt4 (by omega)))
end Go.Proofs.Ythkdmhaafanjlaa
namespace Go.Proofs.Ythkdmhaafanjlaa
open Go.En Go.RowKit
set_option maxRecDepth 10000
open Go.Nt
set_option maxHeartbeats 2000000 in
theorem div_take {N v q o c m : Nat} (h2 : o + ((List.length (words v)) + 1) ≤ m) (h3 : N / W ^ o < W ^ ((List.length (words v)) + 1)) : CtrM Try.prog 85 (fun b0 => [isWin b0 o ((List.length (words v)) + 1) c, isWords (words v), isU q]) (cellM (List.map isU (wordsN m N))) (cellM (List.map isU (wordsN m (N % W ^ o + W ^ o * (wdiff (N / W ^ o) (v * q) ((List.length (words v)) + 1)))))) (fun b0 => isB (decide (N / W ^ o < v * q))) := by
 refine CtrM.intro Try.func85 rfl (by kernel_rfl) Try.ntmps85 (fun _ => rfl) fun w0 F0 b0 => ?_
 refine .cv (Cv.wk (.k 0 rfl (.k 1 rfl (.k 2 rfl .nil)))) ?_
 refine .fact (Has.lenLt (Has.t (t := 0) rfl)) fun lt0 => ?_
 refine .fact (Has.winLe (Has.t (t := 0) rfl)) fun lw0 => ?_
 refine .fact (Has.lenLt (Has.t (t := 1) rfl)) fun lt1 => ?_
 refine .fact (Has.okW (Has.t (t := 1) rfl)) fun ok1 => ?_
 refine .fact (Has.ltU (Has.t (t := 2) rfl)) fun lt2 => ?_
 refine .seq fun _ k1 => .region (st (.as (Has.cB false)) rfl ?_)
 refine nl (.thn (k1 _ _ ?_))
 refine .seq fun _ k2 => .region (st (.as (Has.cU 0 rfl)) rfl ?_)
 refine st (.as (Has.cU 0 rfl)) rfl ?_
 refine nl (.thn (k2 _ _ ?_))
 refine .seq fun _ k3 => ?_
 refine .seq fun _ k4 => .region (st (.mv (.t rfl)) rfl ?_)
 refine st (.len sl28 (.t rfl)) rfl (st (.mv (Has.cI 0 rfl)) rfl ?_)
 refine nl (.thn (k4 _ _ ?_))
 refine .block ?_
 refine .loopF [0, 1, 2, 6, 14, 15] (fun (z : { i : Nat // i ≤ (List.length (words v)) }) => match z with | ⟨i, hI⟩ => [(16, isI (i : Int)), (7, isU (mcar 0 v q i)), (8, isU (bor (N / W ^ o) (v * q) i))]) (fun M => fun (z : { i : Nat // i ≤ (List.length (words v)) }) => match z with | ⟨i, hI⟩ => [(some b0, cellM (List.map isU (mix (o + i) (N % W ^ o + W ^ o * (wdiff (N / W ^ o) (v * q) ((List.length (words v)) + 1))) N m)))]) (fun (z : { i : Nat // i ≤ (List.length (words v)) }) => match z with | ⟨i, hI⟩ => (List.length (words v)) - i) (⟨0, Nat.zero_le _⟩) (Cv.mem (.cons (t := 16) (Has.t' rfl ?_) (.cons (t := 7) (Has.t' rfl ?_) (.cons (t := 8) (Has.t' rfl ?_) (.k 0 rfl (.k 1 rfl (.k 2 rfl (.k 6 rfl (.k 14 rfl (.k 15 rfl .nil))))))))) ?_) ?_
 ·rfl
 ·exact isU_eq (mcar_zero _ _ _)
 ·exact isU_eq (bor_zero _ _)
 ·exact memL_eq (mix_start (by omega) (win_mod _ _ _))
 rintro ⟨i, hI⟩ K5 hK5
 refine .cv (Cv.wk (.k 16 rfl (.k 7 rfl (.k 8 rfl (.k 0 rfl (.k 1 rfl (.k 2 rfl (.k 6 rfl (.k 14 rfl (.k 15 rfl .nil)))))))))) ?_
 refine .memEq (M' := [(some b0, cellM (List.map isU (mix (o + i) (N % W ^ o + W ^ o * (wdiff (N / W ^ o) (v * q) ((List.length (words v)) + 1))) N m)))]) rfl ?_
 have wl : (mix (o + i) (N % W ^ o + W ^ o * (wdiff (N / W ^ o) (v * q) ((List.length (words v)) + 1))) N m).length = m := mix_len (by omega)
 have hcl := Nat.lt_of_le_of_lt (mcar_le 0 v q i) lt2
 have hrow := take_word lt2 (dig_lt v i) hcl (dig_lt _ _) (mul_step0 v q i)
 refine .seq fun _ k6 => .region (st (.ltI (.t rfl) (.t rfl)) rfl ?_)
 refine nl (.thn (k6 _ _ ?_))
 refine .seq fun _ k7 => ?_
 refine .cond (.t rfl) (fun hc1 => ?_) (fun hc1 => ?_)
 ·have hc1 := BP.t hc1
  refine .skip ?_
  refine .thn (k7 _ _ ?_)
  refine .seq fun _ k8 => ?_
  refine .block ?_
  refine .seq fun _ k9 => .region (st (.mv (.t rfl)) rfl ?_)
  refine st (.ixP sl28 ty48 (.t rfl) (.t rfl) ⟨by omega, by omega⟩ (getD_some (d := 0) (by first | omega | (simp only [Int.toNat_natCast, List.length_set]; omega)))) rfl ?_
  refine st (.eq (.loadP1 (.t rfl) ty48) (isU_eq (getD_words _ i))) rfl ?_
  refine st (.as (.t rfl)) rfl (st (.as (.t rfl)) rfl ?_)
  refine nl (.thn (k9 _ _ ?_))
  refine .seq fun _ k10 => .region (st (.mv (.t rfl)) rfl ?_)
  refine st (.mv (.t rfl)) rfl (st (.call (bits_Mul64) (.cons (.t rfl) (.cons (.t rfl) .nil))) rfl ?_)
  refine st (.mv (.t rfl)) rfl (st (.ext (.t rfl) rfl) rfl ?_)
  refine st (.ext (.t rfl) rfl) rfl ?_
  refine st (.as (.t rfl)) rfl (st (.as (.t rfl)) rfl ?_)
  refine nl (.thn (k10 _ _ ?_))
  refine .seq fun _ k11 => .region (st (.as (Has.cU 0 rfl)) rfl ?_)
  refine nl (.thn (k11 _ _ ?_))
  refine .seq fun _ k12 => .region (st (.mv (.t rfl)) rfl ?_)
  refine st (.mv (.t rfl)) rfl (st (.add64 ext_add64 (.t rfl) (.t rfl) (Has.cU 0 rfl) (by first | with_reducible assumption | with_reducible exact bor_le _ _ _ | with_reducible exact dig_lt _ _ | omega) ⟨(by first | with_reducible assumption | with_reducible exact bor_le _ _ _ | with_reducible exact dig_lt _ _ | omega), (by first | with_reducible assumption | with_reducible exact bor_le _ _ _ | with_reducible exact dig_lt _ _ | omega)⟩) rfl ?_)
  refine st (.mv (.t rfl)) rfl (st (.ext (.t rfl) rfl) rfl ?_)
  refine st (.ext (.t rfl) rfl) rfl ?_
  refine st (.as (.t rfl)) rfl (st (.as (.t rfl)) rfl ?_)
  refine nl (.thn (k12 _ _ ?_))
  refine .seq fun _ k13 => .region (st (.mv (.t rfl)) rfl ?_)
  refine st (.mv (.t rfl)) rfl (st (.addU' (.t rfl) (.t rfl) (by first | with_reducible assumption | with_reducible exact bor_le _ _ _ | with_reducible exact dig_lt _ _ | omega)) rfl ?_)
  refine st (.as (.t rfl)) rfl ?_
  refine nl (.thn (k13 _ _ ?_))
  refine .region (st (.mv (.t rfl)) rfl ?_)
  refine st (.mv (.t rfl)) rfl (st (.mv (.t rfl)) rfl ?_)
  refine st (.mv (.t rfl)) rfl (st (.eq (.ixWin sl28 ty48 (.t rfl) (.t rfl) ⟨by omega, by omega⟩) (isPtr_eq (by first | exact ixo0 | exact ixo2 | exact ixo1))) rfl ?_)
  refine st (.eq (.load1 (.t rfl) (i := 0) rfl ty48 (map_some (getD_some (d := 0) (by first | omega | (simp only [Int.toNat_natCast, List.length_set]; omega))))) (isU_eq (rowGet (by omega)))) rfl ?_
  refine st (.mv (.t rfl)) rfl (st (.mv (.t rfl)) rfl ?_)
  refine st (.sub64 ext_sub64 (.t rfl) (.t rfl) (.t rfl) (by first | with_reducible assumption | with_reducible exact bor_le _ _ _ | with_reducible exact dig_lt _ _ | omega) ⟨(by first | with_reducible assumption | with_reducible exact bor_le _ _ _ | with_reducible exact dig_lt _ _ | omega), (by first | with_reducible assumption | with_reducible exact bor_le _ _ _ | with_reducible exact dig_lt _ _ | omega)⟩) rfl ?_
  refine st (.mv (.t rfl)) rfl (st (.ext (.t rfl) rfl) rfl ?_)
  refine st (.ext (.t rfl) rfl) rfl (st (.eq (.ixWin sl28 ty48 (.t rfl) (.t rfl) ⟨by omega, by omega⟩) (isPtr_eq (by first | exact ixo0 | exact ixo2 | exact ixo1))) rfl ?_)
  refine .storeM (.t rfl) (.t rfl) (i := 0) rfl ty48 (by first | omega | (simp only [Int.toNat_natCast, List.length_set, List.length_replicate]; omega)) (M' := [(_, _)]) rfl ?_
  refine st (.as (.t rfl)) rfl ?_
  refine nl ?_
  refine .bln ?_
  refine .thn (k8 _ _ ?_)
  refine .region (st (.addI (.t rfl) (Has.cI 1 rfl) (by first | with_reducible assumption | with_reducible exact bor_le _ _ _ | with_reducible exact dig_lt _ _ | omega) (by first | with_reducible assumption | with_reducible exact bor_le _ _ _ | with_reducible exact dig_lt _ _ | omega)) rfl ?_)
  refine st (.mv (.t rfl)) rfl ?_
  refine nl ?_
  refine .thn ?_
  refine hK5 (⟨i + 1, by omega⟩) _ _ ?_ (Cv.mem (.cons (t := 16) (Has.t' rfl ?_) (.cons (t := 7) (Has.t' rfl ?_) (.cons (t := 8) (Has.t' rfl ?_) (.k 0 rfl (.k 1 rfl (.k 2 rfl (.k 6 rfl (.k 14 rfl (.k 15 rfl .nil))))))))) ?_)
  ·show (List.length (words v)) - (i + 1) < (List.length (words v)) - i; omega
  ·rfl
  ·exact isU_eq hrow.2.1
  ·exact isU_eq (by rw [hrow.1]; exact bor_succ _ _ _)
  ·exact memL_eq (winPut (by omega) (by rw [hrow.1]; exact wd_dig (vq_lt (nw_lt v) lt2) (by omega)))
 ·have hc1 := BP.f hc1
  refine .exit ?_
  refine .the ?_
  refine .the ?_
  refine .blh ?_
  refine .thn (k3 _ _ ?_)
  refine .cv (Cv.wk (.k 0 rfl (.k 1 rfl (.k 6 rfl (.k 7 rfl (.k 8 rfl .nil)))))) ?_
  refine .seq fun _ k14 => .region (st (.mv (.t rfl)) rfl ?_)
  refine st (.mv (.t rfl)) rfl (st (.len sl28 (.t rfl)) rfl ?_)
  refine st (.mv (.t rfl)) rfl (st (.mv (.t rfl)) rfl ?_)
  refine st (.len sl28 (.t rfl)) rfl (st (.eq (.ixWin sl28 ty48 (.t rfl) (.t rfl) ⟨by omega, by omega⟩) (isPtr_eq (by first | exact ixo0 | exact ixo2 | exact ixo1))) rfl ?_)
  refine st (.eq (.load1 (.t rfl) (i := 0) rfl ty48 (map_some (getD_some (d := 0) (by first | omega | (simp only [Int.toNat_natCast, List.length_set]; omega))))) ((isU_eq (rowGet' (j := (List.length (words v))) (by omega) (by omega))))) rfl ?_
  refine st (.mv (.t rfl)) rfl (st (.mv (.t rfl)) rfl ?_)
  refine st (.sub64 (l := dig (N / W ^ o) ((List.length (words v)))) (m := mcar 0 v q i) (c := bor (N / W ^ o) (v * q) i) ext_sub64 (.t rfl) (.t rfl) (.t rfl) (bor_le _ _ _) ⟨dig_lt _ _, hcl⟩) rfl ?_
  refine st (.mv (.t rfl)) rfl (st (.ext (.t rfl) rfl) rfl ?_)
  refine st (.ext (.t rfl) rfl) rfl (st (.eq (.ixWin sl28 ty48 (.t rfl) (.t rfl) ⟨by omega, by omega⟩) (isPtr_eq (by first | exact ixo0 | exact ixo2 | exact ixo1))) rfl ?_)
  refine .storeM (.t rfl) (.t rfl) (i := 0) rfl ty48 (by first | omega | (simp only [Int.toNat_natCast, List.length_set, List.length_replicate]; omega)) (M' := [(_, _)]) rfl ?_
  refine st (.as (.t rfl)) rfl ?_
  refine nl (.thn (k14 _ _ ?_))
  refine .cv (Cv.wk (.k 6 rfl (.k 8 rfl .nil))) ?_
  refine .seq fun _ k15 => .region (st (.mv (.t rfl)) rfl ?_)
  refine st (.neU (.t rfl) (Has.cU 0 rfl)) rfl ?_
  refine st (.as (.t rfl)) rfl ?_
  refine nl (.thn (k15 _ _ ?_))
  refine .ret ?_
  refine rtM1 (.inl rfl) Try.results85 rfl (i := 0) ?_ (.tmp (Has.t' rfl ?_) .nil)
  ·obtain rfl : i = (List.length (words v)) := (by omega); exact memU_eq ((winPut (by omega) (takeTop (nw_lt v) lt2)).trans (winEnd (by omega) h3 (wdiff_lt _ _ _)))
  ·obtain rfl : i = (List.length (words v)) := (by omega); exact isB_eq (takeBor (nw_lt v) lt2 h3)
set_option maxHeartbeats 2000000 in
theorem div_back {N v o c m : Nat} (h2 : o + ((List.length (words v)) + 1) ≤ m) (h3 : N / W ^ o < W ^ ((List.length (words v)) + 1)) : CtrM Try.prog 86 (fun b0 => [isWin b0 o ((List.length (words v)) + 1) c, isWords (words v)]) (cellM (List.map isU (wordsN m N))) (cellM (List.map isU (wordsN m (N % W ^ o + W ^ o * (wsum (N / W ^ o) v ((List.length (words v)) + 1)))))) (fun b0 => isTup []) := by
 refine CtrM.intro Try.func86 rfl (by kernel_rfl) Try.ntmps86 (fun _ => rfl) fun w0 F0 b0 => ?_
 refine .cv (Cv.wk (.k 0 rfl (.k 1 rfl .nil))) ?_
 refine .fact (Has.lenLt (Has.t (t := 0) rfl)) fun lt0 => ?_
 refine .fact (Has.winLe (Has.t (t := 0) rfl)) fun lw0 => ?_
 refine .fact (Has.lenLt (Has.t (t := 1) rfl)) fun lt1 => ?_
 refine .fact (Has.okW (Has.t (t := 1) rfl)) fun ok1 => ?_
 refine .seq fun _ k1 => .region (st (.as (Has.cU 0 rfl)) rfl ?_)
 refine nl (.thn (k1 _ _ ?_))
 refine .seq fun _ k2 => ?_
 refine .seq fun _ k3 => .region (st (.mv (.t rfl)) rfl ?_)
 refine st (.len sl28 (.t rfl)) rfl (st (.mv (Has.cI 0 rfl)) rfl ?_)
 refine nl (.thn (k3 _ _ ?_))
 refine .block ?_
 refine .loopF [0, 1, 7, 8] (fun (z : { i : Nat // i ≤ (List.length (words v)) }) => match z with | ⟨i, hI⟩ => [(9, isI (i : Int)), (4, isU (car (N / W ^ o) v i))]) (fun M => fun (z : { i : Nat // i ≤ (List.length (words v)) }) => match z with | ⟨i, hI⟩ => [(some b0, cellM (List.map isU (mix (o + i) (N % W ^ o + W ^ o * (wsum (N / W ^ o) v ((List.length (words v)) + 1))) N m)))]) (fun (z : { i : Nat // i ≤ (List.length (words v)) }) => match z with | ⟨i, hI⟩ => (List.length (words v)) - i) (⟨0, Nat.zero_le _⟩) (Cv.mem (.cons (t := 9) (Has.t' rfl ?_) (.cons (t := 4) (Has.t' rfl ?_) (.k 0 rfl (.k 1 rfl (.k 7 rfl (.k 8 rfl .nil)))))) ?_) ?_
 ·rfl
 ·exact isU_eq (car_zero _ _)
 ·exact memL_eq (mix_start (by omega) (win_mod _ _ _))
 rintro ⟨i, hI⟩ K4 hK4
 refine .cv (Cv.wk (.k 9 rfl (.k 4 rfl (.k 0 rfl (.k 1 rfl (.k 7 rfl (.k 8 rfl .nil))))))) ?_
 refine .memEq (M' := [(some b0, cellM (List.map isU (mix (o + i) (N % W ^ o + W ^ o * (wsum (N / W ^ o) v ((List.length (words v)) + 1))) N m)))]) rfl ?_
 have wl : (mix (o + i) (N % W ^ o + W ^ o * (wsum (N / W ^ o) v ((List.length (words v)) + 1))) N m).length = m := mix_len (by omega)
 refine .seq fun _ k5 => .region (st (.ltI (.t rfl) (.t rfl)) rfl ?_)
 refine nl (.thn (k5 _ _ ?_))
 refine .seq fun _ k6 => ?_
 refine .cond (.t rfl) (fun hc1 => ?_) (fun hc1 => ?_)
 ·have hc1 := BP.t hc1
  refine .skip ?_
  refine .thn (k6 _ _ ?_)
  refine .seq fun _ k7 => ?_
  refine .block ?_
  refine .seq fun _ k8 => .region (st (.mv (.t rfl)) rfl ?_)
  refine st (.ixP sl28 ty48 (.t rfl) (.t rfl) ⟨by omega, by omega⟩ (getD_some (d := 0) (by first | omega | (simp only [Int.toNat_natCast, List.length_set]; omega)))) rfl ?_
  refine st (.eq (.loadP1 (.t rfl) ty48) (isU_eq (getD_words _ i))) rfl ?_
  refine st (.as (.t rfl)) rfl (st (.as (.t rfl)) rfl ?_)
  refine nl (.thn (k8 _ _ ?_))
  refine .region (st (.mv (.t rfl)) rfl ?_)
  refine st (.mv (.t rfl)) rfl (st (.mv (.t rfl)) rfl ?_)
  refine st (.mv (.t rfl)) rfl (st (.eq (.ixWin sl28 ty48 (.t rfl) (.t rfl) ⟨by omega, by omega⟩) (isPtr_eq (by first | exact ixo0 | exact ixo2 | exact ixo1))) rfl ?_)
  refine st (.eq (.load1 (.t rfl) (i := 0) rfl ty48 (map_some (getD_some (d := 0) (by first | omega | (simp only [Int.toNat_natCast, List.length_set]; omega))))) (isU_eq (rowGet (by omega)))) rfl ?_
  refine st (.mv (.t rfl)) rfl (st (.mv (.t rfl)) rfl ?_)
  refine st (.add64 ext_add64 (.t rfl) (.t rfl) (.t rfl) (by first | with_reducible assumption | with_reducible exact car_le _ _ _ | with_reducible exact dig_lt _ _ | omega) ⟨(by first | with_reducible assumption | with_reducible exact car_le _ _ _ | with_reducible exact dig_lt _ _ | omega), (by first | with_reducible assumption | with_reducible exact car_le _ _ _ | with_reducible exact dig_lt _ _ | omega)⟩) rfl ?_
  refine st (.mv (.t rfl)) rfl (st (.ext (.t rfl) rfl) rfl ?_)
  refine st (.ext (.t rfl) rfl) rfl (st (.eq (.ixWin sl28 ty48 (.t rfl) (.t rfl) ⟨by omega, by omega⟩) (isPtr_eq (by first | exact ixo0 | exact ixo2 | exact ixo1))) rfl ?_)
  refine .storeM (.t rfl) (.t rfl) (i := 0) rfl ty48 (by first | omega | (simp only [Int.toNat_natCast, List.length_set, List.length_replicate]; omega)) (M' := [(_, _)]) rfl ?_
  refine st (.as (.t rfl)) rfl ?_
  refine nl ?_
  refine .bln ?_
  refine .thn (k7 _ _ ?_)
  refine .region (st (.addI (.t rfl) (Has.cI 1 rfl) (by first | with_reducible assumption | with_reducible exact car_le _ _ _ | with_reducible exact dig_lt _ _ | omega) (by first | with_reducible assumption | with_reducible exact car_le _ _ _ | with_reducible exact dig_lt _ _ | omega)) rfl ?_)
  refine st (.mv (.t rfl)) rfl ?_
  refine nl ?_
  refine .thn ?_
  refine hK4 (⟨i + 1, by omega⟩) _ _ ?_ (Cv.mem (.cons (t := 9) (Has.t' rfl ?_) (.cons (t := 4) (Has.t' rfl ?_) (.k 0 rfl (.k 1 rfl (.k 7 rfl (.k 8 rfl .nil)))))) ?_)
  ·show (List.length (words v)) - (i + 1) < (List.length (words v)) - i; omega
  ·rfl
  ·exact isU_eq (add_car _ _ _)
  ·exact memL_eq (winPut (by omega) (ws_dig (by omega)))
 ·have hc1 := BP.f hc1
  refine .exit ?_
  refine .the ?_
  refine .the ?_
  refine .blh ?_
  refine .thn (k2 _ _ ?_)
  refine .region (st (.mv (.t rfl)) rfl ?_)
  refine st (.mv (.t rfl)) rfl (st (.len sl28 (.t rfl)) rfl ?_)
  refine st (.eq (.ixWin sl28 ty48 (.t rfl) (.t rfl) ⟨by omega, by omega⟩) (isPtr_eq (by first | exact ixo0 | exact ixo2 | exact ixo1))) rfl ?_
  refine st (.eq (.load1 (.t rfl) (i := 0) rfl ty48 (map_some (getD_some (d := 0) (by first | omega | (simp only [Int.toNat_natCast, List.length_set]; omega))))) ((isU_eq (rowGet' (j := (List.length (words v))) (by omega) (by omega))))) rfl ?_
  refine st (.mv (.t rfl)) rfl (st (.addU (.t rfl) (.t rfl)) rfl ?_)
  refine st (.eq (.ixWin sl28 ty48 (.t rfl) (.t rfl) ⟨by omega, by omega⟩) (isPtr_eq (by first | exact ixo0 | exact ixo2 | exact ixo1))) rfl ?_
  refine .storeM (.t rfl) (.t rfl) (i := 0) rfl ty48 (by first | omega | (simp only [Int.toNat_natCast, List.length_set, List.length_replicate]; omega)) (M' := [(_, _)]) rfl ?_
  refine nl ?_
  refine rtM0 (.inr rfl) Try.results86 rfl (i := 0) ?_
  all_goals (obtain rfl : i = (List.length (words v)) := (by omega); exact memU_eq ((winPut (by omega) (backTop (nw_lt v))).trans (winEnd (by omega) h3 (wsum_lt _ _ _))))
end Go.Proofs.Ythkdmhaafanjlaa
namespace Go.Proofs.Ythkdmhaafanjlaa
open Go.En Go.RowKit
set_option maxRecDepth 10000
set_option maxHeartbeats 4000000
open Go.Nt
theorem div_long {N v c m : Nat} (hn : 2 ≤ (List.length (words v))) (hm : (List.length (words v)) < m) (hM : m ≤ 4294967296) (hN : N < v * W ^ (m - (List.length (words v)))) : CtrM Try.prog 53 (fun b0 => [isWin b0 0 m c, isWords (words v)]) (cellM (List.map isU (wordsN m N))) (cellM (List.map isU (wordsN m (left N v 0)))) (fun b0 => isWords (wordsN (m - (List.length (words v))) (N / v))) := by
 refine CtrM.intro Try.func53 rfl (by kernel_rfl) Try.ntmps53 (fun _ => rfl) fun w0 F0 b0 => ?_
 refine .cv (Cv.wk (.k 0 rfl (.k 1 rfl .nil))) ?_
 refine .fact (Has.lenLt (Has.t (t := 0) rfl)) fun lt0 => ?_
 refine .fact (Has.winLe (Has.t (t := 0) rfl)) fun lw0 => ?_
 refine .fact (Has.lenLt (Has.t (t := 1) rfl)) fun lt1 => ?_
 refine .fact (Has.okW (Has.t (t := 1) rfl)) fun ok1 => ?_
 refine .seq fun _ k1 => .region (st (.as (Has.cW (f := isU))) rfl ?_)
 refine nl (.thn (k1 _ _ ?_))
 refine .seq fun _ k2 => .region (st (.mv (.t rfl)) rfl ?_)
 refine st (.len sl28 (.t rfl)) rfl (st (.as (.t rfl)) rfl ?_)
 refine nl (.thn (k2 _ _ ?_))
 refine .seq fun _ k3 => .region (st (.mv (.t rfl)) rfl ?_)
 refine st (.len sl28 (.t rfl)) rfl ?_
 refine st (.mv (.t rfl)) rfl (st (.eq (.subI (.t rfl) (.t rfl) (by first | with_reducible assumption | omega | with_reducible exact dig_lt _ _) (by first | with_reducible assumption | omega | with_reducible exact dig_lt _ _)) ((show isI _ = isI ((m - (List.length (words v)) : Nat) : Int) from isI_eq (by omega)))) rfl ?_)
 refine .make (f := isU) (u := 0) (n := m - (List.length (words v))) (c := m - (List.length (words v))) sl28 ty48 zero48 (fun _ _ => ⟨⟨rfl, by decide⟩, trivial⟩) by48 (Has.t' rfl rfl) (Has.t' rfl rfl) ⟨by omega, by omega⟩ rfl fun b1 => ?_
 refine st (.as (.t rfl)) rfl ?_
 refine nl (.thn (k3 _ _ ?_))
 refine .cv (Cv.wk (.k 0 rfl (.k 1 rfl (.k 4 rfl (.k 5 rfl (.k 6 rfl .nil)))))) ?_
 refine .seq fun _ k4 => ?_
 refine .seq fun _ k5 => .region (st (.mv (.t rfl)) rfl ?_)
 refine st (.len sl28 (.t rfl)) rfl (st (.subI (.t rfl) (Has.cI 1 rfl) (by first | with_reducible assumption | omega | with_reducible exact dig_lt _ _) (by first | with_reducible assumption | omega | with_reducible exact dig_lt _ _)) rfl ?_)
 refine st (.as (.t rfl)) rfl ?_
 refine nl (.thn (k5 _ _ ?_))
 refine .block ?_
 refine .loopF [0, 1, 4, 5, 6] (fun (z : { k : Nat // k ≤ m - (List.length (words v)) }) => match z with | ⟨k, hI⟩ => [(7, isI ((k : Int) - 1))]) (fun M => fun (z : { k : Nat // k ≤ m - (List.length (words v)) }) => match z with | ⟨k, hI⟩ => [(some b1, cellM (List.map isU (mix k 0 (N / v) (m - (List.length (words v)))))), (some b0, cellM (List.map isU (wordsN m (left N v k))))]) (fun (z : { k : Nat // k ≤ m - (List.length (words v)) }) => match z with | ⟨k, hI⟩ => k) (⟨m - (List.length (words v)), Nat.le_refl _⟩) (Cv.mem (.cons (t := 7) (Has.t' rfl ?_) (.k 0 rfl (.k 1 rfl (.k 4 rfl (.k 5 rfl (.k 6 rfl .nil)))))) ?_) ?_
 ·rfl
 ·exact mem2_eq (outStart _ _) (by rw [left_top hN])
 rintro ⟨k, hI⟩ K6 hK6
 refine .cv (Cv.wk (.k 7 rfl (.k 0 rfl (.k 1 rfl (.k 4 rfl (.k 5 rfl (.k 6 rfl .nil))))))) ?_
 refine .memEq (M' := [(some b1, cellM (List.map isU (mix k 0 (N / v) (m - (List.length (words v)))))), (some b0, cellM (List.map isU (wordsN m (left N v k))))]) rfl ?_
 have wl : (wordsN m (left N v k)).length = m := wordsN_len _ _
 have wl2 : (mix k 0 (N / v) (m - (List.length (words v)))).length = m - (List.length (words v)) := mix_len hI
 refine .seq fun _ k7 => ?_
 refine .seq fun _ k8 => .region (st (.mv (.t rfl)) rfl ?_)
 refine st (.geI (.t rfl) (Has.cI 0 rfl)) rfl ?_
 refine nl (.thn (k8 _ _ ?_))
 refine .cond (.t rfl) (fun hc1 => ?_) (fun hc1 => ?_)
 ·have hc1 := BP.t hc1
  obtain ⟨j, rfl⟩ : ∃ j, k = j + 1 := ⟨k - 1, by omega⟩
  obtain ⟨k2, hk2⟩ : ∃ k2, (List.length (words v)) = k2 + 2 := ⟨(List.length (words v)) - 2, by omega⟩
  have ej : (((j + 1 : Nat) : Int) - 1) = (j : Int) := by omega
  obtain ⟨g, hg⟩ : ∃ g, g = gss (dig (left N v (j + 1) / W ^ j) (k2 + 2)) (dig (left N v (j + 1) / W ^ j) (k2 + 1)) (dig (left N v (j + 1) / W ^ j) k2) (dig v (k2 + 1)) (dig v k2) := ⟨_, rfl⟩
  have hgl : g < 18446744073709551616 := hg ▸ gss_lt _ _ _ _ _
  have R := round hk2 hg hgl
  refine .skip ?_
  refine .thn (k7 _ _ ?_)
  refine .seq fun _ k9 => ?_
  refine .block ?_
  refine .seq fun _ k10 => ?_
  refine .dr ?_
  refine .s [] rfl rfl rfl (.o rfl (.mv (.t rfl))) ?_
  refine .s [] rfl rfl rfl (.o rfl (.eq (.mv (.t rfl)) ((isI_eq ej)))) ?_
  refine .s [] rfl rfl rfl (.o rfl (.mv (.t rfl))) ?_
  refine .s [25, 26] rfl rfl rfl (.o rfl (.addI (.t rfl) (.t rfl) (by first | with_reducible assumption | omega | with_reducible exact dig_lt _ _) (by first | with_reducible assumption | omega | with_reducible exact dig_lt _ _))) ?_
  refine .s [24, 27] rfl rfl rfl (.o rfl (.eq (.ixWin sl28 ty48 (.t rfl) (.t rfl) ⟨by omega, by omega⟩) (isPtr_eq (by first | exact ixo0 | exact ixo2 | exact ixo1)))) ?_
  refine .s [28] rfl rfl rfl (.o rfl (.eq (.load1 (.t rfl) (i := 1) rfl ty48 (map_some (getD_some (d := 0) (by first | omega | (simp only [Int.toNat_natCast, List.length_set]; omega))))) ((show isU _ = isU (dig (left N v (j + 1) / W ^ j) (k2 + 2)) from isU_eq (getW (by omega) (by omega)))))) ?_
  refine .s [] rfl rfl rfl (.o rfl (.mv (.t rfl))) ?_
  refine .s [] rfl rfl rfl (.o rfl (.eq (.mv (.t rfl)) ((isI_eq ej)))) ?_
  refine .s [] rfl rfl rfl (.o rfl (.mv (.t rfl))) ?_
  refine .s [31, 32] rfl rfl rfl (.o rfl (.addI (.t rfl) (.t rfl) (by first | with_reducible assumption | omega | with_reducible exact dig_lt _ _) (by first | with_reducible assumption | omega | with_reducible exact dig_lt _ _))) ?_
  refine .s [33] rfl rfl rfl (.o rfl (.subI (.t rfl) (Has.cI 1 rfl) (by first | with_reducible assumption | omega | with_reducible exact dig_lt _ _) (by first | with_reducible assumption | omega | with_reducible exact dig_lt _ _))) ?_
  refine .s [30, 34] rfl rfl rfl (.o rfl (.eq (.ixWin sl28 ty48 (.t rfl) (.t rfl) ⟨by omega, by omega⟩) (isPtr_eq (by first | exact ixo0 | exact ixo2 | exact ixo1)))) ?_
  refine .s [35] rfl rfl rfl (.o rfl (.eq (.load1 (.t rfl) (i := 1) rfl ty48 (map_some (getD_some (d := 0) (by first | omega | (simp only [Int.toNat_natCast, List.length_set]; omega))))) ((show isU _ = isU (dig (left N v (j + 1) / W ^ j) (k2 + 1)) from isU_eq (getW (by omega) (by omega)))))) ?_
  refine .s [] rfl rfl rfl (.o rfl (.mv (.t rfl))) ?_
  refine .s [] rfl rfl rfl (.o rfl (.eq (.mv (.t rfl)) ((isI_eq ej)))) ?_
  refine .s [] rfl rfl rfl (.o rfl (.mv (.t rfl))) ?_
  refine .s [38, 39] rfl rfl rfl (.o rfl (.addI (.t rfl) (.t rfl) (by first | with_reducible assumption | omega | with_reducible exact dig_lt _ _) (by first | with_reducible assumption | omega | with_reducible exact dig_lt _ _))) ?_
  refine .s [40] rfl rfl rfl (.o rfl (.subI (.t rfl) (Has.cI 2 rfl) (by first | with_reducible assumption | omega | with_reducible exact dig_lt _ _) (by first | with_reducible assumption | omega | with_reducible exact dig_lt _ _))) ?_
  refine .s [37, 41] rfl rfl rfl (.o rfl (.eq (.ixWin sl28 ty48 (.t rfl) (.t rfl) ⟨by omega, by omega⟩) (isPtr_eq (by first | exact ixo0 | exact ixo2 | exact ixo1)))) ?_
  refine .s [42] rfl rfl rfl (.o rfl (.eq (.load1 (.t rfl) (i := 1) rfl ty48 (map_some (getD_some (d := 0) (by first | omega | (simp only [Int.toNat_natCast, List.length_set]; omega))))) ((show isU _ = isU (dig (left N v (j + 1) / W ^ j) (k2)) from isU_eq (getW (by omega) (by omega)))))) ?_
  refine .s [] rfl rfl rfl (.o rfl (.mv (.t rfl))) ?_
  refine .s [] rfl rfl rfl (.o rfl (.mv (.t rfl))) ?_
  refine .s [45] rfl rfl rfl (.o rfl (.subI (.t rfl) (Has.cI 1 rfl) (by first | with_reducible assumption | omega | with_reducible exact dig_lt _ _) (by first | with_reducible assumption | omega | with_reducible exact dig_lt _ _))) ?_
  refine .s [44, 46] rfl rfl rfl (.o rfl (.ixP sl28 ty48 (.t rfl) (.t rfl) ⟨by omega, by omega⟩ (getD_some (d := 0) (by first | omega | (simp only [Int.toNat_natCast, List.length_set]; omega))))) ?_
  refine .s [47] rfl rfl rfl (.o rfl (.eq (.loadP1 (.t rfl) ty48) ((show isU _ = isU (dig v (k2 + 1)) from isU_eq (getV (by omega)))))) ?_
  refine .s [] rfl rfl rfl (.o rfl (.mv (.t rfl))) ?_
  refine .s [] rfl rfl rfl (.o rfl (.mv (.t rfl))) ?_
  refine .s [50] rfl rfl rfl (.o rfl (.subI (.t rfl) (Has.cI 2 rfl) (by first | with_reducible assumption | omega | with_reducible exact dig_lt _ _) (by first | with_reducible assumption | omega | with_reducible exact dig_lt _ _))) ?_
  refine .s [49, 51] rfl rfl rfl (.o rfl (.ixP sl28 ty48 (.t rfl) (.t rfl) ⟨by omega, by omega⟩ (getD_some (d := 0) (by first | omega | (simp only [Int.toNat_natCast, List.length_set]; omega))))) ?_
  refine .s [52] rfl rfl rfl (.o rfl (.eq (.loadP1 (.t rfl) ty48) ((show isU _ = isU (dig v k2) from isU_eq (getV (by omega)))))) ?_
  refine .fin (n := 30) mixed (by kernel_rfl) (by kernel_rfl) (by kernel_rfl) ?_
  refine .cv (Cv.wk (.k 0 rfl (.k 1 rfl (.k 4 rfl (.k 5 rfl (.k 6 rfl (.k 7 rfl (.k 20 rfl (.k 21 rfl (.k 24 rfl (.k 25 rfl (.k 26 rfl (.k 27 rfl (.k 28 rfl (.k 29 rfl (.k 30 rfl (.k 31 rfl (.k 32 rfl (.k 33 rfl (.k 34 rfl (.k 35 rfl (.k 36 rfl (.k 37 rfl (.k 38 rfl (.k 39 rfl (.k 40 rfl (.k 41 rfl (.k 42 rfl (.k 43 rfl (.k 44 rfl (.k 45 rfl (.k 46 rfl (.k 47 rfl (.k 48 rfl (.k 49 rfl (.k 50 rfl (.k 51 rfl (.k 52 rfl (.k 53 rfl .nil))))))))))))))))))))))))))))))))))))))) ?_
  refine st (.eq (.call (div_guess R.hd) (.cons (.t rfl) (.cons (.t rfl) (.cons (.t rfl) (.cons (.t rfl) (.cons (.t rfl) .nil)))))) ((show isU _ = isU g from isU_eq hg.symm))) rfl ?_
  refine st (.as (.t rfl)) rfl ?_
  refine nl (.thn (k10 _ _ ?_))
  refine .seq fun _ k11 => .region (st (.mv (.t rfl)) rfl ?_)
  refine st (.eq (.mv (.t rfl)) ((isI_eq ej))) rfl ?_
  refine st (.eq (.mv (.t rfl)) ((isI_eq ej))) rfl ?_
  refine st (.mv (.t rfl)) rfl (st (.addI (.t rfl) (.t rfl) (by first | with_reducible assumption | omega | with_reducible exact dig_lt _ _) (by first | with_reducible assumption | omega | with_reducible exact dig_lt _ _)) rfl ?_)
  refine st (.addI (.t rfl) (Has.cI 1 rfl) (by first | with_reducible assumption | omega | with_reducible exact dig_lt _ _) (by first | with_reducible assumption | omega | with_reducible exact dig_lt _ _)) rfl ?_
  refine st (.eq (.eq (.slLHWin sl28 ty48 (.t rfl) (.t rfl) (.t rfl) ⟨by omega, by omega, by omega, by omega⟩) (isWin_eq (by first | exact ixo0 | exact ixo1) rfl rfl)) ((show isWin _ _ _ _ = isWin b0 j ((List.length (words v)) + 1) (c - j) from isWin_eq (by omega) (by omega) (by omega)))) rfl ?_
  refine st (.as (.t rfl)) rfl ?_
  refine nl (.thn (k11 _ _ ?_))
  refine .seq fun _ k12 => ?_
  refine .seq fun _ k13 => .region (st (.mv (.t rfl)) rfl ?_)
  refine st (.mv (.t rfl)) rfl (st (.mv (.t rfl)) rfl ?_)
  refine .callM (div_take (N := left N v (j + 1)) (o := j) (v := v) (q := g) (m := m) (by omega) R.hw) (i := 1) rfl (.cons (.t rfl) (.cons (.t rfl) (.cons (.t rfl) .nil))) rfl (M' := [_, (_, _)]) rfl ?_
  refine nl (.thn (k13 _ _ ?_))
  refine .cond (.t rfl) (fun hc2 => ?_) (fun hc2 => ?_)
  ·have hc2 := BP.t hc2
   have hbk := R.bk hc2
   have hg1 := hbk.2.1
   refine .seq fun _ k14 => .region (st (.mv (.t rfl)) rfl ?_)
   refine st (.subU' (.t rfl) (Has.cU 1 rfl) (by first | with_reducible assumption | omega | with_reducible exact dig_lt _ _) (by first | with_reducible assumption | omega | with_reducible exact dig_lt _ _)) rfl ?_
   refine st (.as (.t rfl)) rfl ?_
   refine nl (.thn (k14 _ _ ?_))
   refine .region (st (.mv (.t rfl)) rfl ?_)
   refine st (.mv (.t rfl)) rfl ?_
   refine .callM (div_back (N := left N v (j + 1) % W ^ j + W ^ j * wdiff (left N v (j + 1) / W ^ j) (v * g) ((List.length (words v)) + 1)) (o := j) (m := m) (by omega) (by rw [win_div]; exact wdiff_lt _ _ _)) (i := 1) rfl (.cons (.t rfl) (.cons (.t rfl) .nil)) rfl (M' := [_, (_, _)]) rfl ?_
   refine nl (.thn (k12 _ _ ?_))
   refine .region (st (.mv (.t rfl)) rfl ?_)
   refine st (.eq (.mv (.t rfl)) ((isI_eq ej))) rfl ?_
   refine st (.mv (.t rfl)) rfl (st (.eq (.ixWin sl28 ty48 (.t rfl) (.t rfl) ⟨by omega, by omega⟩) (isPtr_eq (by first | exact ixo0 | exact ixo2 | exact ixo1))) rfl ?_)
   refine .storeM (.t rfl) (.t rfl) (i := 0) rfl ty48 (by first | omega | (simp only [Int.toNat_natCast, List.length_set, List.length_replicate]; omega)) (M' := [(_, _), _]) rfl ?_
   refine nl ?_
   refine .bln ?_
   refine .thn (k9 _ _ ?_)
   refine .region (st (.mv (.t rfl)) rfl ?_)
   refine st (.subI (.t rfl) (Has.cI 1 rfl) (by first | with_reducible assumption | omega | with_reducible exact dig_lt _ _) (by first | with_reducible assumption | omega | with_reducible exact dig_lt _ _)) rfl ?_
   refine st (.as (.t rfl)) rfl ?_
   refine nl ?_
   refine .thn ?_
   refine hK6 (⟨j, by omega⟩) _ _ ?_ (Cv.mem (.cons (t := 7) (Has.t' rfl ?_) (.k 0 rfl (.k 1 rfl (.k 4 rfl (.k 5 rfl (.k 6 rfl .nil)))))) ?_)
   ·show j < j + 1; omega
   ·exact isI_eq (by show (((j + 1 : Nat) : Int) - 1) - 1 = (j : Int) - 1; omega)
   ·exact mem2_eq (mix_down' (k := j + 1) (by omega) hI hbk.1) (wordsN_eq hbk.2.2)
  ·have hc2 := BP.f hc2
   have hfi := R.fine (by omega)
   refine .skip ?_
   refine .thn (k12 _ _ ?_)
   refine .region (st (.mv (.t rfl)) rfl ?_)
   refine st (.eq (.mv (.t rfl)) ((isI_eq ej))) rfl ?_
   refine st (.mv (.t rfl)) rfl (st (.eq (.ixWin sl28 ty48 (.t rfl) (.t rfl) ⟨by omega, by omega⟩) (isPtr_eq (by first | exact ixo0 | exact ixo2 | exact ixo1))) rfl ?_)
   refine .storeM (.t rfl) (.t rfl) (i := 0) rfl ty48 (by first | omega | (simp only [Int.toNat_natCast, List.length_set, List.length_replicate]; omega)) (M' := [(_, _), _]) rfl ?_
   refine nl ?_
   refine .bln ?_
   refine .thn (k9 _ _ ?_)
   refine .region (st (.mv (.t rfl)) rfl ?_)
   refine st (.subI (.t rfl) (Has.cI 1 rfl) (by first | with_reducible assumption | omega | with_reducible exact dig_lt _ _) (by first | with_reducible assumption | omega | with_reducible exact dig_lt _ _)) rfl ?_
   refine st (.as (.t rfl)) rfl ?_
   refine nl ?_
   refine .thn ?_
   refine hK6 (⟨j, by omega⟩) _ _ ?_ (Cv.mem (.cons (t := 7) (Has.t' rfl ?_) (.k 0 rfl (.k 1 rfl (.k 4 rfl (.k 5 rfl (.k 6 rfl .nil)))))) ?_)
   ·show j < j + 1; omega
   ·exact isI_eq (by show (((j + 1 : Nat) : Int) - 1) - 1 = (j : Int) - 1; omega)
   ·exact mem2_eq (mix_down' (k := j + 1) (by omega) hI hfi.1) (wordsN_eq hfi.2)
 ·have hc1 := BP.f hc1
  refine .exit ?_
  refine .the ?_
  refine .the ?_
  refine .blh ?_
  refine .thn (k4 _ _ ?_)
  refine .cv (Cv.wk (.k 4 rfl (.k 6 rfl .nil))) ?_
  refine .seq fun _ k15 => ?_
  refine .cv (Cv.freezeM (t := 6) (i := 0) (j := 1) (ys := wordsN (m - (List.length (words v))) (N / v)) rfl rfl rfl rfl rfl (by omega) (by obtain rfl : k = 0 := (by omega); rw [outEnd]; exact freeze_all (wordsN_len _ _).symm)) ?_
  refine .memEq (M' := [_]) rfl ?_
  refine .cv (Cv.wk (.k 4 rfl (.k 6 rfl .nil))) ?_
  refine .region (st (.mv (.t rfl)) rfl ?_)
  refine st (.as (.t rfl)) rfl ?_
  refine nl (.thn (k15 _ _ ?_))
  refine .ret ?_
  refine rtM1 (.inl rfl) Try.results53 rfl (i := 0) ?_ (.tmp (Has.t' rfl ?_) .nil)
  ·obtain rfl : k = 0 := (by omega); rfl
  ·rfl
theorem one_word {B : Nat} (h : (List.length (words B)) = 1) : (words B).getD 0 0 = B := by
 rw [getD_words, dig_def, Nat.pow_zero, Nat.div_one, Nat.mod_eq_of_lt (lt_of_nw_le_one (by omega))]
theorem bits_int {A : Nat} (h : (List.length (words A)) ≠ 0) : 64 * (((List.length (words A)) : Int) - 1) + ((bitLen (dig A ((List.length (words A)) - 1)) : Nat) : Int) = ((bitLen A : Nat) : Int) := by
 have hA : A ≠ 0 := fun e => h (by rw [e, words_zero]; rfl)
 have := bits_words hA
 omega
theorem gcd_step {p q g : Nat} (h : Nat.gcd p q = g) : Nat.gcd q (p % q) = g := by rw [← h, Nat.gcd_comm p q, Nat.gcd_rec q p, Nat.gcd_comm]
theorem div_DivMod {xs ys : List Nat} (hx : (List.length (words (val xs))) < 4294800000) (hy : (List.length (words (val ys))) < 4294800000) : Ctr Try.prog 20 [isWords xs, isWords ys] (isTup [isWords (words (val xs / val ys)), isWords (words (if val ys = 0 then 0 else val xs % val ys)), isB (decide (val ys ≠ 0))]) := by
 refine Ctr.intro Try.func20 rfl (by kernel_rfl) Try.ntmps20 rfl fun w0 F0 => ?_
 refine .cv (Cv.wk (.k 0 rfl (.k 1 rfl .nil))) ?_
 refine .fact (Has.lenLt (Has.t (t := 0) rfl)) fun lt0 => ?_
 refine .fact (Has.okW (Has.t (t := 0) rfl)) fun ok0 => ?_
 refine .fact (Has.lenLt (Has.t (t := 1) rfl)) fun lt1 => ?_
 refine .fact (Has.okW (Has.t (t := 1) rfl)) fun ok1 => ?_
 refine .seq fun _ k1 => .region (st (.as (Has.cW (f := isU))) rfl ?_)
 refine st (.as (Has.cW (f := isU))) rfl ?_
 refine st (.as (Has.cB false)) rfl ?_
 refine nl (.thn (k1 _ _ ?_))
 refine .seq fun _ k2 => .region (st (.mv (.t rfl)) rfl ?_)
 refine st (.eq (.call (nat_Norm (by first | with_reducible assumption | omega | (simp only [val_words]; omega))) (.cons (.t rfl) .nil)) (by first | (simp only [val_words]; rfl) | rfl)) rfl ?_
 refine st (.mv (.t rfl)) rfl (st (.eq (.call (nat_Norm (by first | with_reducible assumption | omega | (simp only [val_words]; omega))) (.cons (.t rfl) .nil)) (by first | (simp only [val_words]; rfl) | rfl)) rfl ?_)
 refine st (.as (.t rfl)) rfl (st (.as (.t rfl)) rfl ?_)
 refine nl (.thn (k2 _ _ ?_))
 refine .seq fun _ k3 => ?_
 refine .block ?_
 refine .seq fun _ k4 => .region (st (.mv (.t rfl)) rfl ?_)
 refine st (.len sl28 (.t rfl)) rfl (st (.eqI (.t rfl) (Has.cI 0 rfl)) rfl ?_)
 refine st (.as (.t rfl)) rfl ?_
 refine nl (.thn (k4 _ _ ?_))
 refine .cv (Cv.wk (.k 0 rfl (.k 1 rfl (.k 4 rfl (.k 5 rfl (.k 6 rfl (.k 23 rfl .nil))))))) ?_
 refine .cond (.t rfl) (fun hc1 => ?_) (fun hc1 => ?_)
 ·have hc1 := BP.t hc1
  refine .seq fun _ k5 => .region (st (.as (Has.cW (f := isU))) rfl ?_)
  refine st (.as (Has.cW (f := isU))) rfl ?_
  refine st (.as (Has.cB false)) rfl ?_
  refine nl (.thn (k5 _ _ ?_))
  refine .ret ?_
  refine .blr ?_
  refine .thr ?_
  refine rtN (.inl rfl) Try.results20 rfl rfl (.tmp (Has.t' rfl ?_) (.tmp (Has.t' rfl ?_) (.tmp (Has.t' rfl ?_) .nil)))
  ·exact SlM_eq (by rw [bits_zero (A := val ys) (by omega), Nat.div_zero, words_zero])
  ·exact SlM_eq (by rw [if_pos (bits_zero (A := val ys) (by omega)), words_zero])
  ·exact isB_eq (by simp [bits_zero (show (List.length (words (val ys))) = 0 by omega)])
 ·have hc1 := BP.f hc1
  refine .seq fun _ k6 => .region (st (.mv (.t rfl)) rfl ?_)
  refine st (.mv (.t rfl)) rfl (st (.eq (.call (nat_Cmp) (.cons (.t rfl) (.cons (.t rfl) .nil))) (by first | (simp only [val_words]; rfl) | rfl)) rfl ?_)
  refine st (.ltI (.t rfl) (Has.cI 0 rfl)) rfl ?_
  refine st (.as (.t rfl)) rfl ?_
  refine nl (.thn (k6 _ _ ?_))
  refine .cv (Cv.wk (.k 0 rfl (.k 1 rfl (.k 4 rfl (.k 5 rfl (.k 6 rfl (.k 27 rfl .nil))))))) ?_
  refine .cond (.t rfl) (fun hc2 => ?_) (fun hc2 => ?_)
  ·have hc2 := BP.t hc2
   have hlt := cmpN_neg.1 hc2
   refine .seq fun _ k7 => .region (st (.mv (.t rfl)) rfl ?_)
   refine st (.as (Has.cW (f := isU))) rfl ?_
   refine st (.as (.t rfl)) rfl (st (.as (Has.cB true)) rfl ?_)
   refine nl (.thn (k7 _ _ ?_))
   refine .ret ?_
   refine .blr ?_
   refine .thr ?_
   refine rtN (.inl rfl) Try.results20 rfl rfl (.tmp (Has.t' rfl ?_) (.tmp (Has.t' rfl ?_) (.tmp (Has.t' rfl ?_) .nil)))
   ·exact SlM_eq (by rw [Nat.div_eq_of_lt hlt, words_zero])
   ·exact SlM_eq (by rw [if_neg (by omega), Nat.mod_eq_of_lt hlt])
   ·exact isB_eq (by simp; omega)
  ·have hc2 := BP.f hc2
   have hle : val ys ≤ val xs := Nat.le_of_not_lt (fun h => by have := cmpN_neg.2 h; omega)
   refine .seq fun _ k8 => .region (st (.mv (.t rfl)) rfl ?_)
   refine st (.len sl28 (.t rfl)) rfl (st (.eqI (.t rfl) (Has.cI 1 rfl)) rfl ?_)
   refine st (.as (.t rfl)) rfl ?_
   refine nl (.thn (k8 _ _ ?_))
   refine .cond (.t rfl) (fun hc3 => ?_) (fun hc3 => ?_)
   ·have hc3 := BP.t hc3
    have hB : val ys ≠ 0 := fun e => by rw [e, words_zero] at hc1; simp at hc1
    refine .seq fun _ k9 => .region (st (.mv (.t rfl)) rfl ?_)
    refine st (.mv (.t rfl)) rfl (st (.ixP sl28 ty48 (.t rfl) (Has.cI 0 rfl) ⟨by omega, by omega⟩ (getD_some (d := 0) (by first | omega | (simp only [Int.toNat_natCast, List.length_set]; omega)))) rfl ?_)
    refine st (.eq (.loadP1 (.t rfl) ty48) ((show isU _ = isU (val ys) from isU_eq (one_word (by omega))))) rfl ?_
    refine st (.eq (.call (div_Small (by first | with_reducible assumption | omega | (simp only [val_words]; omega))) (.cons (.t rfl) (.cons (.t rfl) .nil))) (by first | (simp only [val_words]; rfl) | rfl)) rfl ?_
    refine st (.mv (.t rfl)) rfl (st (.ext (.t rfl) rfl) rfl ?_)
    refine st (.ext (.t rfl) rfl) rfl (st (.ext (.t rfl) rfl) rfl ?_)
    refine st (.as (.t rfl)) rfl (st (.as (.t rfl)) rfl ?_)
    refine st (.as (.t rfl)) rfl ?_
    refine nl (.thn (k9 _ _ ?_))
    refine .cv (Cv.wk (.k 0 rfl (.k 1 rfl (.k 4 rfl (.k 5 rfl (.k 6 rfl (.k 7 rfl (.k 8 rfl .nil)))))))) ?_
    refine .seq fun _ k10 => .region (st (.mv (.t rfl)) rfl ?_)
    refine st (.mv (.t rfl)) rfl (st (.call (nat_Of) (.cons (.t rfl) .nil)) rfl ?_)
    refine st (.as (.t rfl)) rfl (st (.as (.t rfl)) rfl ?_)
    refine st (.as (Has.cB true)) rfl ?_
    refine nl (.thn (k10 _ _ ?_))
    refine .cv (Cv.wk (.k 0 rfl (.k 1 rfl (.k 4 rfl (.k 5 rfl (.k 6 rfl .nil)))))) ?_
    refine .ret ?_
    refine .blr ?_
    refine .thr ?_
    refine rtN (.inl rfl) Try.results20 rfl rfl (.tmp (Has.t' rfl ?_) (.tmp (Has.t' rfl ?_) (.tmp (Has.t' rfl ?_) .nil)))
    ·rfl
    ·rfl
    ·exact isB_eq (by simp [hB])
   ·have hc3 := BP.f hc3
    have hB : val ys ≠ 0 := fun e => by rw [e, words_zero] at hc1; simp at hc1
    obtain ⟨k, hk⟩ : ∃ k, k = 64 - bitLen (dig (val ys) ((List.length (words (val ys))) - 1)) := ⟨_, rfl⟩
    have D := dm hB hle hk
    have Dk := D.k64
    have Dv := D.v
    have Dw := D.w
    have Dl := D.le
    refine .skip ?_
    refine .bln ?_
    refine .thn (k3 _ _ ?_)
    refine .cv (Cv.wk (.k 0 rfl (.k 1 rfl (.k 4 rfl (.k 5 rfl (.k 6 rfl .nil)))))) ?_
    refine .seq fun _ k11 => .region (st (.mv (.t rfl)) rfl ?_)
    refine st (.mv (.t rfl)) rfl (st (.len sl28 (.t rfl)) rfl ?_)
    refine st (.subI (.t rfl) (Has.cI 1 rfl) (by first | with_reducible assumption | omega | (simp only [val_words]; omega)) (by first | with_reducible assumption | omega | (simp only [val_words]; omega))) rfl ?_
    refine st (.ixP sl28 ty48 (.t rfl) (.t rfl) ⟨by omega, by omega⟩ (getD_some (d := 0) (by first | omega | (simp only [Int.toNat_natCast, List.length_set]; omega)))) rfl ?_
    refine st (.eq (.loadP1 (.t rfl) ty48) ((show isU _ = isU (dig (val ys) ((List.length (words (val ys))) - 1)) from isU_eq (getV (by omega))))) rfl ?_
    refine st (.eq (.call (bits_LZ64) (.cons (.t rfl) .nil)) ((show isI _ = isI ((k : Nat) : Int) from isI_eq (by rw [hk])))) rfl ?_
    refine st (.as (.t rfl)) rfl ?_
    refine nl (.thn (k11 _ _ ?_))
    refine .cv (Cv.wk (.k 0 rfl (.k 1 rfl (.k 4 rfl (.k 5 rfl (.k 6 rfl (.k 10 rfl .nil))))))) ?_
    refine .seq fun _ k12 => .region (st (.mv (.t rfl)) rfl ?_)
    refine st (.mv (.t rfl)) rfl (st (.eq (.call (nat_Shl (by omega) (by rw [val_words]; omega)) (.cons (.t rfl) (.cons (.t rfl) .nil))) (by first | (simp only [val_words]; rfl) | rfl)) rfl ?_)
    refine st (.mv (.t rfl)) rfl (st (.ext (.t rfl) rfl) rfl ?_)
    refine st (.ext (.t rfl) rfl) rfl ?_
    refine st (.as (.t rfl)) rfl (st (.as (.t rfl)) rfl ?_)
    refine nl (.thn (k12 _ _ ?_))
    refine .cv (Cv.wk (.k 0 rfl (.k 4 rfl (.k 5 rfl (.k 6 rfl (.k 10 rfl (.k 11 rfl .nil))))))) ?_
    refine .seq fun _ k13 => .region (st (.mv (.t rfl)) rfl ?_)
    refine st (.mv (.t rfl)) rfl (st (.eq (.call (nat_Shl (by omega) (by rw [val_words]; omega)) (.cons (.t rfl) (.cons (.t rfl) .nil))) (by first | (simp only [val_words]; rfl) | rfl)) rfl ?_)
    refine st (.mv (.t rfl)) rfl (st (.ext (.t rfl) rfl) rfl ?_)
    refine st (.ext (.t rfl) rfl) rfl ?_
    refine st (.as (.t rfl)) rfl (st (.as (.t rfl)) rfl ?_)
    refine nl (.thn (k13 _ _ ?_))
    refine .cv (Cv.wk (.k 0 rfl (.k 4 rfl (.k 5 rfl (.k 6 rfl (.k 10 rfl (.k 11 rfl (.k 13 rfl .nil)))))))) ?_
    refine .seq fun _ k14 => .region (st (.mv (.t rfl)) rfl ?_)
    refine st (.len sl28 (.t rfl)) rfl (st (.addI (.t rfl) (Has.cI 1 rfl) (by first | with_reducible assumption | omega | (simp only [val_words]; omega)) (by first | with_reducible assumption | omega | (simp only [val_words]; omega))) rfl ?_)
    refine .make (f := isU) (u := 0) (n := (List.length (words (val xs))) + 1) (c := (List.length (words (val xs))) + 1) sl28 ty48 zero48 (fun _ _ => ⟨⟨rfl, by decide⟩, trivial⟩) by48 (Has.t' rfl rfl) (Has.t' rfl rfl) ⟨by omega, by omega⟩ rfl fun b1 => ?_
    refine st (.as (.t rfl)) rfl ?_
    refine nl (.thn (k14 _ _ ?_))
    refine .cv (Cv.wk (.k 4 rfl (.k 5 rfl (.k 6 rfl (.k 10 rfl (.k 11 rfl (.k 13 rfl (.k 15 rfl .nil)))))))) ?_
    refine .seq fun _ k15 => .region (st (.mv (.t rfl)) rfl ?_)
    refine st (.mv (.t rfl)) rfl ?_
    refine .copyW sl28 ty48 (fun _ => inferInstance) (.t rfl) (.t rfl) (i := 0) rfl ⟨Dw, by simp⟩ rfl (M' := [(some b1, cellM (List.map isU (wordsN ((List.length (words (val xs))) + 1) (val xs * 2 ^ k))))]) (memL_eq (copy_words Dw)) ?_
    refine nl (.thn (k15 _ _ ?_))
    refine .seq fun _ k16 => .region (st (.mv (.t rfl)) rfl ?_)
    refine st (.mv (.t rfl)) rfl ?_
    refine .callM (div_long (N := val xs * 2 ^ k) (v := val ys * 2 ^ k) (m := (List.length (words (val xs))) + 1) (by omega) (by omega) (by omega) D.lt) (i := 0) rfl (.cons (.t rfl) (.cons (.t rfl) .nil)) rfl (M' := [(_, _)]) rfl ?_
    refine st (.as (.t rfl)) rfl ?_
    refine nl (.thn (k16 _ _ ?_))
    refine .cv (Cv.wk (.k 4 rfl (.k 5 rfl (.k 6 rfl (.k 10 rfl (.k 15 rfl (.k 16 rfl .nil))))))) ?_
    refine .seq fun _ k17 => ?_
    refine .cv (Cv.freeze' (t := 15) (i := 0) (ys := wordsN ((List.length (words (val xs))) + 1) (left (val xs * 2 ^ k) (val ys * 2 ^ k) 0)) rfl rfl rfl (by simp [wordsN_len]) (freeze_all (wordsN_len _ _).symm)) ?_
    refine .memEq (M' := []) rfl ?_
    refine .cv (Cv.wk (.k 4 rfl (.k 5 rfl (.k 6 rfl (.k 10 rfl (.k 15 rfl (.k 16 rfl .nil))))))) ?_
    refine .region (st (.mv (.t rfl)) rfl ?_)
    refine st (.mv (.t rfl)) rfl (st (.call (nat_Shr (by omega) (by have := nw_val_wordsN ((List.length (words (val xs))) + 1) (left (val xs * 2 ^ k) (val ys * 2 ^ k) 0); omega)) (.cons (.t rfl) (.cons (.t rfl) .nil))) rfl ?_)
    refine st (.mv (.t rfl)) rfl (st (.ext (.t rfl) rfl) rfl ?_)
    refine st (.ext (.t rfl) rfl) rfl ?_
    refine st (.as (.t rfl)) rfl (st (.as (.t rfl)) rfl ?_)
    refine nl (.thn (k17 _ _ ?_))
    refine .cv (Cv.wk (.k 4 rfl (.k 5 rfl (.k 6 rfl (.k 16 rfl (.k 17 rfl .nil)))))) ?_
    refine .seq fun _ k18 => .region (st (.mv (.t rfl)) rfl ?_)
    refine st (.call (nat_Norm (by have := nw_val_wordsN ((List.length (words (val xs))) + 1 - (List.length (words (val ys * 2 ^ k)))) (val xs * 2 ^ k / (val ys * 2 ^ k)); omega)) (.cons (.t rfl) .nil)) rfl ?_
    refine st (.mv (.t rfl)) rfl (st (.as (.t rfl)) rfl ?_)
    refine st (.as (.t rfl)) rfl (st (.as (Has.cB true)) rfl ?_)
    refine nl (.thn (k18 _ _ ?_))
    refine .cv (Cv.wk (.k 4 rfl (.k 5 rfl (.k 6 rfl .nil)))) ?_
    refine .ret ?_
    refine rtN (.inl rfl) Try.results20 rfl rfl (.tmp (Has.t' rfl ?_) (.tmp (Has.t' rfl ?_) (.tmp (Has.t' rfl ?_) .nil)))
    ·exact SlM_eq (dm_quo hB D rfl rfl)
    ·exact SlM_eq (by rw [if_neg hB, dm_rest hB D rfl])
    ·exact isB_eq (by simp [hB])
theorem div_Mod {xs ys : List Nat} (hx : (List.length (words (val xs))) < 4294800000) (hy : (List.length (words (val ys))) < 4294800000) : Ctr Try.prog 55 [isWords xs, isWords ys] (isTup [isWords (words (if val ys = 0 then 0 else val xs % val ys)), isB (decide (val ys ≠ 0))]) := by
 refine Ctr.intro Try.func55 rfl (by kernel_rfl) Try.ntmps55 rfl fun w0 F0 => ?_
 refine .cv (Cv.wk (.k 0 rfl (.k 1 rfl .nil))) ?_
 refine .fact (Has.lenLt (Has.t (t := 0) rfl)) fun lt0 => ?_
 refine .fact (Has.okW (Has.t (t := 0) rfl)) fun ok0 => ?_
 refine .fact (Has.lenLt (Has.t (t := 1) rfl)) fun lt1 => ?_
 refine .fact (Has.okW (Has.t (t := 1) rfl)) fun ok1 => ?_
 refine .seq fun _ k1 => .region (st (.as (Has.cW (f := isU))) rfl ?_)
 refine st (.as (Has.cB false)) rfl ?_
 refine nl (.thn (k1 _ _ ?_))
 refine .seq fun _ k2 => .region (st (.mv (.t rfl)) rfl ?_)
 refine st (.mv (.t rfl)) rfl (st (.call (div_DivMod (by first | with_reducible assumption | omega | (simp only [val_words]; omega)) (by first | with_reducible assumption | omega | (simp only [val_words]; omega))) (.cons (.t rfl) (.cons (.t rfl) .nil))) rfl ?_)
 refine st (.mv (.t rfl)) rfl (st (.ext (.t rfl) rfl) rfl ?_)
 refine st (.ext (.t rfl) rfl) rfl (st (.ext (.t rfl) rfl) rfl ?_)
 refine st (.as (.t rfl)) rfl (st (.as (.t rfl)) rfl ?_)
 refine st (.as (.t rfl)) rfl ?_
 refine nl (.thn (k2 _ _ ?_))
 refine .cv (Cv.wk (.k 4 rfl (.k 5 rfl (.k 7 rfl (.k 8 rfl .nil))))) ?_
 refine .seq fun _ k3 => .region (st (.mv (.t rfl)) rfl ?_)
 refine st (.mv (.t rfl)) rfl (st (.as (.t rfl)) rfl ?_)
 refine st (.as (.t rfl)) rfl ?_
 refine nl (.thn (k3 _ _ ?_))
 refine .ret ?_
 refine rtN (.inl rfl) Try.results55 rfl rfl (.tmp (Has.t' rfl ?_) (.tmp (Has.t' rfl ?_) .nil))
 all_goals (rfl)
theorem nat_Bits {xs : List Nat} (hx : (List.length (words (val xs))) < 4294967296) : Ctr Try.prog 33 [isWords xs] (isI ((bitLen (val xs) : Nat) : Int)) := by
 refine Ctr.intro Try.func33 rfl (by kernel_rfl) Try.ntmps33 rfl fun w0 F0 => ?_
 refine .cv (Cv.wk (.k 0 rfl .nil)) ?_
 refine .fact (Has.lenLt (Has.t (t := 0) rfl)) fun lt0 => ?_
 refine .fact (Has.okW (Has.t (t := 0) rfl)) fun ok0 => ?_
 refine .seq fun _ k1 => .region (st (.as (Has.cI 0 rfl)) rfl ?_)
 refine nl (.thn (k1 _ _ ?_))
 refine .seq fun _ k2 => .region (st (.mv (.t rfl)) rfl ?_)
 refine st (.call (nat_trim) (.cons (.t rfl) .nil)) rfl ?_
 refine st (.as (.t rfl)) rfl ?_
 refine nl (.thn (k2 _ _ ?_))
 refine .seq fun _ k3 => ?_
 refine .seq fun _ k4 => .region (st (.mv (.t rfl)) rfl ?_)
 refine st (.len sl28 (.t rfl)) rfl (st (.eqI (.t rfl) (Has.cI 0 rfl)) rfl ?_)
 refine nl (.thn (k4 _ _ ?_))
 refine .cond (.t rfl) (fun hc1 => ?_) (fun hc1 => ?_)
 ·have hc1 := BP.t hc1
  refine .seq fun _ k5 => .region (st (.as (Has.cI 0 rfl)) rfl ?_)
  refine nl (.thn (k5 _ _ ?_))
  refine .cv (Cv.wk (.k 0 rfl (.k 2 rfl .nil))) ?_
  refine .ret ?_
  refine .thr ?_
  refine rt1 (.inl rfl) Try.results33 rfl (.tmp (Has.t' rfl ?_) .nil)
  all_goals (exact isI_eq (by rw [bits_zero (A := val xs) (by omega)]; rfl))
 ·have hc1 := BP.f hc1
  have hb := bits_int (A := val xs) (by omega)
  have hd := bitLen_le64 (dig_lt (val xs) ((List.length (words (val xs))) - 1))
  refine .skip ?_
  refine .thn (k3 _ _ ?_)
  refine .cv (Cv.wk (.k 0 rfl (.k 2 rfl .nil))) ?_
  refine .seq fun _ k6 => .region (st (.mv (.t rfl)) rfl ?_)
  refine st (.len sl28 (.t rfl)) rfl (st (.subI (.t rfl) (Has.cI 1 rfl) (by first | with_reducible assumption | omega | (simp only [val_words]; omega)) (by first | with_reducible assumption | omega | (simp only [val_words]; omega))) rfl ?_)
  refine st (.mulI (Has.cI 64 rfl) (.t rfl) (by first | with_reducible assumption | omega | (simp only [val_words]; omega)) (by first | with_reducible assumption | omega | (simp only [val_words]; omega))) rfl ?_
  refine st (.mv (.t rfl)) rfl (st (.mv (.t rfl)) rfl ?_)
  refine st (.len sl28 (.t rfl)) rfl (st (.subI (.t rfl) (Has.cI 1 rfl) (by first | with_reducible assumption | omega | (simp only [val_words]; omega)) (by first | with_reducible assumption | omega | (simp only [val_words]; omega))) rfl ?_)
  refine st (.ixP sl28 ty48 (.t rfl) (.t rfl) ⟨by omega, by omega⟩ (getD_some (d := 0) (by first | omega | (simp only [Int.toNat_natCast, List.length_set]; omega)))) rfl ?_
  refine st (.eq (.loadP1 (.t rfl) ty48) ((show isU _ = isU (dig (val xs) ((List.length (words (val xs))) - 1)) from isU_eq (getV (by omega))))) rfl ?_
  refine st (.call (bits_Len64) (.cons (.t rfl) .nil)) rfl ?_
  refine st (.addI (.t rfl) (.t rfl) (by first | with_reducible assumption | omega | (simp only [val_words]; omega)) (by first | with_reducible assumption | omega | (simp only [val_words]; omega))) rfl ?_
  refine st (.as (.t rfl)) rfl ?_
  refine nl (.thn (k6 _ _ ?_))
  refine .cv (Cv.wk (.k 2 rfl .nil)) ?_
  refine .ret ?_
  refine rt1 (.inl rfl) Try.results33 rfl (.tmp (Has.t' rfl ?_) .nil)
  all_goals (exact isI_eq (by omega))
theorem div_Gcd {xs ys : List Nat} (hx : (List.length (words (val xs))) < 4294800000) (hy : (List.length (words (val ys))) < 4294800000) : Ctr Try.prog 21 [isWords xs, isWords ys] (isWords (words (Nat.gcd (val xs) (val ys)))) := by
 refine Ctr.intro Try.func21 rfl (by kernel_rfl) Try.ntmps21 rfl fun w0 F0 => ?_
 refine .cv (Cv.wk (.k 0 rfl (.k 1 rfl .nil))) ?_
 refine .fact (Has.lenLt (Has.t (t := 0) rfl)) fun lt0 => ?_
 refine .fact (Has.okW (Has.t (t := 0) rfl)) fun ok0 => ?_
 refine .fact (Has.lenLt (Has.t (t := 1) rfl)) fun lt1 => ?_
 refine .fact (Has.okW (Has.t (t := 1) rfl)) fun ok1 => ?_
 refine .seq fun _ k1 => .region (st (.as (Has.cW (f := isU))) rfl ?_)
 refine nl (.thn (k1 _ _ ?_))
 refine .seq fun _ k2 => .region (st (.mv (.t rfl)) rfl ?_)
 refine st (.eq (.call (nat_Norm (by first | with_reducible assumption | omega | (simp only [val_words]; omega))) (.cons (.t rfl) .nil)) (by first | (simp only [val_words]; rfl) | rfl)) rfl ?_
 refine st (.mv (.t rfl)) rfl (st (.eq (.call (nat_Norm (by first | with_reducible assumption | omega | (simp only [val_words]; omega))) (.cons (.t rfl) .nil)) (by first | (simp only [val_words]; rfl) | rfl)) rfl ?_)
 refine st (.as (.t rfl)) rfl (st (.as (.t rfl)) rfl ?_)
 refine nl (.thn (k2 _ _ ?_))
 refine .seq fun _ k3 => ?_
 refine .block ?_
 refine .loopF [4] (fun (z : { z : Nat × Nat // Nat.gcd z.1 z.2 = Nat.gcd (val xs) (val ys) ∧ (List.length (words z.1)) < 4294800000 ∧ (List.length (words z.2)) < 4294800000 }) => match z with | ⟨(p, q), hI⟩ => [(0, isWords (words p)), (1, isWords (words q))]) (fun M => fun (z : { z : Nat × Nat // Nat.gcd z.1 z.2 = Nat.gcd (val xs) (val ys) ∧ (List.length (words z.1)) < 4294800000 ∧ (List.length (words z.2)) < 4294800000 }) => match z with | ⟨(p, q), hI⟩ => M) (fun (z : { z : Nat × Nat // Nat.gcd z.1 z.2 = Nat.gcd (val xs) (val ys) ∧ (List.length (words z.1)) < 4294800000 ∧ (List.length (words z.2)) < 4294800000 }) => match z with | ⟨(p, q), hI⟩ => q) (⟨(val xs, val ys), rfl, hx, hy⟩) (Cv.mem (.cons (t := 0) (Has.t' rfl ?_) (.cons (t := 1) (Has.t' rfl ?_) (.k 4 rfl .nil))) ?_) ?_
 ·rfl
 ·rfl
 ·rfl
 rintro ⟨⟨p, q⟩, hI⟩ K4 hK4
 refine .cv (Cv.wk (.k 0 rfl (.k 1 rfl (.k 4 rfl .nil)))) ?_
 simp only [] at hI
 obtain ⟨g1, g2, g3⟩ := hI
 refine .seq fun _ k5 => ?_
 refine .seq fun _ k6 => .region (st (.mv (.t rfl)) rfl ?_)
 refine st (.len sl28 (.t rfl)) rfl (st (.gtI (.t rfl) (Has.cI 0 rfl)) rfl ?_)
 refine nl (.thn (k6 _ _ ?_))
 refine .cond (.t rfl) (fun hc1 => ?_) (fun hc1 => ?_)
 ·have hc1 := BP.t hc1
  refine .skip ?_
  refine .thn (k5 _ _ ?_)
  refine .block ?_
  refine .seq fun _ k7 => .region (st (.mv (.t rfl)) rfl ?_)
  refine st (.mv (.t rfl)) rfl (st (.eq (.call (div_Mod (by first | with_reducible assumption | omega | (simp only [val_words]; omega)) (by first | with_reducible assumption | omega | (simp only [val_words]; omega))) (.cons (.t rfl) (.cons (.t rfl) .nil))) (by first | (simp only [val_words]; rfl) | rfl)) rfl ?_)
  refine st (.mv (.t rfl)) rfl (st (.ext (.t rfl) rfl) rfl ?_)
  refine st (.ext (.t rfl) rfl) rfl ?_
  refine st (.as (.t rfl)) rfl (st (.as (.t rfl)) rfl ?_)
  refine nl (.thn (k7 _ _ ?_))
  refine .region (st (.mv (.t rfl)) rfl ?_)
  refine st (.mv (.t rfl)) rfl (st (.as (.t rfl)) rfl ?_)
  refine st (.as (.t rfl)) rfl ?_
  refine nl ?_
  refine .bln ?_
  refine .thn ?_
  have hq : q ≠ 0 := fun e => by rw [e, words_zero] at hc1; simp at hc1
  refine hK4 (⟨(q, p % q), gcd_step g1, g3, Nat.lt_of_le_of_lt (nw_mono (Nat.le_of_lt (Nat.mod_lt _ (by omega)))) g3⟩) _ _ ?_ (Cv.mem (.cons (t := 0) (Has.t' rfl ?_) (.cons (t := 1) (Has.t' rfl ?_) (.k 4 rfl .nil))) ?_)
  ·show p % q < q; exact Nat.mod_lt _ (by omega)
  ·rfl
  ·exact SlM_eq (by rw [if_neg hq])
  ·rfl
 ·have hc1 := BP.f hc1
  refine .exit ?_
  refine .the ?_
  refine .the ?_
  refine .blh ?_
  refine .thn (k3 _ _ ?_)
  refine .seq fun _ k8 => .region (st (.mv (.t rfl)) rfl ?_)
  refine st (.as (.t rfl)) rfl ?_
  refine nl (.thn (k8 _ _ ?_))
  refine .cv (Cv.wk (.k 4 rfl .nil)) ?_
  refine .ret ?_
  refine rt1 (.inl rfl) Try.results21 rfl (.tmp (Has.t' rfl ?_) .nil)
  all_goals (obtain rfl : q = 0 := bits_zero (by omega); exact SlM_eq (by rw [← g1, Nat.gcd_zero_right]))
theorem gcd_le_max (a b : Nat) : Nat.gcd a b ≤ max a b := by
 rcases Nat.eq_zero_or_pos a with h | h
 ·subst h; rw [Nat.gcd_zero_left]; exact Nat.le_max_right _ _
 ·exact Nat.le_trans (Nat.gcd_le_left b h) (Nat.le_max_left _ _)
theorem nw_max (a b : Nat) : (List.length (words (max a b))) ≤ max ((List.length (words a))) ((List.length (words b))) := by
 rcases Nat.le_total a b with h | h
 ·rw [Nat.max_eq_right h]; omega
 ·rw [Nat.max_eq_left h]; omega
def upW (n : Nat) (xs : List Nat) : List Nat := if xs.length = 0 then [] else List.replicate n 0 ++ xs
theorem upW_nil {n : Nat} {xs : List Nat} (h : xs.length = 0) : [] = upW n xs := by unfold upW; rw [if_pos h]
theorem upW_app {n : Nat} {xs : List Nat} (h : xs.length ≠ 0) : List.replicate n 0 ++ xs = upW n xs := by unfold upW; rw [if_neg h]
theorem upW_val (n : Nat) (xs : List Nat) : val (upW n xs) = W ^ n * val xs := by
 unfold upW
 split
 ·rename_i h; rw [List.eq_nil_of_length_eq_zero h]; rfl
 ·rw [val_append, val_replicate, List.length_replicate, Nat.zero_add]
theorem upW_nw {n : Nat} {xs : List Nat} (h : Ok xs) : (List.length (words (val (upW n xs)))) ≤ n + xs.length := by
 rw [upW_val]
 refine nw_le ?_
 rw [Nat.pow_add]
 exact Nat.mul_lt_mul_of_pos_left (val_lt h) (pow_pos' n)
theorem ok_take {xs : List Nat} (h : Ok xs) (n : Nat) : Ok (xs.take n) := fun x hx => h x (List.mem_of_mem_take hx)
theorem ok_drop {xs : List Nat} (h : Ok xs) (n : Nat) : Ok (xs.drop n) := fun x hx => h x (List.mem_of_mem_drop hx)
theorem lowW_nw (a n : Nat) : (List.length (words (val ((words a).take n)))) ≤ min n ((List.length (words a))) := by
 have := nw_val (ok_take (words_ok a) n)
 rwa [List.length_take] at this
theorem highW_nw (a n : Nat) : (List.length (words (val ((words a).drop n)))) ≤ (List.length (words a)) - n := by
 have := nw_val (ok_drop (words_ok a) n)
 rwa [List.length_drop] at this
theorem halves (a n : Nat) : val ((words a).take n) + W ^ n * val ((words a).drop n) = a := by
 rcases Nat.lt_or_ge n (words a).length with h | h
 ·have e := val_append ((words a).take n) ((words a).drop n)
  rw [List.take_append_drop, val_words, List.length_take, Nat.min_eq_left (Nat.le_of_lt h)] at e
  exact e.symm
 ·rw [List.take_of_length_le h, List.drop_eq_nil_of_le h, val_words]; exact Nat.add_zero _
theorem kara (p q r s n : Nat) : p * r + W ^ n * ((p + q) * (r + s) - p * r - q * s) + W ^ (2 * n) * (q * s) = (p + W ^ n * q) * (r + W ^ n * s) := by
 have e : (p + q) * (r + s) - p * r - q * s = p * s + q * r := by
  rw [Nat.add_mul, Nat.mul_add, Nat.mul_add]; omega
 rw [e, Nat.two_mul, Nat.pow_add]
 generalize W ^ n = w
 simp only [Nat.add_mul, Nat.mul_add, Nat.mul_assoc, Nat.mul_left_comm, Nat.mul_comm, Nat.add_assoc, Nat.add_left_comm, Nat.add_comm]
theorem mul_low {xs : List Nat} {n : Nat} : Ctr Try.prog 93 [isWords xs, isI (n : Int)] (isWords (xs.take n)) := by
 refine Ctr.intro Try.func93 rfl (by kernel_rfl) Try.ntmps93 rfl fun w0 F0 => ?_
 refine .cv (Cv.wk (.k 0 rfl (.k 1 rfl .nil))) ?_
 refine .fact (Has.lenLt (Has.t (t := 0) rfl)) fun lt0 => ?_
 refine .fact (Has.okW (Has.t (t := 0) rfl)) fun ok0 => ?_
 refine .fact (Has.rngI (Has.t (t := 1) rfl)) fun lt1 => ?_
 refine .seq fun _ k1 => .region (st (.as (Has.cW (f := isU))) rfl ?_)
 refine nl (.thn (k1 _ _ ?_))
 refine .seq fun _ k2 => ?_
 refine .seq fun _ k3 => .region (st (.mv (.t rfl)) rfl ?_)
 refine st (.len sl28 (.t rfl)) rfl ?_
 refine st (.mv (.t rfl)) rfl (st (.leI (.t rfl) (.t rfl)) rfl ?_)
 refine nl (.thn (k3 _ _ ?_))
 refine .cond (.t rfl) (fun hc1 => ?_) (fun hc1 => ?_)
 ·have hc1 := BP.t hc1
  refine .seq fun _ k4 => .region (st (.mv (.t rfl)) rfl ?_)
  refine st (.as (.t rfl)) rfl ?_
  refine nl (.thn (k4 _ _ ?_))
  refine .cv (Cv.wk (.k 0 rfl (.k 1 rfl (.k 4 rfl .nil)))) ?_
  refine .ret ?_
  refine .thr ?_
  refine rt1 (.inl rfl) Try.results93 rfl (.tmp (Has.t' rfl ?_) .nil)
  all_goals (exact SlM_eq (List.take_of_length_le (by omega)).symm)
 ·have hc1 := BP.f hc1
  refine .skip ?_
  refine .thn (k2 _ _ ?_)
  refine .seq fun _ k5 => .region (st (.mv (.t rfl)) rfl ?_)
  refine st (.mv (.t rfl)) rfl (st (.slHM sl28 ty48 (.t rfl) (.t rfl) ⟨by omega, by omega⟩) rfl ?_)
  refine st (.as (.t rfl)) rfl ?_
  refine nl (.thn (k5 _ _ ?_))
  refine .cv (Cv.wk (.k 4 rfl .nil)) ?_
  refine .ret ?_
  refine rt1 (.inl rfl) Try.results93 rfl (.tmp (Has.t' rfl ?_) .nil)
  all_goals (exact SlM_eq (by rw [Int.toNat_natCast]))
theorem mul_high {xs : List Nat} {n : Nat} : Ctr Try.prog 94 [isWords xs, isI (n : Int)] (isWords (xs.drop n)) := by
 refine Ctr.intro Try.func94 rfl (by kernel_rfl) Try.ntmps94 rfl fun w0 F0 => ?_
 refine .cv (Cv.wk (.k 0 rfl (.k 1 rfl .nil))) ?_
 refine .fact (Has.lenLt (Has.t (t := 0) rfl)) fun lt0 => ?_
 refine .fact (Has.okW (Has.t (t := 0) rfl)) fun ok0 => ?_
 refine .fact (Has.rngI (Has.t (t := 1) rfl)) fun lt1 => ?_
 refine .seq fun _ k1 => .region (st (.as (Has.cW (f := isU))) rfl ?_)
 refine nl (.thn (k1 _ _ ?_))
 refine .seq fun _ k2 => ?_
 refine .seq fun _ k3 => .region (st (.mv (.t rfl)) rfl ?_)
 refine st (.len sl28 (.t rfl)) rfl ?_
 refine st (.mv (.t rfl)) rfl (st (.leI (.t rfl) (.t rfl)) rfl ?_)
 refine nl (.thn (k3 _ _ ?_))
 refine .cond (.t rfl) (fun hc1 => ?_) (fun hc1 => ?_)
 ·have hc1 := BP.t hc1
  refine .seq fun _ k4 => .region (st (.as (Has.cW (f := isU))) rfl ?_)
  refine nl (.thn (k4 _ _ ?_))
  refine .ret ?_
  refine .thr ?_
  refine rt1 (.inl rfl) Try.results94 rfl (.tmp (Has.t' rfl ?_) .nil)
  all_goals (exact SlM_eq (List.drop_eq_nil_of_le (by omega)).symm)
 ·have hc1 := BP.f hc1
  refine .skip ?_
  refine .thn (k2 _ _ ?_)
  refine .seq fun _ k5 => .region (st (.mv (.t rfl)) rfl ?_)
  refine st (.mv (.t rfl)) rfl (st (.slLM sl28 ty48 (.t rfl) (.t rfl) ⟨by omega, by omega⟩) rfl ?_)
  refine st (.as (.t rfl)) rfl ?_
  refine nl (.thn (k5 _ _ ?_))
  refine .cv (Cv.wk (.k 4 rfl .nil)) ?_
  refine .ret ?_
  refine rt1 (.inl rfl) Try.results94 rfl (.tmp (Has.t' rfl ?_) .nil)
  all_goals (exact SlM_eq (by rw [Int.toNat_natCast]))
theorem mul_less {xs ys : List Nat} (hx : (List.length (words (val xs))) < 4294967296) : Ctr Try.prog 95 [isWords xs, isWords ys] (isWords (words (val xs - val ys))) := by
 refine Ctr.intro Try.func95 rfl (by kernel_rfl) Try.ntmps95 rfl fun w0 F0 => ?_
 refine .cv (Cv.wk (.k 0 rfl (.k 1 rfl .nil))) ?_
 refine .fact (Has.lenLt (Has.t (t := 0) rfl)) fun lt0 => ?_
 refine .fact (Has.okW (Has.t (t := 0) rfl)) fun ok0 => ?_
 refine .fact (Has.lenLt (Has.t (t := 1) rfl)) fun lt1 => ?_
 refine .fact (Has.okW (Has.t (t := 1) rfl)) fun ok1 => ?_
 refine .seq fun _ k1 => .region (st (.as (Has.cW (f := isU))) rfl ?_)
 refine nl (.thn (k1 _ _ ?_))
 refine .seq fun _ k2 => .region (st (.mv (.t rfl)) rfl ?_)
 refine st (.mv (.t rfl)) rfl (st (.call (nat_Sub (by first | with_reducible assumption | omega | (simp only [val_words]; omega))) (.cons (.t rfl) (.cons (.t rfl) .nil))) rfl ?_)
 refine st (.mv (.t rfl)) rfl (st (.ext (.t rfl) rfl) rfl ?_)
 refine st (.ext (.t rfl) rfl) rfl ?_
 refine st (.as (.t rfl)) rfl (st (.as (.t rfl)) rfl ?_)
 refine nl (.thn (k2 _ _ ?_))
 refine .cv (Cv.wk (.k 4 rfl (.k 5 rfl .nil))) ?_
 refine .seq fun _ k3 => .region (st (.mv (.t rfl)) rfl ?_)
 refine st (.as (.t rfl)) rfl ?_
 refine nl (.thn (k3 _ _ ?_))
 refine .ret ?_
 refine rt1 (.inl rfl) Try.results95 rfl (.tmp (Has.t' rfl ?_) .nil)
 all_goals (rfl)
theorem mul_up {xs : List Nat} {n : Nat} (hn : n + xs.length ≤ 4294967296) : Ctr Try.prog 112 [isWords xs, isI (n : Int)] (isWords (upW n xs)) := by
 refine Ctr.intro Try.func112 rfl (by kernel_rfl) Try.ntmps112 rfl fun w0 F0 => ?_
 refine .cv (Cv.wk (.k 0 rfl (.k 1 rfl .nil))) ?_
 refine .fact (Has.lenLt (Has.t (t := 0) rfl)) fun lt0 => ?_
 refine .fact (Has.okW (Has.t (t := 0) rfl)) fun ok0 => ?_
 refine .fact (Has.rngI (Has.t (t := 1) rfl)) fun lt1 => ?_
 refine .seq fun _ k1 => .region (st (.as (Has.cW (f := isU))) rfl ?_)
 refine nl (.thn (k1 _ _ ?_))
 refine .seq fun _ k2 => ?_
 refine .seq fun _ k3 => .region (st (.mv (.t rfl)) rfl ?_)
 refine st (.len sl28 (.t rfl)) rfl (st (.eqI (.t rfl) (Has.cI 0 rfl)) rfl ?_)
 refine nl (.thn (k3 _ _ ?_))
 refine .cond (.t rfl) (fun hc1 => ?_) (fun hc1 => ?_)
 ·have hc1 := BP.t hc1
  refine .seq fun _ k4 => .region (st (.as (Has.cW (f := isU))) rfl ?_)
  refine nl (.thn (k4 _ _ ?_))
  refine .ret ?_
  refine .thr ?_
  refine rt1 (.inl rfl) Try.results112 rfl (.tmp (Has.t' rfl ?_) .nil)
  all_goals (exact SlM_eq (upW_nil (by omega)))
 ·have hc1 := BP.f hc1
  refine .skip ?_
  refine .thn (k2 _ _ ?_)
  refine .seq fun _ k5 => .region (st (.mv (.t rfl)) rfl ?_)
  refine st (.mv (.t rfl)) rfl (st (.mv (.t rfl)) rfl ?_)
  refine st (.len sl28 (.t rfl)) rfl (st (.eq (.addI (.t rfl) (.t rfl) (by first | omega | assumption) (by first | omega | assumption)) ((show isI _ = isI ((n + xs.length : Nat) : Int) from isI_eq (by omega)))) rfl ?_)
  refine .make (f := isU) (u := 0) (n := n) (c := n + xs.length) sl28 ty48 zero48 (fun _ _ => ⟨⟨rfl, by decide⟩, trivial⟩) by48 (Has.t' rfl rfl) (Has.t' rfl rfl) ⟨by omega, by omega⟩ rfl fun b1 => ?_
  refine st (.mv (.t rfl)) rfl ?_
  refine .cv (Cv.winGrM (f := isU) (t := 13) (i := 0) (ys := List.replicate n 0) rfl rfl (by simp) (by simp) (by simp)) ?_
  refine .memEq (M' := [grM _ _ _]) rfl ?_
  refine .appendG (f := isU) (u := 0) sl28 ty48 zero48 (fun _ _ => ⟨⟨rfl, by decide⟩, trivial⟩) (fun _ => inferInstance) by48 (.t rfl) (i := 0) rfl (.t rfl) (by rw [List.length_replicate]; exact hn) (by omega) rfl fun gr1 => ?_
  refine .memEq (M' := [grM _ _ _]) rfl ?_
  refine .cv (Cv.freezeGn (t := 15) (i := 0) (ys := List.replicate n 0 ++ xs) rfl rfl rfl (by simp)) ?_
  refine .memEq (M' := []) rfl ?_
  refine .cv (Cv.wk (.k 0 rfl (.k 1 rfl (.k 4 rfl (.k 5 rfl (.k 6 rfl (.k 7 rfl (.k 8 rfl (.k 9 rfl (.k 10 rfl (.k 11 rfl (.k 12 rfl (.k 14 rfl (.k 15 rfl .nil)))))))))))))) ?_
  refine st (.as (.t rfl)) rfl ?_
  refine nl (.thn (k5 _ _ ?_))
  refine .cv (Cv.wk (.k 4 rfl .nil)) ?_
  refine .ret ?_
  refine rt1 (.inl rfl) Try.results112 rfl (.tmp (Has.t' rfl ?_) .nil)
  all_goals (exact SlM_eq (upW_app (by omega)))
theorem mul_joined {xs ys zs : List Nat} {n : Nat} (hx : (List.length (words (val xs))) ≤ 2100000000) (hn : n ≤ 1000000000) (hy : ys.length ≤ 2000000000) (hz : zs.length ≤ 2000000000) : Ctr Try.prog 97 [isWords xs, isWords ys, isWords zs, isI (n : Int)] (isWords (words (val xs + W ^ n * val ys + W ^ (2 * n) * val zs))) := by
 refine Ctr.intro Try.func97 rfl (by kernel_rfl) Try.ntmps97 rfl fun w0 F0 => ?_
 refine .cv (Cv.wk (.k 0 rfl (.k 1 rfl (.k 2 rfl (.k 3 rfl .nil))))) ?_
 refine .fact (Has.lenLt (Has.t (t := 0) rfl)) fun lt0 => ?_
 refine .fact (Has.okW (Has.t (t := 0) rfl)) fun ok0 => ?_
 refine .fact (Has.lenLt (Has.t (t := 1) rfl)) fun lt1 => ?_
 refine .fact (Has.okW (Has.t (t := 1) rfl)) fun ok1 => ?_
 refine .fact (Has.lenLt (Has.t (t := 2) rfl)) fun lt2 => ?_
 refine .fact (Has.okW (Has.t (t := 2) rfl)) fun ok2 => ?_
 refine .fact (Has.rngI (Has.t (t := 3) rfl)) fun lt3 => ?_
 have u1 := upW_nw (n := n) ok1
 have u2 := upW_nw (n := 2 * n) ok2
 have h1 := nw_add_le (val xs) (val (upW n ys))
 refine .seq fun _ k1 => .region (st (.as (Has.cW (f := isU))) rfl ?_)
 refine nl (.thn (k1 _ _ ?_))
 refine .seq fun _ k2 => .region (st (.as (Has.fn (ι := { p : List Nat × Nat // p.2 + p.1.length ≤ 4294967296 }) (As := fun p => [isWords p.1.1, isI (p.1.2 : Int)]) (R := fun p => isWords (upW p.1.2 p.1.1)) (fun p => mul_up p.2))) rfl ?_)
 refine nl (.thn (k2 _ _ ?_))
 refine .seq fun _ k3 => .region (st (.mv (.t rfl)) rfl ?_)
 refine st (.mv (.t rfl)) rfl (st (.mv (.t rfl)) rfl ?_)
 refine st (.mv (.t rfl)) rfl (st (.callV ⟨(ys, n), by show n + ys.length ≤ _; omega⟩ (.t rfl) (.cons (.t rfl) (.cons (.t rfl) .nil))) rfl ?_)
 refine st (.call (nat_Add (by first | with_reducible assumption | omega | (simp only [val_words]; omega)) (by first | with_reducible assumption | omega | (simp only [val_words]; omega))) (.cons (.t rfl) (.cons (.t rfl) .nil))) rfl ?_
 refine st (.mv (.t rfl)) rfl (st (.mv (.t rfl)) rfl ?_)
 refine st (.mv (.t rfl)) rfl (st (.eq (.mulI (Has.cI 2 rfl) (.t rfl) (by first | with_reducible assumption | omega | (simp only [val_words]; omega)) (by first | with_reducible assumption | omega | (simp only [val_words]; omega))) ((show isI _ = isI ((2 * n : Nat) : Int) from isI_eq (by omega)))) rfl ?_)
 refine st (.callV ⟨(zs, 2 * n), by show 2 * n + zs.length ≤ _; omega⟩ (.t rfl) (.cons (.t rfl) (.cons (.t rfl) .nil))) rfl ?_
 refine st (.call (nat_Add (by first | with_reducible assumption | omega | (simp only [val_words]; omega)) (by first | with_reducible assumption | omega | (simp only [val_words]; omega))) (.cons (.t rfl) (.cons (.t rfl) .nil))) rfl ?_
 refine st (.as (.t rfl)) rfl ?_
 refine nl (.thn (k3 _ _ ?_))
 refine .cv (Cv.wk (.k 8 rfl .nil)) ?_
 refine .ret ?_
 refine rt1 (.inl rfl) Try.results97 rfl (.tmp (Has.t' rfl ?_) .nil)
 all_goals (exact SlM_eq (by rw [val_words, upW_val, upW_val]))
theorem mul_MulStep {xs ys : List Nat} (hx : (List.length (words (val xs))) ≤ 1000000000) (hy : (List.length (words (val ys))) ≤ 1000000000) (IH : ∀ us vs : List Nat, max ((List.length (words (val us)))) ((List.length (words (val vs)))) < max ((List.length (words (val xs)))) ((List.length (words (val ys)))) → (List.length (words (val us))) ≤ 1000000000 → (List.length (words (val vs))) ≤ 1000000000 → Ctr Try.prog 65 [isWords us, isWords vs] (isWords (words (val us * val vs)))) : Ctr Try.prog 65 [isWords xs, isWords ys] (isWords (words (val xs * val ys))) := by
 refine Ctr.intro Try.func65 rfl (by kernel_rfl) Try.ntmps65 rfl fun w0 F0 => ?_
 refine .cv (Cv.wk (.k 0 rfl (.k 1 rfl .nil))) ?_
 refine .fact (Has.lenLt (Has.t (t := 0) rfl)) fun lt0 => ?_
 refine .fact (Has.okW (Has.t (t := 0) rfl)) fun ok0 => ?_
 refine .fact (Has.lenLt (Has.t (t := 1) rfl)) fun lt1 => ?_
 refine .fact (Has.okW (Has.t (t := 1) rfl)) fun ok1 => ?_
 obtain ⟨N, hN⟩ : ∃ N, N = (max ((List.length (words (val xs)))) ((List.length (words (val ys)))) + 1) / 2 := ⟨_, rfl⟩
 have kp := lowW_nw (val xs) N
 have kq := highW_nw (val xs) N
 have kr := lowW_nw (val ys) N
 have ks := highW_nw (val ys) N
 have ka := nw_add_le (val ((words (val xs)).take N)) (val ((words (val xs)).drop N))
 have kb := nw_add_le (val ((words (val ys)).take N)) (val ((words (val ys)).drop N))
 have ea := halves (val xs) N
 have eb := halves (val ys) N
 obtain ⟨p, hp⟩ : ∃ p, p = (words (val xs)).take N := ⟨_, rfl⟩
 obtain ⟨q, hq⟩ : ∃ q, q = (words (val xs)).drop N := ⟨_, rfl⟩
 obtain ⟨r, hr⟩ : ∃ r, r = (words (val ys)).take N := ⟨_, rfl⟩
 obtain ⟨s, hs⟩ : ∃ s, s = (words (val ys)).drop N := ⟨_, rfl⟩
 rw [← hp] at kp ka ea
 rw [← hq] at kq ka ea
 rw [← hr] at kr kb eb
 rw [← hs] at ks kb eb
 have kpr := nw_mul_le (val p) (val r)
 have kqs := nw_mul_le (val q) (val s)
 have kc := nw_mul_le (val p + val q) (val r + val s)
 have kc2 := nw_mono (Nat.sub_le ((val p + val q) * (val r + val s)) (val p * val r))
 have kc3 := nw_mono (Nat.sub_le ((val p + val q) * (val r + val s) - val p * val r) (val q * val s))
 refine .seq fun _ k1 => .region (st (.as (Has.cW (f := isU))) rfl ?_)
 refine nl (.thn (k1 _ _ ?_))
 refine .seq fun _ k2 => .region (st (.mv (.t rfl)) rfl ?_)
 refine st (.eq (.call (nat_Norm (by first | with_reducible assumption | omega | (simp only [val_words]; omega))) (.cons (.t rfl) .nil)) (by first | (simp only [val_words]; rfl) | rfl)) rfl ?_
 refine st (.mv (.t rfl)) rfl (st (.eq (.call (nat_Norm (by first | with_reducible assumption | omega | (simp only [val_words]; omega))) (.cons (.t rfl) .nil)) (by first | (simp only [val_words]; rfl) | rfl)) rfl ?_)
 refine st (.as (.t rfl)) rfl (st (.as (.t rfl)) rfl ?_)
 refine nl (.thn (k2 _ _ ?_))
 refine .seq fun _ k3 => ?_
 refine .seq fun _ k4 => .region (st (.mv (.t rfl)) rfl ?_)
 refine st (.len sl28 (.t rfl)) rfl ?_
 refine st (.mv (.t rfl)) rfl (st (.len sl28 (.t rfl)) rfl ?_)
 refine st (.minI (.t rfl) (.t rfl)) rfl ?_
 refine st (.leI (.t rfl) (Has.cI 8 rfl)) rfl ?_
 refine nl (.thn (k4 _ _ ?_))
 refine .cv (Cv.wk (.k 0 rfl (.k 1 rfl (.k 4 rfl (.k 22 rfl .nil))))) ?_
 refine .cond (.t rfl) (fun hc1 => ?_) (fun hc1 => ?_)
 ·have hc1 := BP.t hc1
  have HM : (List.length (words (val xs))) ≤ 8 ∨ (List.length (words (val ys))) ≤ 8 := (by revert hc1; split <;> intro hc1 <;> omega)
  refine .seq fun _ k5 => .region (st (.mv (.t rfl)) rfl ?_)
  refine st (.mv (.t rfl)) rfl (st (.eq (.call (nat_Mul (by first | with_reducible assumption | omega | (simp only [val_words]; omega))) (.cons (.t rfl) (.cons (.t rfl) .nil))) (by first | (simp only [val_words]; rfl) | rfl)) rfl ?_)
  refine st (.as (.t rfl)) rfl ?_
  refine nl (.thn (k5 _ _ ?_))
  refine .ret ?_
  refine .thr ?_
  refine rt1 (.inl rfl) Try.results65 rfl (.tmp (Has.t' rfl ?_) .nil)
  all_goals (rfl)
 ·have hc1 := BP.f hc1
  have HM : 8 < (List.length (words (val xs))) ∧ 8 < (List.length (words (val ys))) := (by revert hc1; split <;> intro hc1 <;> omega)
  refine .skip ?_
  refine .thn (k3 _ _ ?_)
  refine .seq fun _ k6 => .region (st (.mv (.t rfl)) rfl ?_)
  refine st (.len sl28 (.t rfl)) rfl ?_
  refine st (.mv (.t rfl)) rfl (st (.len sl28 (.t rfl)) rfl ?_)
  refine st (.maxI (.t rfl) (.t rfl)) rfl ?_
  refine st (.addI (.t rfl) (Has.cI 1 rfl) (by first | with_reducible assumption | omega | (simp only [val_words]; omega)) (by first | with_reducible assumption | omega | (simp only [val_words]; omega))) rfl ?_
  refine st (.eq (.quoI (.t rfl) (Has.cI 2 rfl) (by first | with_reducible assumption | omega | (simp only [val_words]; omega)) (by first | with_reducible assumption | omega | (simp only [val_words]; omega)) (by first | with_reducible assumption | omega | (simp only [val_words]; omega))) ((show isI _ = isI (N : Int) from isI_eq (by rw [hN]; split <;> omega)))) rfl ?_
  refine st (.as (.t rfl)) rfl ?_
  refine nl (.thn (k6 _ _ ?_))
  refine .cv (Cv.wk (.k 0 rfl (.k 1 rfl (.k 4 rfl (.k 5 rfl .nil))))) ?_
  refine .seq fun _ k7 => .region (st (.mv (.t rfl)) rfl ?_)
  refine st (.mv (.t rfl)) rfl (st (.eq (.call (mul_low) (.cons (.t rfl) (.cons (.t rfl) .nil))) ((show isWords ((words (val xs)).take N) = isWords p from SlM_eq hp.symm))) rfl ?_)
  refine st (.mv (.t rfl)) rfl (st (.mv (.t rfl)) rfl ?_)
  refine st (.eq (.call (mul_high) (.cons (.t rfl) (.cons (.t rfl) .nil))) ((show isWords ((words (val xs)).drop N) = isWords q from SlM_eq hq.symm))) rfl ?_
  refine st (.mv (.t rfl)) rfl (st (.mv (.t rfl)) rfl ?_)
  refine st (.eq (.call (mul_low) (.cons (.t rfl) (.cons (.t rfl) .nil))) ((show isWords ((words (val ys)).take N) = isWords r from SlM_eq hr.symm))) rfl ?_
  refine st (.mv (.t rfl)) rfl (st (.mv (.t rfl)) rfl ?_)
  refine st (.eq (.call (mul_high) (.cons (.t rfl) (.cons (.t rfl) .nil))) ((show isWords ((words (val ys)).drop N) = isWords s from SlM_eq hs.symm))) rfl ?_
  refine st (.as (.t rfl)) rfl (st (.as (.t rfl)) rfl ?_)
  refine st (.as (.t rfl)) rfl (st (.as (.t rfl)) rfl ?_)
  refine nl (.thn (k7 _ _ ?_))
  refine .cv (Cv.wk (.k 4 rfl (.k 5 rfl (.k 6 rfl (.k 7 rfl (.k 8 rfl (.k 9 rfl .nil))))))) ?_
  refine .seq fun _ k8 => .region (st (.mv (.t rfl)) rfl ?_)
  refine st (.mv (.t rfl)) rfl (st (.call (IH _ _ (by first | with_reducible assumption | omega | (simp only [val_words]; omega)) (by first | with_reducible assumption | omega | (simp only [val_words]; omega)) (by first | with_reducible assumption | omega | (simp only [val_words]; omega))) (.cons (.t rfl) (.cons (.t rfl) .nil))) rfl ?_)
  refine st (.mv (.t rfl)) rfl (st (.mv (.t rfl)) rfl ?_)
  refine st (.call (IH _ _ (by first | with_reducible assumption | omega | (simp only [val_words]; omega)) (by first | with_reducible assumption | omega | (simp only [val_words]; omega)) (by first | with_reducible assumption | omega | (simp only [val_words]; omega))) (.cons (.t rfl) (.cons (.t rfl) .nil))) rfl ?_
  refine st (.as (.t rfl)) rfl (st (.as (.t rfl)) rfl ?_)
  refine nl (.thn (k8 _ _ ?_))
  refine .cv (Cv.wk (.k 4 rfl (.k 5 rfl (.k 6 rfl (.k 7 rfl (.k 8 rfl (.k 9 rfl (.k 10 rfl (.k 11 rfl .nil))))))))) ?_
  refine .seq fun _ k9 => .region (st (.mv (.t rfl)) rfl ?_)
  refine st (.mv (.t rfl)) rfl (st (.eq (.call (nat_Add (by first | with_reducible assumption | omega | (simp only [val_words]; omega)) (by first | with_reducible assumption | omega | (simp only [val_words]; omega))) (.cons (.t rfl) (.cons (.t rfl) .nil))) ((show isWords (words (val p + val q)) = _ from rfl))) rfl ?_)
  refine st (.mv (.t rfl)) rfl (st (.mv (.t rfl)) rfl ?_)
  refine st (.call (nat_Add (by first | with_reducible assumption | omega | (simp only [val_words]; omega)) (by first | with_reducible assumption | omega | (simp only [val_words]; omega))) (.cons (.t rfl) (.cons (.t rfl) .nil))) rfl ?_
  refine st (.eq (.call (IH _ _ (by first | with_reducible assumption | omega | (simp only [val_words]; omega)) (by first | with_reducible assumption | omega | (simp only [val_words]; omega)) (by first | with_reducible assumption | omega | (simp only [val_words]; omega))) (.cons (.t rfl) (.cons (.t rfl) .nil))) ((show isWords _ = isWords (words ((val p + val q) * (val r + val s))) from SlM_eq (by rw [val_words, val_words])))) rfl ?_
  refine st (.mv (.t rfl)) rfl (st (.eq (.call (mul_less (by first | with_reducible assumption | omega | (simp only [val_words]; omega))) (.cons (.t rfl) (.cons (.t rfl) .nil))) ((show isWords _ = isWords (words ((val p + val q) * (val r + val s) - val p * val r)) from SlM_eq (by rw [val_words, val_words])))) rfl ?_)
  refine st (.mv (.t rfl)) rfl (st (.eq (.call (mul_less (by first | with_reducible assumption | omega | (simp only [val_words]; omega))) (.cons (.t rfl) (.cons (.t rfl) .nil))) ((show isWords _ = isWords (words ((val p + val q) * (val r + val s) - val p * val r - val q * val s)) from SlM_eq (by rw [val_words, val_words])))) rfl ?_)
  refine st (.as (.t rfl)) rfl ?_
  refine nl (.thn (k9 _ _ ?_))
  refine .cv (Cv.wk (.k 4 rfl (.k 5 rfl (.k 10 rfl (.k 11 rfl (.k 12 rfl .nil)))))) ?_
  refine .seq fun _ k10 => .region (st (.mv (.t rfl)) rfl ?_)
  refine st (.mv (.t rfl)) rfl (st (.mv (.t rfl)) rfl ?_)
  refine st (.mv (.t rfl)) rfl (st (.call (mul_joined (by simp only [val_words]; omega) (by omega) (by omega) (by omega)) (.cons (.t rfl) (.cons (.t rfl) (.cons (.t rfl) (.cons (.t rfl) .nil))))) rfl ?_)
  refine st (.as (.t rfl)) rfl ?_
  refine nl (.thn (k10 _ _ ?_))
  refine .cv (Cv.wk (.k 4 rfl .nil)) ?_
  refine .ret ?_
  refine rt1 (.inl rfl) Try.results65 rfl (.tmp (Has.t' rfl ?_) .nil)
  all_goals (exact SlM_eq (by simp only [val_words]; rw [kara, ea, eb]))
theorem mul_Mul : ∀ {xs ys : List Nat}, (List.length (words (val xs))) ≤ 1000000000 → (List.length (words (val ys))) ≤ 1000000000 → Ctr Try.prog 65 [isWords xs, isWords ys] (isWords (words (val xs * val ys))) := by
 have h : ∀ N, ∀ xs ys : List Nat, max ((List.length (words (val xs)))) ((List.length (words (val ys)))) ≤ N → (List.length (words (val xs))) ≤ 1000000000 → (List.length (words (val ys))) ≤ 1000000000 → Ctr Try.prog 65 [isWords xs, isWords ys] (isWords (words (val xs * val ys))) := by
  intro N
  induction N with
  | zero => intro xs ys h hx hy; exact mul_MulStep hx hy (fun us vs hl => absurd hl (by omega))
  | succ N ih => intro xs ys h hx hy; exact mul_MulStep hx hy (fun us vs hl => ih us vs (by omega))
 intro xs ys hx hy
 exact h _ xs ys (Nat.le_refl _) hx hy
theorem zint_From {xs : List Nat} {m : Bool} (hx : (List.length (words (val xs))) ≤ 4294967296) : Ctr Try.prog 60 [isWords xs, isB m] (isZ (zv m xs)) := by
 refine Ctr.intro Try.func60 rfl (by kernel_rfl) Try.ntmps60 rfl fun w0 F0 => ?_
 refine .cv (Cv.wk (.k 0 rfl (.k 1 rfl .nil))) ?_
 refine .fact (Has.lenLt (Has.t (t := 0) rfl)) fun lt0 => ?_
 refine .fact (Has.okW (Has.t (t := 0) rfl)) fun ok0 => ?_
 refine .seq fun _ k1 => .region (.alloc [isB false, SlM isU []] zero30 (fun _ _ => ⟨rfl, nilM _ _, trivial⟩) rfl fun b1 => ?_)
 refine nl (.thn (k1 _ _ ?_))
 refine .seq fun _ k2 => .region (st (.mv (.t rfl)) rfl ?_)
 refine st (.call (nat_Norm (by first | with_reducible assumption | omega | (simp only [val_words, zv_nf]; omega) | (simp only [val_words]; exact Nat.le_trans (nw_small' (by omega)) (by decide)))) (.cons (.t rfl) .nil)) rfl ?_
 refine st (.as (.t rfl)) rfl ?_
 refine nl (.thn (k2 _ _ ?_))
 refine .seq fun _ k3 => .region (st (.mv (.t rfl)) rfl ?_)
 refine st (.mv (.t rfl)) rfl ?_
 refine stT rfl rfl (fun hg => have hg' := BP.t hg; OK1.mv (.t rfl)) rfl ?_
 refine stT rfl rfl (fun hg => have hg' := BP.t hg; OK1.len sl28 (Has.g rfl hg)) rfl ?_
 refine stT rfl rfl (fun hg => have hg' := BP.t hg; OK1.gtI (Has.g rfl hg) (Has.cI 0 rfl)) rfl ?_
 refine st (.pickAnd (.t rfl) (fun h => Has.g rfl h)) rfl ?_
 refine st (.mv (.t rfl)) rfl (st (.build [isB false, SlM isU []] pl30 zero30 (fun _ _ => ⟨rfl, nilM _ _, trivial⟩) (.cons (.t rfl) rfl rfl rfl (.cons (.t rfl) rfl rfl rfl .nil)) (Z'' := [_, _]) rfl) rfl ?_)
 refine .store (.t rfl) (.t rfl) (i := 0) rfl ty30 rfl rfl (Ss' := [_, _]) rfl (M' := [(some _, cellM [_, _])]) rfl ?_
 refine nl (.thn (k3 _ _ ?_))
 refine .cv (Cv.wk (.k 4 rfl .nil)) ?_
 refine .ret ?_
 refine rt1 (.inl rfl) Try.results60 rfl (.cell rfl (i := 0) rfl ty30 rfl ?_ .nil)
 ·exact isZ_of (from_neg m xs) (by rw [zv_abs])
theorem zint_Of {x : Int} : Ctr Try.prog 26 [isI x] (isZ x) := by
 refine Ctr.intro Try.func26 rfl (by kernel_rfl) Try.ntmps26 rfl fun w0 F0 => ?_
 refine .cv (Cv.wk (.k 0 rfl .nil)) ?_
 refine .fact (Has.rngI (Has.t (t := 0) rfl)) fun lt0 => ?_
 refine .seq fun _ k1 => .region (.alloc [isB false, SlM isU []] zero30 (fun _ _ => ⟨rfl, nilM _ _, trivial⟩) rfl fun b1 => ?_)
 refine nl (.thn (k1 _ _ ?_))
 refine .seq fun _ k2 => ?_
 refine .seq fun _ k3 => .region (st (.mv (.t rfl)) rfl ?_)
 refine st (.ltI (.t rfl) (Has.cI 0 rfl)) rfl ?_
 refine nl (.thn (k3 _ _ ?_))
 refine .cond (.t rfl) (fun hc1 => ?_) (fun hc1 => ?_)
 ·have hc1 := BP.t hc1
  have hN : x < 0 := hc1
  refine .seq fun _ k4 => .region (st (.mv (.t rfl)) rfl ?_)
  refine st (.convIUw un2 un48 (.t rfl)) rfl ?_
  refine st (.eq (.negU (.t rfl) (by first | with_reducible assumption | omega | (simp only [val_words, zv_nf]; omega) | (simp only [val_words]; exact Nat.le_trans (nw_small' (by omega)) (by decide)))) ((show isU _ = isU x.natAbs from isU_eq (neg_word hc1 (by omega))))) rfl ?_
  refine st (.call (nat_Of) (.cons (.t rfl) .nil)) rfl ?_
  refine st (.call (zint_From (by first | with_reducible assumption | omega | (simp only [val_words, zv_nf]; omega) | (simp only [val_words]; exact Nat.le_trans (nw_small' (by omega)) (by decide)))) (.cons (.t rfl) (.cons (Has.cB true) .nil))) rfl ?_
  refine .store (.t rfl) (.t rfl) (i := 0) rfl ty30 rfl rfl (Ss' := [_, _]) rfl (M' := [(some _, cellM [_, _])]) rfl ?_
  refine nl (.thn (k4 _ _ ?_))
  refine .cv (Cv.wk (.k 0 rfl (.k 2 rfl .nil))) ?_
  refine .ret ?_
  refine .thr ?_
  refine rt1 (.inl rfl) Try.results26 rfl (.cell rfl (i := 0) rfl ty30 rfl ?_ .nil)
  ·exact isZ_eq (by rw [from_word, if_pos rfl]; omega)
 ·have hc1 := BP.f hc1
  have hN : 0 ≤ x := (by omega)
  refine .skip ?_
  refine .thn (k2 _ _ ?_)
  refine .seq fun _ k5 => .region (st (.mv (.t rfl)) rfl ?_)
  refine st (.eq (.convIU un2 un48 (.t rfl) (by first | with_reducible assumption | omega | (simp only [val_words, zv_nf]; omega) | (simp only [val_words]; exact Nat.le_trans (nw_small' (by omega)) (by decide))) (by first | with_reducible assumption | omega | (simp only [val_words, zv_nf]; omega) | (simp only [val_words]; exact Nat.le_trans (nw_small' (by omega)) (by decide)))) ((show isU _ = isU x.natAbs from isU_eq (by omega)))) rfl ?_
  refine st (.call (nat_Of) (.cons (.t rfl) .nil)) rfl ?_
  refine st (.call (zint_From (by first | with_reducible assumption | omega | (simp only [val_words, zv_nf]; omega) | (simp only [val_words]; exact Nat.le_trans (nw_small' (by omega)) (by decide)))) (.cons (.t rfl) (.cons (Has.cB false) .nil))) rfl ?_
  refine .store (.t rfl) (.t rfl) (i := 0) rfl ty30 rfl rfl (Ss' := [_, _]) rfl (M' := [(some _, cellM [_, _])]) rfl ?_
  refine nl (.thn (k5 _ _ ?_))
  refine .cv (Cv.wk (.k 2 rfl .nil)) ?_
  refine .ret ?_
  refine rt1 (.inl rfl) Try.results26 rfl (.cell rfl (i := 0) rfl ty30 rfl ?_ .nil)
  ·exact isZ_eq (by rw [from_word, if_neg (by decide)]; omega)
theorem zint_Sign {m : Bool} {xs : List Nat} (hx : (List.length (words (val xs))) < 4294900000) : Ctr Try.prog 11 [Flat [isB m, isWords xs]] (isI (sgn (zv m xs))) := by
 refine Ctr.intro Try.func11 rfl (by kernel_rfl) Try.ntmps11 rfl fun w0 F0 => ?_
 refine .cv (Cv.wk (.k 0 rfl .nil)) ?_
 refine .fact (Has.okZ (Has.t (t := 0) rfl)) fun okz0 => ?_
 refine .seq fun _ k1 => .region (.box (.t rfl) rfl fun b1 => ?_)
 refine st (.as (Has.cI 0 rfl)) rfl ?_
 refine nl (.thn (k1 _ _ ?_))
 refine .seq fun _ k2 => ?_
 refine .block ?_
 refine .seq fun _ k3 => .region (st (.fieldAddr (.t rfl) fld30_1 ty28) rfl ?_)
 refine st (.load1 (.t rfl) (i := 0) rfl ty28 rfl) rfl (st (.call (nat_Bits (by first | with_reducible assumption | omega | (simp only [val_words, zv_nf]; omega) | (simp only [val_words]; exact Nat.le_trans (nw_small' (by omega)) (by decide)))) (.cons (.t rfl) .nil)) rfl ?_)
 refine st (.eqI (.t rfl) (Has.cI 0 rfl)) rfl ?_
 refine st (.as (.t rfl)) rfl ?_
 refine nl (.thn (k3 _ _ ?_))
 refine .cv (Cv.wk (.k 1 rfl (.k 2 rfl (.k 3 rfl .nil)))) ?_
 refine .cond (.t rfl) (fun hc1 => ?_) (fun hc1 => ?_)
 ·have hc1 := BP.t hc1
  refine .seq fun _ k4 => .region (st (.as (Has.cI 0 rfl)) rfl ?_)
  refine nl (.thn (k4 _ _ ?_))
  refine .ret ?_
  refine .blr ?_
  refine .thr ?_
  refine rt1 (.inl rfl) Try.results11 rfl (.tmp (Has.t' rfl ?_) .nil)
  all_goals (exact isI_eq (sgn_zero hc1))
 ·have hc1 := BP.f hc1
  refine .seq fun _ k5 => .region (st (.fieldAddr (.t rfl) fld30_0 ty4) rfl ?_)
  refine st (.load1 (.t rfl) (i := 0) rfl ty4 rfl) rfl (st (.as (.t rfl)) rfl ?_)
  refine nl (.thn (k5 _ _ ?_))
  refine .cond (.t rfl) (fun hc2 => ?_) (fun hc2 => ?_)
  ·have hc2 := BP.t hc2
   have HM := hc2
   refine .seq fun _ k6 => .region (st (.as (Has.cI (-1) rfl)) rfl ?_)
   refine nl (.thn (k6 _ _ ?_))
   refine .cv (Cv.wk (.k 2 rfl .nil)) ?_
   refine .ret ?_
   refine .blr ?_
   refine .thr ?_
   refine rt1 (.inl rfl) Try.results11 rfl (.tmp (Has.t' rfl ?_) .nil)
   all_goals (exact isI_eq (by rw [← sgn_of hc1, if_pos HM]))
  ·have hc2 := BP.f hc2
   have HM := hc2
   refine .skip ?_
   refine .bln ?_
   refine .thn (k2 _ _ ?_)
   refine .cv (Cv.wk (.k 2 rfl .nil)) ?_
   refine .seq fun _ k7 => .region (st (.as (Has.cI 1 rfl)) rfl ?_)
   refine nl (.thn (k7 _ _ ?_))
   refine .ret ?_
   refine rt1 (.inl rfl) Try.results11 rfl (.tmp (Has.t' rfl ?_) .nil)
   all_goals (exact isI_eq (by rw [← sgn_of hc1, if_neg (by rw [HM]; decide)]))
theorem zint_Cmp {m n : Bool} {xs ys : List Nat} (hx : (List.length (words (val xs))) < 4294700000) (hy : (List.length (words (val ys))) < 4294700000) : Ctr Try.prog 39 [Flat [isB m, isWords xs], Flat [isB n, isWords ys]] (isI (cmpZ (zv m xs) (zv n ys))) := by
 refine Ctr.intro Try.func39 rfl (by kernel_rfl) Try.ntmps39 rfl fun w0 F0 => ?_
 refine .cv (Cv.wk (.k 0 rfl (.k 1 rfl .nil))) ?_
 refine .fact (Has.okZ (Has.t (t := 0) rfl)) fun okz0 => ?_
 refine .fact (Has.okZ (Has.t (t := 1) rfl)) fun okz1 => ?_
 refine .seq fun _ k1 => .region (.box (.t rfl) rfl fun b1 => ?_)
 refine .box (.t rfl) rfl fun b2 => ?_
 refine st (.as (Has.cI 0 rfl)) rfl ?_
 refine nl (.thn (k1 _ _ ?_))
 refine .seq fun _ k2 => ?_
 refine .dr ?_
 refine .s [] rfl rfl rfl (.o rfl (.load (.t rfl) (i := 1) rfl ty30 rfl (Ss' := [_, _]) rfl)) ?_
 refine .s [7] rfl rfl rfl (.o rfl (.call (zint_Sign (by first | with_reducible assumption | omega | (simp only [val_words, zv_nf]; omega) | (simp only [val_words]; exact Nat.le_trans (nw_small' (by omega)) (by decide)))) (.cons (.t rfl) .nil))) ?_
 refine .s [] rfl rfl rfl (.o rfl (.load (.t rfl) (i := 0) rfl ty30 rfl (Ss' := [_, _]) rfl)) ?_
 refine .fin (n := 3) mixed (by kernel_rfl) (by kernel_rfl) (by kernel_rfl) ?_
 refine .cv (Cv.wk (.k 2 rfl (.k 3 rfl (.k 4 rfl (.k 8 rfl (.k 9 rfl .nil)))))) ?_
 refine st (.call (zint_Sign (by first | with_reducible assumption | omega | (simp only [val_words, zv_nf]; omega) | (simp only [val_words]; exact Nat.le_trans (nw_small' (by omega)) (by decide)))) (.cons (.t rfl) .nil)) rfl ?_
 refine st (.as (.t rfl)) rfl (st (.as (.t rfl)) rfl ?_)
 refine nl (.thn (k2 _ _ ?_))
 refine .seq fun _ k3 => ?_
 refine .block ?_
 refine .seq fun _ k4 => .region (st (.mv (.t rfl)) rfl ?_)
 refine st (.mv (.t rfl)) rfl (st (.ltI (.t rfl) (.t rfl)) rfl ?_)
 refine st (.as (.t rfl)) rfl ?_
 refine nl (.thn (k4 _ _ ?_))
 refine .cv (Cv.wk (.k 2 rfl (.k 3 rfl (.k 4 rfl (.k 5 rfl (.k 6 rfl (.k 11 rfl .nil))))))) ?_
 refine .cond (.t rfl) (fun hc1 => ?_) (fun hc1 => ?_)
 ·have hc1 := BP.t hc1
  refine .seq fun _ k5 => .region (st (.as (Has.cI (-1) rfl)) rfl ?_)
  refine nl (.thn (k5 _ _ ?_))
  refine .ret ?_
  refine .blr ?_
  refine .thr ?_
  refine rt1 (.inl rfl) Try.results39 rfl (.tmp (Has.t' rfl ?_) .nil)
  all_goals (exact isI_eq (cmpZ_lt hc1))
 ·have hc1 := BP.f hc1
  refine .seq fun _ k6 => .region (st (.mv (.t rfl)) rfl ?_)
  refine st (.mv (.t rfl)) rfl (st (.gtI (.t rfl) (.t rfl)) rfl ?_)
  refine st (.as (.t rfl)) rfl ?_
  refine nl (.thn (k6 _ _ ?_))
  refine .cv (Cv.wk (.k 2 rfl (.k 3 rfl (.k 4 rfl (.k 5 rfl (.k 15 rfl .nil)))))) ?_
  refine .cond (.t rfl) (fun hc2 => ?_) (fun hc2 => ?_)
  ·have hc2 := BP.t hc2
   refine .seq fun _ k7 => .region (st (.as (Has.cI 1 rfl)) rfl ?_)
   refine nl (.thn (k7 _ _ ?_))
   refine .ret ?_
   refine .blr ?_
   refine .thr ?_
   refine rt1 (.inl rfl) Try.results39 rfl (.tmp (Has.t' rfl ?_) .nil)
   all_goals (exact isI_eq (cmpZ_gt hc2))
  ·have hc2 := BP.f hc2
   refine .seq fun _ k8 => .region (st (.mv (.t rfl)) rfl ?_)
   refine st (.ltI (.t rfl) (Has.cI 0 rfl)) rfl ?_
   refine st (.as (.t rfl)) rfl ?_
   refine nl (.thn (k8 _ _ ?_))
   refine .cond (.t rfl) (fun hc3 => ?_) (fun hc3 => ?_)
   ·have hc3 := BP.t hc3
    refine .seq fun _ k9 => .region (st (.fieldAddr (.t rfl) fld30_1 ty28) rfl ?_)
    refine st (.load1 (.t rfl) (i := 0) rfl ty28 rfl) rfl (st (.fieldAddr (.t rfl) fld30_1 ty28) rfl ?_)
    refine st (.load1 (.t rfl) (i := 1) rfl ty28 rfl) rfl (st (.call (nat_Cmp) (.cons (.t rfl) (.cons (.t rfl) .nil))) rfl ?_)
    refine st (.as (.t rfl)) rfl ?_
    refine nl (.thn (k9 _ _ ?_))
    refine .cv (Cv.wk (.k 2 rfl (.k 3 rfl (.k 4 rfl .nil)))) ?_
    refine .ret ?_
    refine .blr ?_
    refine .thr ?_
    refine rt1 (.inl rfl) Try.results39 rfl (.tmp (Has.t' rfl ?_) .nil)
    all_goals (exact isI_eq (cmpZ_neg hc3 (by omega) (by omega)))
   ·have hc3 := BP.f hc3
    refine .skip ?_
    refine .bln ?_
    refine .thn (k3 _ _ ?_)
    refine .cv (Cv.wk (.k 2 rfl (.k 3 rfl (.k 4 rfl .nil)))) ?_
    refine .seq fun _ k10 => .region (st (.fieldAddr (.t rfl) fld30_1 ty28) rfl ?_)
    refine st (.load1 (.t rfl) (i := 1) rfl ty28 rfl) rfl (st (.fieldAddr (.t rfl) fld30_1 ty28) rfl ?_)
    refine st (.load1 (.t rfl) (i := 0) rfl ty28 rfl) rfl (st (.call (nat_Cmp) (.cons (.t rfl) (.cons (.t rfl) .nil))) rfl ?_)
    refine st (.as (.t rfl)) rfl ?_
    refine nl (.thn (k10 _ _ ?_))
    refine .cv (Cv.wk (.k 4 rfl .nil)) ?_
    refine .ret ?_
    refine rt1 (.inl rfl) Try.results39 rfl (.tmp (Has.t' rfl ?_) .nil)
    all_goals (exact isI_eq (cmpZ_pos (by omega) (by omega) (by omega)))
theorem zint_Same {m n : Bool} {xs ys : List Nat} (hx : (List.length (words (val xs))) < 4294700000) (hy : (List.length (words (val ys))) < 4294700000) : Ctr Try.prog 14 [Flat [isB m, isWords xs], Flat [isB n, isWords ys]] (isB (decide (zv m xs = zv n ys))) := by
 refine Ctr.intro Try.func14 rfl (by kernel_rfl) Try.ntmps14 rfl fun w0 F0 => ?_
 refine .cv (Cv.wk (.k 0 rfl (.k 1 rfl .nil))) ?_
 refine .fact (Has.okZ (Has.t (t := 0) rfl)) fun okz0 => ?_
 refine .fact (Has.okZ (Has.t (t := 1) rfl)) fun okz1 => ?_
 refine .seq fun _ k1 => .region (.box (.t rfl) rfl fun b1 => ?_)
 refine .box (.t rfl) rfl fun b2 => ?_
 refine st (.as (Has.cB false)) rfl ?_
 refine nl (.thn (k1 _ _ ?_))
 refine .seq fun _ k2 => .region (st (.load (.t rfl) (i := 1) rfl ty30 rfl (Ss' := [_, _]) rfl) rfl ?_)
 refine st (.load (.t rfl) (i := 0) rfl ty30 rfl (Ss' := [_, _]) rfl) rfl (st (.call (zint_Cmp (by first | with_reducible assumption | omega | (simp only [val_words, zv_nf]; omega) | (simp only [val_words]; exact Nat.le_trans (nw_small' (by omega)) (by decide))) (by first | with_reducible assumption | omega | (simp only [val_words, zv_nf]; omega) | (simp only [val_words]; exact Nat.le_trans (nw_small' (by omega)) (by decide)))) (.cons (.t rfl) (.cons (.t rfl) .nil))) rfl ?_)
 refine st (.eqI (.t rfl) (Has.cI 0 rfl)) rfl ?_
 refine st (.as (.t rfl)) rfl ?_
 refine nl (.thn (k2 _ _ ?_))
 refine .cv (Cv.wk (.k 4 rfl .nil)) ?_
 refine .ret ?_
 refine rt1 (.inl rfl) Try.results14 rfl (.tmp (Has.t' rfl ?_) .nil)
 all_goals (exact isB_eq (cmpZ_eq0 _ _))
theorem zint_Neg {m : Bool} {xs : List Nat} (hx : (List.length (words (val xs))) < 4294900000) : Ctr Try.prog 74 [Flat [isB m, isWords xs]] (isZ (-(zv m xs))) := by
 refine Ctr.intro Try.func74 rfl (by kernel_rfl) Try.ntmps74 rfl fun w0 F0 => ?_
 refine .cv (Cv.wk (.k 0 rfl .nil)) ?_
 refine .fact (Has.okZ (Has.t (t := 0) rfl)) fun okz0 => ?_
 refine .seq fun _ k1 => .region (.box (.t rfl) rfl fun b1 => ?_)
 refine .alloc [isB false, SlM isU []] zero30 (fun _ _ => ⟨rfl, nilM _ _, trivial⟩) rfl fun b2 => ?_
 refine nl (.thn (k1 _ _ ?_))
 refine .seq fun _ k2 => .region (st (.fieldAddr (.t rfl) fld30_1 ty28) rfl ?_)
 refine st (.load1 (.t rfl) (i := 1) rfl ty28 rfl) rfl (st (.fieldAddr (.t rfl) fld30_0 ty4) rfl ?_)
 refine st (.load1 (.t rfl) (i := 1) rfl ty4 rfl) rfl (st (.not (.t rfl)) rfl ?_)
 refine st (.call (zint_From (by first | with_reducible assumption | omega | (simp only [val_words, zv_nf]; omega) | (simp only [val_words]; exact Nat.le_trans (nw_small' (by omega)) (by decide)))) (.cons (.t rfl) (.cons (.t rfl) .nil))) rfl ?_
 refine .store (.t rfl) (.t rfl) (i := 0) rfl ty30 rfl rfl (Ss' := [_, _]) rfl (M' := [(some _, cellM [_, _]), _]) rfl ?_
 refine nl (.thn (k2 _ _ ?_))
 refine .cv (Cv.wk (.k 2 rfl .nil)) ?_
 refine .ret ?_
 refine rt1 (.inl rfl) Try.results74 rfl (.cell rfl (i := 0) rfl ty30 rfl ?_ .nil)
 ·exact isZ_eq (zv_not m xs)
theorem zint_Abs {m : Bool} {xs : List Nat} (hx : (List.length (words (val xs))) < 4294900000) : Ctr Try.prog 31 [Flat [isB m, isWords xs]] (isZ (((zv m xs).natAbs : Nat) : Int)) := by
 refine Ctr.intro Try.func31 rfl (by kernel_rfl) Try.ntmps31 rfl fun w0 F0 => ?_
 refine .cv (Cv.wk (.k 0 rfl .nil)) ?_
 refine .fact (Has.okZ (Has.t (t := 0) rfl)) fun okz0 => ?_
 refine .seq fun _ k1 => .region (.box (.t rfl) rfl fun b1 => ?_)
 refine .alloc [isB false, SlM isU []] zero30 (fun _ _ => ⟨rfl, nilM _ _, trivial⟩) rfl fun b2 => ?_
 refine nl (.thn (k1 _ _ ?_))
 refine .seq fun _ k2 => .region (st (.fieldAddr (.t rfl) fld30_1 ty28) rfl ?_)
 refine st (.load1 (.t rfl) (i := 1) rfl ty28 rfl) rfl (st (.call (zint_From (by first | with_reducible assumption | omega | (simp only [val_words, zv_nf]; omega) | (simp only [val_words]; exact Nat.le_trans (nw_small' (by omega)) (by decide)))) (.cons (.t rfl) (.cons (Has.cB false) .nil))) rfl ?_)
 refine .store (.t rfl) (.t rfl) (i := 0) rfl ty30 rfl rfl (Ss' := [_, _]) rfl (M' := [(some _, cellM [_, _]), _]) rfl ?_
 refine nl (.thn (k2 _ _ ?_))
 refine .cv (Cv.wk (.k 2 rfl .nil)) ?_
 refine .ret ?_
 refine rt1 (.inl rfl) Try.results31 rfl (.cell rfl (i := 0) rfl ty30 rfl ?_ .nil)
 ·exact isZ_eq (by rw [zv_abs]; exact zv_false xs)
theorem zint_Add {m n : Bool} {xs ys : List Nat} (hx : (List.length (words (val xs))) < 4294700000) (hy : (List.length (words (val ys))) < 4294700000) : Ctr Try.prog 75 [Flat [isB m, isWords xs], Flat [isB n, isWords ys]] (isZ (zv m xs + zv n ys)) := by
 refine Ctr.intro Try.func75 rfl (by kernel_rfl) Try.ntmps75 rfl fun w0 F0 => ?_
 refine .cv (Cv.wk (.k 0 rfl (.k 1 rfl .nil))) ?_
 refine .fact (Has.okZ (Has.t (t := 0) rfl)) fun okz0 => ?_
 refine .fact (Has.okZ (Has.t (t := 1) rfl)) fun okz1 => ?_
 have ha := nw_add_le (val xs) (val ys)
 have hb := nw_mono (Nat.sub_le (val xs) (val ys))
 have hd := nw_mono (Nat.sub_le (val ys) (val xs))
 refine .seq fun _ k1 => .region (.box (.t rfl) rfl fun b1 => ?_)
 refine .box (.t rfl) rfl fun b2 => ?_
 refine .alloc [isB false, SlM isU []] zero30 (fun _ _ => ⟨rfl, nilM _ _, trivial⟩) rfl fun b3 => ?_
 refine nl (.thn (k1 _ _ ?_))
 refine .seq fun _ k2 => ?_
 refine .seq fun _ k3 => .region (st (.fieldAddr (.t rfl) fld30_0 ty4) rfl ?_)
 refine st (.load1 (.t rfl) (i := 2) rfl ty4 rfl) rfl (st (.fieldAddr (.t rfl) fld30_0 ty4) rfl ?_)
 refine st (.load1 (.t rfl) (i := 1) rfl ty4 rfl) rfl (st (.eqB (du := un4) rfl (.t rfl) (.t rfl)) rfl ?_)
 refine nl (.thn (k3 _ _ ?_))
 refine .cv (Cv.wk (.k 2 rfl (.k 3 rfl (.k 4 rfl (.k 13 rfl .nil))))) ?_
 refine .cond (.t rfl) (fun hc1 => ?_) (fun hc1 => ?_)
 ·have hc1 := BP.t hc1
  have HM : m = n := eq_of_beq hc1
  refine .seq fun _ k4 => ?_
  refine .dr ?_
  refine .s [] rfl rfl rfl (.o rfl (.fieldAddr (.t rfl) fld30_1 ty28)) ?_
  refine .s [14] rfl rfl rfl (.o rfl (.load1 (.t rfl) (i := 2) rfl ty28 rfl)) ?_
  refine .s [] rfl rfl rfl (.o rfl (.fieldAddr (.t rfl) fld30_1 ty28)) ?_
  refine .s [16] rfl rfl rfl (.o rfl (.load1 (.t rfl) (i := 1) rfl ty28 rfl)) ?_
  refine .s [15, 17] rfl rfl rfl (.o rfl (.call (nat_Add (by first | with_reducible assumption | omega | (simp only [val_words, zv_nf]; omega) | (simp only [val_words]; exact Nat.le_trans (nw_small' (by omega)) (by decide))) (by first | with_reducible assumption | omega | (simp only [val_words, zv_nf]; omega) | (simp only [val_words]; exact Nat.le_trans (nw_small' (by omega)) (by decide)))) (.cons (.t rfl) (.cons (.t rfl) .nil)))) ?_
  refine .s [] rfl rfl rfl (.o rfl (.fieldAddr (.t rfl) fld30_0 ty4)) ?_
  refine .s [19] rfl rfl rfl (.o rfl (.load1 (.t rfl) (i := 2) rfl ty4 rfl)) ?_
  refine .fin (n := 7) mixed (by kernel_rfl) (by kernel_rfl) (by kernel_rfl) ?_
  refine .cv (Cv.wk (.k 2 rfl (.k 3 rfl (.k 4 rfl (.k 18 rfl (.k 20 rfl .nil)))))) ?_
  refine st (.call (zint_From (by first | with_reducible assumption | omega | (simp only [val_words, zv_nf]; omega) | (simp only [val_words]; exact Nat.le_trans (nw_small' (by omega)) (by decide)))) (.cons (.t rfl) (.cons (.t rfl) .nil))) rfl ?_
  refine .store (.t rfl) (.t rfl) (i := 0) rfl ty30 rfl rfl (Ss' := [_, _]) rfl (M' := [(some _, cellM [_, _]), _, _]) rfl ?_
  refine nl (.thn (k4 _ _ ?_))
  refine .ret ?_
  refine .thr ?_
  refine rt1 (.inl rfl) Try.results75 rfl (.cell rfl (i := 0) rfl ty30 rfl ?_ .nil)
  ·exact isZ_eq (zv_add_same HM xs ys).symm
 ·have hc1 := BP.f hc1
  have HM : m ≠ n := fun e => by rw [e] at hc1; simp at hc1
  refine .skip ?_
  refine .thn (k2 _ _ ?_)
  refine .seq fun _ k5 => ?_
  refine .seq fun _ k6 => .region (st (.fieldAddr (.t rfl) fld30_1 ty28) rfl ?_)
  refine st (.load1 (.t rfl) (i := 2) rfl ty28 rfl) rfl (st (.fieldAddr (.t rfl) fld30_1 ty28) rfl ?_)
  refine st (.load1 (.t rfl) (i := 1) rfl ty28 rfl) rfl (st (.call (nat_Sub (by first | with_reducible assumption | omega | (simp only [val_words, zv_nf]; omega) | (simp only [val_words]; exact Nat.le_trans (nw_small' (by omega)) (by decide)))) (.cons (.t rfl) (.cons (.t rfl) .nil))) rfl ?_)
  refine st (.mv (.t rfl)) rfl (st (.ext (.t rfl) rfl) rfl ?_)
  refine st (.ext (.t rfl) rfl) rfl ?_
  refine st (.as (.t rfl)) rfl (st (.as (.t rfl)) rfl ?_)
  refine nl (.thn (k6 _ _ ?_))
  refine .cv (Cv.wk (.k 2 rfl (.k 3 rfl (.k 4 rfl (.k 5 rfl (.k 6 rfl .nil)))))) ?_
  refine .seq fun _ k7 => .region (st (.mv (.t rfl)) rfl ?_)
  refine nl (.thn (k7 _ _ ?_))
  refine .cond (.t rfl) (fun hc2 => ?_) (fun hc2 => ?_)
  ·have hc2 := BP.t hc2
   have HL : val ys ≤ val xs := hc2
   refine .seq fun _ k8 => .region (st (.mv (.t rfl)) rfl ?_)
   refine st (.fieldAddr (.t rfl) fld30_0 ty4) rfl (st (.load1 (.t rfl) (i := 2) rfl ty4 rfl) rfl ?_)
   refine st (.call (zint_From (by first | with_reducible assumption | omega | (simp only [val_words, zv_nf]; omega) | (simp only [val_words]; exact Nat.le_trans (nw_small' (by omega)) (by decide)))) (.cons (.t rfl) (.cons (.t rfl) .nil))) rfl ?_
   refine .store (.t rfl) (.t rfl) (i := 0) rfl ty30 rfl rfl (Ss' := [_, _]) rfl (M' := [(some _, cellM [_, _]), _, _]) rfl ?_
   refine nl (.thn (k8 _ _ ?_))
   refine .cv (Cv.wk (.k 2 rfl (.k 3 rfl (.k 4 rfl .nil)))) ?_
   refine .ret ?_
   refine .thr ?_
   refine rt1 (.inl rfl) Try.results75 rfl (.cell rfl (i := 0) rfl ty30 rfl ?_ .nil)
   ·exact isZ_eq (zv_add_sub HM HL).symm
  ·have hc2 := BP.f hc2
   have HL : ¬ val ys ≤ val xs := (by omega)
   refine .skip ?_
   refine .thn (k5 _ _ ?_)
   refine .seq fun _ k9 => .region (st (.fieldAddr (.t rfl) fld30_1 ty28) rfl ?_)
   refine st (.load1 (.t rfl) (i := 1) rfl ty28 rfl) rfl (st (.fieldAddr (.t rfl) fld30_1 ty28) rfl ?_)
   refine st (.load1 (.t rfl) (i := 2) rfl ty28 rfl) rfl (st (.call (nat_Sub (by first | with_reducible assumption | omega | (simp only [val_words, zv_nf]; omega) | (simp only [val_words]; exact Nat.le_trans (nw_small' (by omega)) (by decide)))) (.cons (.t rfl) (.cons (.t rfl) .nil))) rfl ?_)
   refine st (.mv (.t rfl)) rfl (st (.ext (.t rfl) rfl) rfl ?_)
   refine st (.ext (.t rfl) rfl) rfl ?_
   refine st (.as (.t rfl)) rfl (st (.as (.t rfl)) rfl ?_)
   refine nl (.thn (k9 _ _ ?_))
   refine .cv (Cv.wk (.k 3 rfl (.k 4 rfl (.k 7 rfl .nil)))) ?_
   refine .seq fun _ k10 => .region (st (.mv (.t rfl)) rfl ?_)
   refine st (.fieldAddr (.t rfl) fld30_0 ty4) rfl (st (.load1 (.t rfl) (i := 1) rfl ty4 rfl) rfl ?_)
   refine st (.call (zint_From (by first | with_reducible assumption | omega | (simp only [val_words, zv_nf]; omega) | (simp only [val_words]; exact Nat.le_trans (nw_small' (by omega)) (by decide)))) (.cons (.t rfl) (.cons (.t rfl) .nil))) rfl ?_
   refine .store (.t rfl) (.t rfl) (i := 0) rfl ty30 rfl rfl (Ss' := [_, _]) rfl (M' := [(some _, cellM [_, _]), _, _]) rfl ?_
   refine nl (.thn (k10 _ _ ?_))
   refine .cv (Cv.wk (.k 4 rfl .nil)) ?_
   refine .ret ?_
   refine rt1 (.inl rfl) Try.results75 rfl (.cell rfl (i := 0) rfl ty30 rfl ?_ .nil)
   ·exact isZ_eq (by rw [Int.add_comm]; exact (zv_add_sub (fun e => HM e.symm) (by omega)).symm)
theorem zint_Sub {m n : Bool} {xs ys : List Nat} (hx : (List.length (words (val xs))) < 4294700000) (hy : (List.length (words (val ys))) < 4294700000) : Ctr Try.prog 91 [Flat [isB m, isWords xs], Flat [isB n, isWords ys]] (isZ (zv m xs - zv n ys)) := by
 refine Ctr.intro Try.func91 rfl (by kernel_rfl) Try.ntmps91 rfl fun w0 F0 => ?_
 refine .cv (Cv.wk (.k 0 rfl (.k 1 rfl .nil))) ?_
 refine .fact (Has.okZ (Has.t (t := 0) rfl)) fun okz0 => ?_
 refine .fact (Has.okZ (Has.t (t := 1) rfl)) fun okz1 => ?_
 refine .seq fun _ k1 => .region (.box (.t rfl) rfl fun b1 => ?_)
 refine .box (.t rfl) rfl fun b2 => ?_
 refine .alloc [isB false, SlM isU []] zero30 (fun _ _ => ⟨rfl, nilM _ _, trivial⟩) rfl fun b3 => ?_
 refine nl (.thn (k1 _ _ ?_))
 refine .seq fun _ k2 => ?_
 refine .dr ?_
 refine .s [] rfl rfl rfl (.o rfl (.load (.t rfl) (i := 2) rfl ty30 rfl (Ss' := [_, _]) rfl)) ?_
 refine .s [] rfl rfl rfl (.o rfl (.load (.t rfl) (i := 1) rfl ty30 rfl (Ss' := [_, _]) rfl)) ?_
 refine .s [6] rfl rfl rfl (.o rfl (.call (zint_Neg (by first | with_reducible assumption | omega | (simp only [val_words, zv_nf]; omega) | (simp only [val_words]; exact Nat.le_trans (nw_small' (by omega)) (by decide)))) (.cons (.t rfl) .nil))) ?_
 refine .fin (n := 3) mixed (by kernel_rfl) (by kernel_rfl) (by kernel_rfl) ?_
 refine .cv (Cv.wk (.k 4 rfl (.k 5 rfl (.k 7 rfl .nil)))) ?_
 refine st (.call (zint_Add (by omega) (by simp only [val_words]; rw [Int.natAbs_neg, zv_abs]; omega)) (.cons (.t rfl) (.cons (.t rfl) .nil))) rfl ?_
 refine .store (.t rfl) (.t rfl) (i := 0) rfl ty30 rfl rfl (Ss' := [_, _]) rfl (M' := [(some _, cellM [_, _]), _, _]) rfl ?_
 refine nl (.thn (k2 _ _ ?_))
 refine .ret ?_
 refine rt1 (.inl rfl) Try.results91 rfl (.cell rfl (i := 0) rfl ty30 rfl ?_ .nil)
 ·exact isZ_eq (by rw [zv_nf]; omega)
theorem zint_Mul {m n : Bool} {xs ys : List Nat} (hx : (List.length (words (val xs))) ≤ 1000000000) (hy : (List.length (words (val ys))) ≤ 1000000000) : Ctr Try.prog 29 [Flat [isB m, isWords xs], Flat [isB n, isWords ys]] (isZ (zv m xs * zv n ys)) := by
 refine Ctr.intro Try.func29 rfl (by kernel_rfl) Try.ntmps29 rfl fun w0 F0 => ?_
 refine .cv (Cv.wk (.k 0 rfl (.k 1 rfl .nil))) ?_
 refine .fact (Has.okZ (Has.t (t := 0) rfl)) fun okz0 => ?_
 refine .fact (Has.okZ (Has.t (t := 1) rfl)) fun okz1 => ?_
 have hm := nw_mul_le (val xs) (val ys)
 refine .seq fun _ k1 => .region (.box (.t rfl) rfl fun b1 => ?_)
 refine .box (.t rfl) rfl fun b2 => ?_
 refine .alloc [isB false, SlM isU []] zero30 (fun _ _ => ⟨rfl, nilM _ _, trivial⟩) rfl fun b3 => ?_
 refine nl (.thn (k1 _ _ ?_))
 refine .seq fun _ k2 => ?_
 refine .dr ?_
 refine .s [] rfl rfl rfl (.o rfl (.fieldAddr (.t rfl) fld30_1 ty28)) ?_
 refine .s [5] rfl rfl rfl (.o rfl (.load1 (.t rfl) (i := 2) rfl ty28 rfl)) ?_
 refine .s [] rfl rfl rfl (.o rfl (.fieldAddr (.t rfl) fld30_1 ty28)) ?_
 refine .s [7] rfl rfl rfl (.o rfl (.load1 (.t rfl) (i := 1) rfl ty28 rfl)) ?_
 refine .s [6, 8] rfl rfl rfl (.o rfl (.call (mul_Mul hx hy) (.cons (.t rfl) (.cons (.t rfl) .nil)))) ?_
 refine .s [] rfl rfl rfl (.o rfl (.fieldAddr (.t rfl) fld30_0 ty4)) ?_
 refine .s [10] rfl rfl rfl (.o rfl (.load1 (.t rfl) (i := 2) rfl ty4 rfl)) ?_
 refine .s [] rfl rfl rfl (.o rfl (.fieldAddr (.t rfl) fld30_0 ty4)) ?_
 refine .s [12] rfl rfl rfl (.o rfl (.load1 (.t rfl) (i := 1) rfl ty4 rfl)) ?_
 refine .s [11, 13] rfl rfl rfl (.o rfl (.neB (du := un4) rfl (.t rfl) (.t rfl))) ?_
 refine .fin (n := 10) mixed (by kernel_rfl) (by kernel_rfl) (by kernel_rfl) ?_
 refine .cv (Cv.wk (.k 4 rfl (.k 9 rfl (.k 14 rfl .nil)))) ?_
 refine st (.call (zint_From (by first | with_reducible assumption | omega | (simp only [val_words, zv_nf]; omega) | (simp only [val_words]; exact Nat.le_trans (nw_small' (by omega)) (by decide)))) (.cons (.t rfl) (.cons (.t rfl) .nil))) rfl ?_
 refine .store (.t rfl) (.t rfl) (i := 0) rfl ty30 rfl rfl (Ss' := [_, _]) rfl (M' := [(some _, cellM [_, _]), _, _]) rfl ?_
 refine nl (.thn (k2 _ _ ?_))
 refine .ret ?_
 refine rt1 (.inl rfl) Try.results29 rfl (.cell rfl (i := 0) rfl ty30 rfl ?_ .nil)
 ·exact isZ_eq (zv_mul m n xs ys).symm
theorem zint_Quo {m n : Bool} {xs ys : List Nat} (hx : (List.length (words (val xs))) < 4294700000) (hy : (List.length (words (val ys))) < 4294700000) : Ctr Try.prog 38 [Flat [isB m, isWords xs], Flat [isB n, isWords ys]] (isTup [isZ ((zv m xs).tdiv (zv n ys)), isZ (if zv n ys = 0 then 0 else (zv m xs).tmod (zv n ys)), isB (decide (zv n ys ≠ 0))]) := by
 refine Ctr.intro Try.func38 rfl (by kernel_rfl) Try.ntmps38 rfl fun w0 F0 => ?_
 refine .cv (Cv.wk (.k 0 rfl (.k 1 rfl .nil))) ?_
 refine .fact (Has.okZ (Has.t (t := 0) rfl)) fun okz0 => ?_
 refine .fact (Has.okZ (Has.t (t := 1) rfl)) fun okz1 => ?_
 have ha := nw_mono (Nat.div_le_self (val xs) (val ys))
 have hb : (List.length (words (if val ys = 0 then 0 else val xs % val ys))) ≤ (List.length (words (val xs))) := nw_mono (by split; exact Nat.zero_le _; exact Nat.mod_le _ _)
 refine .seq fun _ k1 => .region (.box (.t rfl) rfl fun b1 => ?_)
 refine .box (.t rfl) rfl fun b2 => ?_
 refine .alloc [isB false, SlM isU []] zero30 (fun _ _ => ⟨rfl, nilM _ _, trivial⟩) rfl fun b3 => ?_
 refine .alloc [isB false, SlM isU []] zero30 (fun _ _ => ⟨rfl, nilM _ _, trivial⟩) rfl fun b4 => ?_
 refine st (.as (Has.cB false)) rfl ?_
 refine nl (.thn (k1 _ _ ?_))
 refine .seq fun _ k2 => .region (st (.fieldAddr (.t rfl) fld30_1 ty28) rfl ?_)
 refine st (.load1 (.t rfl) (i := 3) rfl ty28 rfl) rfl (st (.fieldAddr (.t rfl) fld30_1 ty28) rfl ?_)
 refine st (.load1 (.t rfl) (i := 2) rfl ty28 rfl) rfl (st (.call (div_DivMod (by first | with_reducible assumption | omega | (simp only [val_words, zv_nf]; omega) | (simp only [val_words]; exact Nat.le_trans (nw_small' (by omega)) (by decide))) (by first | with_reducible assumption | omega | (simp only [val_words, zv_nf]; omega) | (simp only [val_words]; exact Nat.le_trans (nw_small' (by omega)) (by decide)))) (.cons (.t rfl) (.cons (.t rfl) .nil))) rfl ?_)
 refine st (.mv (.t rfl)) rfl (st (.ext (.t rfl) rfl) rfl ?_)
 refine st (.ext (.t rfl) rfl) rfl (st (.ext (.t rfl) rfl) rfl ?_)
 refine st (.as (.t rfl)) rfl (st (.as (.t rfl)) rfl ?_)
 refine st (.as (.t rfl)) rfl ?_
 refine nl (.thn (k2 _ _ ?_))
 refine .cv (Cv.wk (.k 2 rfl (.k 3 rfl (.k 4 rfl (.k 5 rfl (.k 6 rfl (.k 7 rfl (.k 8 rfl (.k 9 rfl .nil))))))))) ?_
 refine .seq fun _ k3 => ?_
 refine .drh [false, false, true, true] (Ms := [_, _]) rfl ?_
 refine .s [] rfl rfl rfl (.o rfl (.mv (.t rfl))) ?_
 refine .s [] rfl rfl rfl (.o rfl (.fieldAddr (.t rfl) fld30_0 ty4)) ?_
 refine .s [20] rfl rfl rfl (.o rfl (.load1 (.t rfl) (i := 1) rfl ty4 rfl)) ?_
 refine .s [] rfl rfl rfl (.o rfl (.fieldAddr (.t rfl) fld30_0 ty4)) ?_
 refine .s [22] rfl rfl rfl (.o rfl (.load1 (.t rfl) (i := 0) rfl ty4 rfl)) ?_
 refine .s [21, 23] rfl rfl rfl (.o rfl (.neB (du := un4) rfl (.t rfl) (.t rfl))) ?_
 refine .s [19, 24] rfl rfl rfl (.o rfl (.call (zint_From (by first | with_reducible assumption | omega | (simp only [val_words, zv_nf]; omega) | (simp only [val_words]; exact Nat.le_trans (nw_small' (by omega)) (by decide)))) (.cons (.t rfl) (.cons (.t rfl) .nil)))) ?_
 refine .s [] rfl rfl rfl (.o rfl (.mv (.t rfl))) ?_
 refine .s [] rfl rfl rfl (.o rfl (.fieldAddr (.t rfl) fld30_0 ty4)) ?_
 refine .s [27] rfl rfl rfl (.o rfl (.load1 (.t rfl) (i := 1) rfl ty4 rfl)) ?_
 refine .s [26, 28] rfl rfl rfl (.o rfl (.call (zint_From (by first | with_reducible assumption | omega | (simp only [val_words, zv_nf]; omega) | (simp only [val_words]; exact Nat.le_trans (nw_small' (by omega)) (by decide)))) (.cons (.t rfl) (.cons (.t rfl) .nil)))) ?_
 refine .s [] rfl rfl rfl (.o rfl (.mv (.t rfl))) ?_
 refine .mid (.cons _ (.cons _ (.cons_cons _ (.cons_cons _ .slnil)))) ?_
 refine .st [25] rfl rfl (by kernel_rfl) (by kernel_rfl) (StS.store (.t rfl) (.t rfl) (i := 1) rfl ty30 rfl rfl (Ss' := [_, _]) rfl (M' := [_, (some _, cellM [_, _]), _, _]) rfl) (.cons _ (.cons _ (.cons_cons _ (.cons_cons _ .slnil)))) ?_
 refine .st [29] rfl rfl (by kernel_rfl) (by kernel_rfl) (StS.store (.t rfl) (.t rfl) (i := 0) rfl ty30 rfl rfl (Ss' := [_, _]) rfl (M' := [(some _, cellM [_, _]), _, _, _]) rfl) (.cons _ (.cons _ (.cons_cons _ (.cons_cons _ .slnil)))) ?_
 refine .fin (n := 14) mixed rfl (by kernel_rfl) (by kernel_rfl) (by kernel_rfl) ?_
 refine .cv (Cv.wk (.k 4 rfl (.k 5 rfl (.k 6 rfl (.k 30 rfl .nil))))) ?_
 refine st (.as (.t rfl)) rfl ?_
 refine nl (.thn (k3 _ _ ?_))
 refine .ret ?_
 refine rtN (.inl rfl) Try.results38 rfl rfl (.cell rfl (i := 1) rfl ty30 rfl ?_ (.cell rfl (i := 0) rfl ty30 rfl ?_ (.tmp (Has.t' rfl ?_) .nil)))
 ·exact isZ_eq (zv_tdiv m n xs ys).symm
 ·exact isZ_eq (quo_rest m n xs ys)
 ·exact isB_eq (ne_zv n ys)
theorem zint_one  : Ctr Try.prog 109 [] (isZ 1) := by
 refine Ctr.intro Try.func109 rfl (by kernel_rfl) Try.ntmps109 rfl fun w0 F0 => ?_
 refine .cv (Cv.wk .nil) ?_
 refine .seq fun _ k1 => .region (.alloc [isB false, SlM isU []] zero30 (fun _ _ => ⟨rfl, nilM _ _, trivial⟩) rfl fun b1 => ?_)
 refine nl (.thn (k1 _ _ ?_))
 refine .seq fun _ k2 => .region (st (.call (zint_Of) (.cons (Has.cI 1 rfl) .nil)) rfl ?_)
 refine .store (.t rfl) (.t rfl) (i := 0) rfl ty30 rfl rfl (Ss' := [_, _]) rfl (M' := [(some _, cellM [_, _])]) rfl ?_
 refine nl (.thn (k2 _ _ ?_))
 refine .ret ?_
 refine rt1 (.inl rfl) Try.results109 rfl (.cell rfl (i := 0) rfl ty30 rfl ?_ .nil)
 all_goals (rfl)
theorem zint_Euclid {m n : Bool} {xs ys : List Nat} (hx : (List.length (words (val xs))) < 4294700000) (hy : (List.length (words (val ys))) < 4294700000) : Ctr Try.prog 87 [Flat [isB m, isWords xs], Flat [isB n, isWords ys]] (isTup [isZ (zv m xs / zv n ys), isZ (if zv n ys = 0 then 0 else zv m xs % zv n ys), isB (decide (zv n ys ≠ 0))]) := by
 refine Ctr.intro Try.func87 rfl (by kernel_rfl) Try.ntmps87 rfl fun w0 F0 => ?_
 refine .cv (Cv.wk (.k 0 rfl (.k 1 rfl .nil))) ?_
 refine .fact (Has.okZ (Has.t (t := 0) rfl)) fun okz0 => ?_
 refine .fact (Has.okZ (Has.t (t := 1) rfl)) fun okz1 => ?_
 have ha := nz_tdiv (zv m xs) (zv n ys)
 have hb := nz_if (zv m xs) (zv n ys)
 have hxx := zv_nw m xs
 have hyy := zv_nw n ys
 have h1 := nz_one
 refine .seq fun _ k1 => .region (.box (.t rfl) rfl fun b1 => ?_)
 refine .box (.t rfl) rfl fun b2 => ?_
 refine .alloc [isB false, SlM isU []] zero30 (fun _ _ => ⟨rfl, nilM _ _, trivial⟩) rfl fun b3 => ?_
 refine .alloc [isB false, SlM isU []] zero30 (fun _ _ => ⟨rfl, nilM _ _, trivial⟩) rfl fun b4 => ?_
 refine st (.as (Has.cB false)) rfl ?_
 refine nl (.thn (k1 _ _ ?_))
 refine .seq fun _ k2 => .region (st (.load (.t rfl) (i := 3) rfl ty30 rfl (Ss' := [_, _]) rfl) rfl ?_)
 refine st (.load (.t rfl) (i := 2) rfl ty30 rfl (Ss' := [_, _]) rfl) rfl (st (.call (zint_Quo (by first | with_reducible assumption | omega | (simp only [val_words, zv_nf]; omega) | (simp only [val_words]; exact Nat.le_trans (nw_small' (by omega)) (by decide))) (by first | with_reducible assumption | omega | (simp only [val_words, zv_nf]; omega) | (simp only [val_words]; exact Nat.le_trans (nw_small' (by omega)) (by decide)))) (.cons (.t rfl) (.cons (.t rfl) .nil))) rfl ?_)
 refine st (.mv (.t rfl)) rfl (st (.ext (.t rfl) rfl) rfl ?_)
 refine st (.ext (.t rfl) rfl) rfl (st (.ext (.t rfl) rfl) rfl ?_)
 refine .alloc [isB false, SlM isU []] zero30 (fun _ _ => ⟨rfl, nilM _ _, trivial⟩) rfl fun b5 => ?_
 refine .alloc [isB false, SlM isU []] zero30 (fun _ _ => ⟨rfl, nilM _ _, trivial⟩) rfl fun b6 => ?_
 refine .store (.t rfl) (.t rfl) (i := 1) rfl ty30 rfl rfl (Ss' := [_, _]) rfl (M' := [_, (some _, cellM [_, _]), _, _, _, _]) rfl ?_
 refine .store (.t rfl) (.t rfl) (i := 0) rfl ty30 rfl rfl (Ss' := [_, _]) rfl (M' := [(some _, cellM [_, _]), _, _, _, _, _]) rfl ?_
 refine st (.as (.t rfl)) rfl ?_
 refine nl (.thn (k2 _ _ ?_))
 refine .cv (Cv.wk (.k 3 rfl (.k 4 rfl (.k 5 rfl (.k 6 rfl (.k 7 rfl (.k 8 rfl (.k 9 rfl .nil)))))))) ?_
 refine .seq fun _ k3 => ?_
 refine .block ?_
 refine .seq fun _ k4 => .region (st (.mv (.t rfl)) rfl ?_)
 refine st (.not (.t rfl)) rfl ?_
 refine st (.mv (.t rfl)) rfl ?_
 refine stF rfl rfl (fun hg => have hg' := BP.t hg; OK1.load (.t rfl) (i := 0) rfl ty30 rfl (Ss' := [_, _]) rfl) rfl ?_
 refine stF rfl rfl (fun hg => have hg' := BP.t hg; OK1.eq (.call (zint_Sign (by first | with_reducible assumption | omega | (simp only [val_words, zv_nf]; omega) | (simp only [val_words]; exact Nat.le_trans (nw_small' (by omega)) (by decide)))) (.cons (Has.g rfl hg) .nil)) (by first | (simp only [val_words, zv_nf]; rfl) | rfl)) rfl ?_
 refine stF rfl rfl (fun hg => have hg' := BP.t hg; OK1.geI (Has.g rfl hg) (Has.cI 0 rfl)) rfl ?_
 refine st (.pickOr (.t rfl) (fun h => Has.g rfl (ng h))) rfl ?_
 refine st (.as (.t rfl)) rfl ?_
 refine nl (.thn (k4 _ _ ?_))
 refine .cv (Cv.wk (.k 3 rfl (.k 4 rfl (.k 5 rfl (.k 6 rfl (.k 7 rfl (.k 8 rfl (.k 9 rfl (.k 17 rfl .nil))))))))) ?_
 refine .cond (.t rfl) (fun hc1 => ?_) (fun hc1 => ?_)
 ·have hc1 := BP.t hc1
  have HE := euc0 hc1
  refine .seq fun _ k5 => ?_
  refine .drh [true, true, false, false, true, true] (Ms := [_, _, _, _]) rfl ?_
  refine .s [] rfl rfl rfl (.o rfl (.load (.t rfl) (i := 1) rfl ty30 rfl (Ss' := [_, _]) rfl)) ?_
  refine .s [] rfl rfl rfl (.o rfl (.load (.t rfl) (i := 0) rfl ty30 rfl (Ss' := [_, _]) rfl)) ?_
  refine .s [] rfl rfl rfl (.o rfl (.mv (.t rfl))) ?_
  refine .mid (.cons_cons _ (.cons_cons _ (.cons _ (.cons _ (.cons_cons _ (.cons_cons _ .slnil)))))) ?_
  refine .st [25] rfl rfl (by kernel_rfl) (by kernel_rfl) (StS.store (.t rfl) (.t rfl) (i := 3) rfl ty30 rfl rfl (Ss' := [_, _]) rfl (M' := [_, _, _, (some _, cellM [_, _]), _, _]) rfl) (.cons_cons _ (.cons_cons _ (.cons _ (.cons _ (.cons_cons _ (.cons_cons _ .slnil)))))) ?_
  refine .st [26] rfl rfl (by kernel_rfl) (by kernel_rfl) (StS.store (.t rfl) (.t rfl) (i := 2) rfl ty30 rfl rfl (Ss' := [_, _]) rfl (M' := [_, _, (some _, cellM [_, _]), _, _, _]) rfl) (.cons_cons _ (.cons_cons _ (.cons _ (.cons _ (.cons_cons _ (.cons_cons _ .slnil)))))) ?_
  refine .fin (n := 5) mixed rfl (by kernel_rfl) (by kernel_rfl) (by kernel_rfl) ?_
  refine .cv (Cv.wk (.k 3 rfl (.k 4 rfl (.k 5 rfl (.k 6 rfl (.k 7 rfl (.k 8 rfl (.k 27 rfl .nil)))))))) ?_
  refine st (.as (.t rfl)) rfl ?_
  refine nl (.thn (k5 _ _ ?_))
  refine .ret ?_
  refine .blr ?_
  refine .thr ?_
  refine rtN (.inl rfl) Try.results87 rfl rfl (.cell rfl (i := 3) rfl ty30 rfl ?_ (.cell rfl (i := 2) rfl ty30 rfl ?_ (.tmp (Has.t' rfl ?_) .nil)))
  ·exact isZ_eq HE.1
  ·exact isZ_eq HE.2
  ·rfl
 ·have hc1 := BP.f hc1
  have HE := hc1
  refine .seq fun _ k6 => .region (st (.load (.t rfl) (i := 4) rfl ty30 rfl (Ss' := [_, _]) rfl) rfl ?_)
  refine st (.call (zint_Sign (by first | with_reducible assumption | omega | (simp only [val_words, zv_nf]; omega) | (simp only [val_words]; exact Nat.le_trans (nw_small' (by omega)) (by decide)))) (.cons (.t rfl) .nil)) rfl ?_
  refine st (.gtI (.t rfl) (Has.cI 0 rfl)) rfl ?_
  refine st (.as (.t rfl)) rfl ?_
  refine nl (.thn (k6 _ _ ?_))
  refine .cv (Cv.wk (.k 3 rfl (.k 4 rfl (.k 5 rfl (.k 6 rfl (.k 7 rfl (.k 8 rfl (.k 28 rfl .nil)))))))) ?_
  refine .cond (.t rfl) (fun hc2 => ?_) (fun hc2 => ?_)
  ·have hc2 := BP.t hc2
   have HE2 := euc1 HE hc2
   refine .seq fun _ k7 => ?_
   refine .dr ?_
   refine .s [] rfl rfl rfl (.o rfl (.load (.t rfl) (i := 1) rfl ty30 rfl (Ss' := [_, _]) rfl)) ?_
   refine .s [] rfl rfl rfl (.o rfl (.call (zint_one) .nil)) ?_
   refine .s [32, 33] rfl rfl rfl (.o rfl (.eq (.call (zint_Sub (by first | with_reducible assumption | omega | (simp only [val_words, zv_nf]; omega) | (simp only [val_words]; exact Nat.le_trans (nw_small' (by omega)) (by decide))) (by first | with_reducible assumption | omega | (simp only [val_words, zv_nf]; omega) | (simp only [val_words]; exact Nat.le_trans (nw_small' (by omega)) (by decide)))) (.cons (.t rfl) (.cons (.t rfl) .nil))) (by first | (simp only [val_words, zv_nf]; rfl) | rfl))) ?_
   refine .s [] rfl rfl rfl (.o rfl (.load (.t rfl) (i := 0) rfl ty30 rfl (Ss' := [_, _]) rfl)) ?_
   refine .s [] rfl rfl rfl (.o rfl (.load (.t rfl) (i := 4) rfl ty30 rfl (Ss' := [_, _]) rfl)) ?_
   refine .fin (n := 5) mixed (by kernel_rfl) (by kernel_rfl) (by kernel_rfl) ?_
   refine .cv (Cv.wk (.k 3 rfl (.k 4 rfl (.k 5 rfl (.k 6 rfl (.k 7 rfl (.k 8 rfl (.k 34 rfl (.k 35 rfl (.k 36 rfl .nil)))))))))) ?_
   refine st (.eq (.call (zint_Add (by first | with_reducible assumption | omega | (simp only [val_words, zv_nf]; omega) | (simp only [val_words]; exact Nat.le_trans (nw_small' (by omega)) (by decide))) (by first | with_reducible assumption | omega | (simp only [val_words, zv_nf]; omega) | (simp only [val_words]; exact Nat.le_trans (nw_small' (by omega)) (by decide)))) (.cons (.t rfl) (.cons (.t rfl) .nil))) (by first | (simp only [val_words, zv_nf]; rfl) | rfl)) rfl ?_
   refine .store (.t rfl) (.t rfl) (i := 3) rfl ty30 rfl rfl (Ss' := [_, _]) rfl (M' := [_, _, _, (some _, cellM [_, _]), _, _]) rfl ?_
   refine .store (.t rfl) (.t rfl) (i := 2) rfl ty30 rfl rfl (Ss' := [_, _]) rfl (M' := [_, _, (some _, cellM [_, _]), _, _, _]) rfl ?_
   refine st (.as (Has.cB true)) rfl ?_
   refine nl (.thn (k7 _ _ ?_))
   refine .ret ?_
   refine .blr ?_
   refine .thr ?_
   refine rtN (.inl rfl) Try.results87 rfl rfl (.cell rfl (i := 3) rfl ty30 rfl ?_ (.cell rfl (i := 2) rfl ty30 rfl ?_ (.tmp (Has.t' rfl ?_) .nil)))
   ·exact isZ_eq HE2.1
   ·exact isZ_eq HE2.2
   ·exact isB_eq (decide_eq_true HE.1).symm
  ·have hc2 := BP.f hc2
   have HE2 := euc2 HE hc2
   refine .skip ?_
   refine .bln ?_
   refine .thn (k3 _ _ ?_)
   refine .seq fun _ k8 => ?_
   refine .dr ?_
   refine .s [] rfl rfl rfl (.o rfl (.load (.t rfl) (i := 1) rfl ty30 rfl (Ss' := [_, _]) rfl)) ?_
   refine .s [] rfl rfl rfl (.o rfl (.call (zint_one) .nil)) ?_
   refine .s [38, 39] rfl rfl rfl (.o rfl (.eq (.call (zint_Add (by first | with_reducible assumption | omega | (simp only [val_words, zv_nf]; omega) | (simp only [val_words]; exact Nat.le_trans (nw_small' (by omega)) (by decide))) (by first | with_reducible assumption | omega | (simp only [val_words, zv_nf]; omega) | (simp only [val_words]; exact Nat.le_trans (nw_small' (by omega)) (by decide)))) (.cons (.t rfl) (.cons (.t rfl) .nil))) (by first | (simp only [val_words, zv_nf]; rfl) | rfl))) ?_
   refine .s [] rfl rfl rfl (.o rfl (.load (.t rfl) (i := 0) rfl ty30 rfl (Ss' := [_, _]) rfl)) ?_
   refine .s [] rfl rfl rfl (.o rfl (.load (.t rfl) (i := 4) rfl ty30 rfl (Ss' := [_, _]) rfl)) ?_
   refine .fin (n := 5) mixed (by kernel_rfl) (by kernel_rfl) (by kernel_rfl) ?_
   refine .cv (Cv.wk (.k 4 rfl (.k 5 rfl (.k 6 rfl (.k 40 rfl (.k 41 rfl (.k 42 rfl .nil))))))) ?_
   refine st (.eq (.call (zint_Sub (by first | with_reducible assumption | omega | (simp only [val_words, zv_nf]; omega) | (simp only [val_words]; exact Nat.le_trans (nw_small' (by omega)) (by decide))) (by first | with_reducible assumption | omega | (simp only [val_words, zv_nf]; omega) | (simp only [val_words]; exact Nat.le_trans (nw_small' (by omega)) (by decide)))) (.cons (.t rfl) (.cons (.t rfl) .nil))) (by first | (simp only [val_words, zv_nf]; rfl) | rfl)) rfl ?_
   refine .store (.t rfl) (.t rfl) (i := 3) rfl ty30 rfl rfl (Ss' := [_, _]) rfl (M' := [_, _, _, (some _, cellM [_, _]), _, _]) rfl ?_
   refine .store (.t rfl) (.t rfl) (i := 2) rfl ty30 rfl rfl (Ss' := [_, _]) rfl (M' := [_, _, (some _, cellM [_, _]), _, _, _]) rfl ?_
   refine st (.as (Has.cB true)) rfl ?_
   refine nl (.thn (k8 _ _ ?_))
   refine .ret ?_
   refine rtN (.inl rfl) Try.results87 rfl rfl (.cell rfl (i := 3) rfl ty30 rfl ?_ (.cell rfl (i := 2) rfl ty30 rfl ?_ (.tmp (Has.t' rfl ?_) .nil)))
   ·exact isZ_eq HE2.1
   ·exact isZ_eq HE2.2
   ·exact isB_eq (decide_eq_true HE.1).symm
theorem zint_Exact {m n : Bool} {xs ys : List Nat} (hx : (List.length (words (val xs))) < 4294700000) (hy : (List.length (words (val ys))) < 4294700000) : Ctr Try.prog 13 [Flat [isB m, isWords xs], Flat [isB n, isWords ys]] (isTup [isZ (if zv n ys ≠ 0 ∧ (zv m xs).tmod (zv n ys) = 0 then (zv m xs).tdiv (zv n ys) else 0), isB (decide (zv n ys ≠ 0 ∧ (zv m xs).tmod (zv n ys) = 0))]) := by
 refine Ctr.intro Try.func13 rfl (by kernel_rfl) Try.ntmps13 rfl fun w0 F0 => ?_
 refine .cv (Cv.wk (.k 0 rfl (.k 1 rfl .nil))) ?_
 refine .fact (Has.okZ (Has.t (t := 0) rfl)) fun okz0 => ?_
 refine .fact (Has.okZ (Has.t (t := 1) rfl)) fun okz1 => ?_
 have ha := nz_tdiv (zv m xs) (zv n ys)
 have hb := nz_if (zv m xs) (zv n ys)
 have hxx := zv_nw m xs
 have hyy := zv_nw n ys
 have h1 := nz_one
 refine .seq fun _ k1 => .region (.box (.t rfl) rfl fun b1 => ?_)
 refine .box (.t rfl) rfl fun b2 => ?_
 refine .alloc [isB false, SlM isU []] zero30 (fun _ _ => ⟨rfl, nilM _ _, trivial⟩) rfl fun b3 => ?_
 refine st (.as (Has.cB false)) rfl ?_
 refine nl (.thn (k1 _ _ ?_))
 refine .seq fun _ k2 => .region (st (.load (.t rfl) (i := 2) rfl ty30 rfl (Ss' := [_, _]) rfl) rfl ?_)
 refine st (.load (.t rfl) (i := 1) rfl ty30 rfl (Ss' := [_, _]) rfl) rfl (st (.call (zint_Quo (by first | with_reducible assumption | omega | (simp only [val_words, zv_nf]; omega) | (simp only [val_words]; exact Nat.le_trans (nw_small' (by omega)) (by decide))) (by first | with_reducible assumption | omega | (simp only [val_words, zv_nf]; omega) | (simp only [val_words]; exact Nat.le_trans (nw_small' (by omega)) (by decide)))) (.cons (.t rfl) (.cons (.t rfl) .nil))) rfl ?_)
 refine st (.mv (.t rfl)) rfl (st (.ext (.t rfl) rfl) rfl ?_)
 refine st (.ext (.t rfl) rfl) rfl (st (.ext (.t rfl) rfl) rfl ?_)
 refine .alloc [isB false, SlM isU []] zero30 (fun _ _ => ⟨rfl, nilM _ _, trivial⟩) rfl fun b4 => ?_
 refine .alloc [isB false, SlM isU []] zero30 (fun _ _ => ⟨rfl, nilM _ _, trivial⟩) rfl fun b5 => ?_
 refine .store (.t rfl) (.t rfl) (i := 1) rfl ty30 rfl rfl (Ss' := [_, _]) rfl (M' := [_, (some _, cellM [_, _]), _, _, _]) rfl ?_
 refine .store (.t rfl) (.t rfl) (i := 0) rfl ty30 rfl rfl (Ss' := [_, _]) rfl (M' := [(some _, cellM [_, _]), _, _, _, _]) rfl ?_
 refine st (.as (.t rfl)) rfl ?_
 refine nl (.thn (k2 _ _ ?_))
 refine .cv (Cv.wk (.k 4 rfl (.k 5 rfl (.k 6 rfl (.k 7 rfl (.k 8 rfl .nil)))))) ?_
 refine .seq fun _ k3 => ?_
 refine .seq fun _ k4 => .region (st (.mv (.t rfl)) rfl ?_)
 refine st (.not (.t rfl)) rfl ?_
 refine st (.mv (.t rfl)) rfl ?_
 refine stF rfl rfl (fun hg => have hg' := BP.t hg; OK1.load (.t rfl) (i := 0) rfl ty30 rfl (Ss' := [_, _]) rfl) rfl ?_
 refine stF rfl rfl (fun hg => have hg' := BP.t hg; OK1.eq (.call (zint_Sign (by first | with_reducible assumption | omega | (simp only [val_words, zv_nf]; omega) | (simp only [val_words]; exact Nat.le_trans (nw_small' (by omega)) (by decide)))) (.cons (Has.g rfl hg) .nil)) (by first | (simp only [val_words, zv_nf]; rfl) | rfl)) rfl ?_
 refine stF rfl rfl (fun hg => have hg' := BP.t hg; OK1.neI (Has.g rfl hg) (Has.cI 0 rfl)) rfl ?_
 refine st (.pickOr (.t rfl) (fun h => Has.g rfl (ng h))) rfl ?_
 refine nl (.thn (k4 _ _ ?_))
 refine .cv (Cv.wk (.k 4 rfl (.k 5 rfl (.k 6 rfl (.k 22 rfl .nil))))) ?_
 refine .cond (.t rfl) (fun hc1 => ?_) (fun hc1 => ?_)
 ·have hc1 := BP.t hc1
  have HE := ex_no hc1
  refine .seq fun _ k5 => .region (st (.eq (.build [isB false, SlM isU []] pl30 zero30 (fun _ _ => ⟨rfl, nilM _ _, trivial⟩) .nil (Z'' := [_, _]) rfl) (isZ0)) rfl ?_)
  refine .store (.t rfl) (.t rfl) (i := 2) rfl ty30 rfl rfl (Ss' := [_, _]) rfl (M' := [_, _, (some _, cellM [_, _]), _, _]) rfl ?_
  refine st (.as (Has.cB false)) rfl ?_
  refine nl (.thn (k5 _ _ ?_))
  refine .ret ?_
  refine .thr ?_
  refine rtN (.inl rfl) Try.results13 rfl rfl (.cell rfl (i := 2) rfl ty30 rfl ?_ (.tmp (Has.t' rfl ?_) .nil))
  ·exact isZ_eq (if_neg HE).symm
  ·exact isB_eq (decide_eq_false HE).symm
 ·have hc1 := BP.f hc1
  have HE := ex_yes hc1
  refine .skip ?_
  refine .thn (k3 _ _ ?_)
  refine .seq fun _ k6 => .region (st (.load (.t rfl) (i := 1) rfl ty30 rfl (Ss' := [_, _]) rfl) rfl ?_)
  refine .store (.t rfl) (.t rfl) (i := 2) rfl ty30 rfl rfl (Ss' := [_, _]) rfl (M' := [_, _, (some _, cellM [_, _]), _, _]) rfl ?_
  refine st (.as (Has.cB true)) rfl ?_
  refine nl (.thn (k6 _ _ ?_))
  refine .ret ?_
  refine rtN (.inl rfl) Try.results13 rfl rfl (.cell rfl (i := 2) rfl ty30 rfl ?_ (.tmp (Has.t' rfl ?_) .nil))
  ·exact isZ_eq (if_pos HE).symm
  ·exact isB_eq (decide_eq_true HE).symm
theorem zint_Gcd {m n : Bool} {xs ys : List Nat} (hx : (List.length (words (val xs))) < 4294700000) (hy : (List.length (words (val ys))) < 4294700000) : Ctr Try.prog 35 [Flat [isB m, isWords xs], Flat [isB n, isWords ys]] (isZ ((Nat.gcd (val xs) (val ys) : Nat) : Int)) := by
 refine Ctr.intro Try.func35 rfl (by kernel_rfl) Try.ntmps35 rfl fun w0 F0 => ?_
 refine .cv (Cv.wk (.k 0 rfl (.k 1 rfl .nil))) ?_
 refine .fact (Has.okZ (Has.t (t := 0) rfl)) fun okz0 => ?_
 refine .fact (Has.okZ (Has.t (t := 1) rfl)) fun okz1 => ?_
 have hg := Nat.le_trans (nw_mono (gcd_le_max (val xs) (val ys))) (nw_max _ _)
 refine .seq fun _ k1 => .region (.box (.t rfl) rfl fun b1 => ?_)
 refine .box (.t rfl) rfl fun b2 => ?_
 refine .alloc [isB false, SlM isU []] zero30 (fun _ _ => ⟨rfl, nilM _ _, trivial⟩) rfl fun b3 => ?_
 refine nl (.thn (k1 _ _ ?_))
 refine .seq fun _ k2 => .region (st (.fieldAddr (.t rfl) fld30_1 ty28) rfl ?_)
 refine st (.load1 (.t rfl) (i := 2) rfl ty28 rfl) rfl (st (.fieldAddr (.t rfl) fld30_1 ty28) rfl ?_)
 refine st (.load1 (.t rfl) (i := 1) rfl ty28 rfl) rfl (st (.call (div_Gcd (by first | with_reducible assumption | omega | (simp only [val_words, zv_nf]; omega) | (simp only [val_words]; exact Nat.le_trans (nw_small' (by omega)) (by decide))) (by first | with_reducible assumption | omega | (simp only [val_words, zv_nf]; omega) | (simp only [val_words]; exact Nat.le_trans (nw_small' (by omega)) (by decide)))) (.cons (.t rfl) (.cons (.t rfl) .nil))) rfl ?_)
 refine st (.call (zint_From (by first | with_reducible assumption | omega | (simp only [val_words, zv_nf]; omega) | (simp only [val_words]; exact Nat.le_trans (nw_small' (by omega)) (by decide)))) (.cons (.t rfl) (.cons (Has.cB false) .nil))) rfl ?_
 refine .store (.t rfl) (.t rfl) (i := 0) rfl ty30 rfl rfl (Ss' := [_, _]) rfl (M' := [(some _, cellM [_, _]), _, _]) rfl ?_
 refine nl (.thn (k2 _ _ ?_))
 refine .cv (Cv.wk (.k 4 rfl .nil)) ?_
 refine .ret ?_
 refine rt1 (.inl rfl) Try.results35 rfl (.cell rfl (i := 0) rfl ty30 rfl ?_ .nil)
 ·exact isZ_eq (by rw [from_word, if_neg (by decide)])
theorem zint_cofactor {m n : Bool} {xs ys : List Nat} (hx : (List.length (words (val xs))) ≤ 100000000) (hy : (List.length (words (val ys))) ≤ 100000000) : Ctr Try.prog 110 [Flat [isB m, isWords xs], Flat [isB n, isWords ys]] (isTup [isZ (cof (zv m xs) (zv n ys) 1 0).1, isZ (cof (zv m xs) (zv n ys) 1 0).2]) := by
 refine Ctr.intro Try.func110 rfl (by kernel_rfl) Try.ntmps110 rfl fun w0 F0 => ?_
 refine .cv (Cv.wk (.k 0 rfl (.k 1 rfl .nil))) ?_
 refine .fact (Has.okZ (Has.t (t := 0) rfl)) fun okz0 => ?_
 refine .fact (Has.okZ (Has.t (t := 1) rfl)) fun okz1 => ?_
 have hxx := zv_nw m xs
 have hyy := zv_nw n ys
 refine .seq fun _ k1 => .region (.box (.t rfl) rfl fun b1 => ?_)
 refine .box (.t rfl) rfl fun b2 => ?_
 refine .alloc [isB false, SlM isU []] zero30 (fun _ _ => ⟨rfl, nilM _ _, trivial⟩) rfl fun b3 => ?_
 refine .alloc [isB false, SlM isU []] zero30 (fun _ _ => ⟨rfl, nilM _ _, trivial⟩) rfl fun b4 => ?_
 refine nl (.thn (k1 _ _ ?_))
 refine .seq fun _ k2 => .region (st (.call (zint_one) .nil) rfl ?_)
 refine st (.eq (.build [isB false, SlM isU []] pl30 zero30 (fun _ _ => ⟨rfl, nilM _ _, trivial⟩) .nil (Z'' := [_, _]) rfl) (isZ0)) rfl ?_
 refine .alloc [isB false, SlM isU []] zero30 (fun _ _ => ⟨rfl, nilM _ _, trivial⟩) rfl fun b5 => ?_
 refine .alloc [isB false, SlM isU []] zero30 (fun _ _ => ⟨rfl, nilM _ _, trivial⟩) rfl fun b6 => ?_
 refine .store (.t rfl) (.t rfl) (i := 1) rfl ty30 rfl rfl (Ss' := [_, _]) rfl (M' := [_, (some _, cellM [_, _]), _, _, _, _]) rfl ?_
 refine .store (.t rfl) (.t rfl) (i := 0) rfl ty30 rfl rfl (Ss' := [_, _]) rfl (M' := [(some _, cellM [_, _]), _, _, _, _, _]) rfl ?_
 refine nl (.thn (k2 _ _ ?_))
 refine .seq fun _ k3 => ?_
 refine .dr ?_
 refine .s [] rfl rfl rfl (.o rfl (.fieldAddr (.t rfl) fld30_1 ty28)) ?_
 refine .s [13] rfl rfl rfl (.o rfl (.load1 (.t rfl) (i := 5) rfl ty28 rfl)) ?_
 refine .s [] rfl rfl rfl (.o rfl (.fieldAddr (.t rfl) fld30_0 ty4)) ?_
 refine .s [15] rfl rfl rfl (.o rfl (.load1 (.t rfl) (i := 5) rfl ty4 rfl)) ?_
 refine .s [14, 16] rfl rfl rfl (.o rfl (.call (zint_From (by first | with_reducible assumption | omega | (simp only [val_words, zv_nf]; omega) | (simp only [val_words]; exact Nat.le_trans (nw_small' (by omega)) (by decide)))) (.cons (.t rfl) (.cons (.t rfl) .nil)))) ?_
 refine .s [] rfl rfl rfl (.o rfl (.fieldAddr (.t rfl) fld30_1 ty28)) ?_
 refine .s [18] rfl rfl rfl (.o rfl (.load1 (.t rfl) (i := 4) rfl ty28 rfl)) ?_
 refine .s [] rfl rfl rfl (.o rfl (.fieldAddr (.t rfl) fld30_0 ty4)) ?_
 refine .s [20] rfl rfl rfl (.o rfl (.load1 (.t rfl) (i := 4) rfl ty4 rfl)) ?_
 refine .fin (n := 9) mixed (by kernel_rfl) (by kernel_rfl) (by kernel_rfl) ?_
 refine .cv (Cv.wk (.k 2 rfl (.k 3 rfl (.k 4 rfl (.k 5 rfl (.k 6 rfl (.k 7 rfl (.k 17 rfl (.k 19 rfl (.k 21 rfl .nil)))))))))) ?_
 refine st (.call (zint_From (by first | with_reducible assumption | omega | (simp only [val_words, zv_nf]; omega) | (simp only [val_words]; exact Nat.le_trans (nw_small' (by omega)) (by decide)))) (.cons (.t rfl) (.cons (.t rfl) .nil))) rfl ?_
 refine .store (.t rfl) (.t rfl) (i := 5) rfl ty30 rfl rfl (Ss' := [_, _]) rfl (M' := [_, _, _, _, _, (some _, cellM [_, _])]) rfl ?_
 refine .store (.t rfl) (.t rfl) (i := 4) rfl ty30 rfl rfl (Ss' := [_, _]) rfl (M' := [_, _, _, _, (some _, cellM [_, _]), _]) rfl ?_
 refine nl (.thn (k3 _ _ ?_))
 refine .seq fun _ k4 => ?_
 refine .block ?_
 refine .loopF [2, 3, 4, 5, 6, 7] (fun (z : { z : Int × Int × Int × Int × Nat × Nat // Cf (zv m xs) (zv n ys) z.1 z.2.1 z.2.2.1 z.2.2.2.1 z.2.2.2.2.1 z.2.2.2.2.2 ∧ cof z.1 z.2.1 z.2.2.1 z.2.2.2.1 = cof (zv m xs) (zv n ys) 1 0 }) => match z with | ⟨(a, b, x, nx, X, Y), hI⟩ => []) (fun M => fun (z : { z : Int × Int × Int × Int × Nat × Nat // Cf (zv m xs) (zv n ys) z.1 z.2.1 z.2.2.1 z.2.2.2.1 z.2.2.2.2.1 z.2.2.2.2.2 ∧ cof z.1 z.2.1 z.2.2.1 z.2.2.2.1 = cof (zv m xs) (zv n ys) 1 0 }) => match z with | ⟨(a, b, x, nx, X, Y), hI⟩ => [zM b6 nx, zM b5 x, (some b4, cellM [isB false, SlM isU []]), (some b3, cellM [isB false, SlM isU []]), zM b2 b, zM b1 a]) (fun (z : { z : Int × Int × Int × Int × Nat × Nat // Cf (zv m xs) (zv n ys) z.1 z.2.1 z.2.2.1 z.2.2.2.1 z.2.2.2.2.1 z.2.2.2.2.2 ∧ cof z.1 z.2.1 z.2.2.1 z.2.2.2.1 = cof (zv m xs) (zv n ys) 1 0 }) => match z with | ⟨(a, b, x, nx, X, Y), hI⟩ => b.natAbs) (⟨(zv m xs, zv n ys, 1, 0, 1, 0), Cf.start _ _, rfl⟩) (Cv.mem (.k 2 rfl (.k 3 rfl (.k 4 rfl (.k 5 rfl (.k 6 rfl (.k 7 rfl .nil)))))) ?_) ?_
 ·rfl
 rintro ⟨⟨a, b, x, nx, X, Y⟩, hI⟩ K5 hK5
 refine .cv (Cv.wk (.k 2 rfl (.k 3 rfl (.k 4 rfl (.k 5 rfl (.k 6 rfl (.k 7 rfl .nil))))))) ?_
 refine .memEq (M' := [zM b6 nx, zM b5 x, (some b4, cellM [isB false, SlM isU []]), (some b3, cellM [isB false, SlM isU []]), zM b2 b, zM b1 a]) rfl ?_
 simp only [] at hI
 obtain ⟨hC, hcof⟩ := hI
 have za := Nat.le_trans (nw_mono hC.a1) (nw_max _ _)
 have zb := nw_mono hC.b1
 have zx := Nat.le_trans (nw_mono (Nat.le_trans hC.x hC.X1)) (nw_max _ _)
 have zn := nw_mono (Nat.le_trans hC.y hC.Y1)
 have h1 := nw_one
 have zq := nz_tdiv a b
 have zr := nz_tmod a b
 refine .seq fun _ k6 => ?_
 refine .seq fun _ k7 => .region (st (.load (.t rfl) (i := 4) rfl ty30 rfl (Ss' := [_, _]) rfl) rfl ?_)
 refine st (.eq (.call (zint_Sign (by first | with_reducible assumption | omega | (simp only [val_words, zv_nf]; omega) | (simp only [val_words]; exact Nat.le_trans (nw_small' (by omega)) (by decide)))) (.cons (.t rfl) .nil)) (by first | (simp only [val_words, zv_nf]; rfl) | rfl)) rfl ?_
 refine st (.neI (.t rfl) (Has.cI 0 rfl)) rfl ?_
 refine nl (.thn (k7 _ _ ?_))
 refine .cond (.t rfl) (fun hc1 => ?_) (fun hc1 => ?_)
 ·have hc1 := BP.t hc1
  have hb : b ≠ 0 := fun e => hc1 (by rw [sgn_eq0]; exact e)
  have zm := nz_mul (a.tdiv b) nx
  refine .skip ?_
  refine .thn (k6 _ _ ?_)
  refine .block ?_
  refine .seq fun _ k8 => .region (st (.load (.t rfl) (i := 5) rfl ty30 rfl (Ss' := [_, _]) rfl) rfl ?_)
  refine st (.load (.t rfl) (i := 4) rfl ty30 rfl (Ss' := [_, _]) rfl) rfl (st (.eq (.call (zint_Quo (by first | with_reducible assumption | omega | (simp only [val_words, zv_nf]; omega) | (simp only [val_words]; exact Nat.le_trans (nw_small' (by omega)) (by decide))) (by first | with_reducible assumption | omega | (simp only [val_words, zv_nf]; omega) | (simp only [val_words]; exact Nat.le_trans (nw_small' (by omega)) (by decide)))) (.cons (.t rfl) (.cons (.t rfl) .nil))) (by first | (simp only [val_words, zv_nf]; rfl) | rfl)) rfl ?_)
  refine st (.mv (.t rfl)) rfl (st (.ext (.t rfl) rfl) rfl ?_)
  refine st (.ext (.t rfl) rfl) rfl (st (.ext (.t rfl) rfl) rfl ?_)
  refine .alloc [isB false, SlM isU []] zero30 (fun _ _ => ⟨rfl, nilM _ _, trivial⟩) rfl fun b7 => ?_
  refine .alloc [isB false, SlM isU []] zero30 (fun _ _ => ⟨rfl, nilM _ _, trivial⟩) rfl fun b8 => ?_
  refine .store (.t rfl) (.t rfl) (i := 1) rfl ty30 rfl rfl (Ss' := [_, _]) rfl (M' := [_, (some _, cellM [_, _]), _, _, _, _, _, _]) rfl ?_
  refine .store (.t rfl) (.t rfl) (i := 0) rfl ty30 rfl rfl (Ss' := [_, _]) rfl (M' := [(some _, cellM [_, _]), _, _, _, _, _, _, _]) rfl ?_
  refine st (.as (.t rfl)) rfl ?_
  refine nl (.thn (k8 _ _ ?_))
  refine .seq fun _ k9 => ?_
  refine .drh [true, true, true, true, true, true, true, false] (Ms := [_, _, _, _, _, _, _]) rfl ?_
  refine .s [] rfl rfl rfl (.o rfl (.load (.t rfl) (i := 6) rfl ty30 rfl (Ss' := [_, _]) rfl)) ?_
  refine .s [] rfl rfl rfl (.o rfl (.load (.t rfl) (i := 0) rfl ty30 rfl (Ss' := [_, _]) rfl)) ?_
  refine .mid (.cons_cons _ (.cons_cons _ (.cons_cons _ (.cons_cons _ (.cons_cons _ (.cons_cons _ (.cons_cons _ (.cons _ .slnil)))))))) ?_
  refine .st [33] rfl rfl (by kernel_rfl) (by kernel_rfl) (StS.store (.t rfl) (.t rfl) (i := 7) rfl ty30 rfl rfl (Ss' := [_, _]) rfl (M' := [_, _, _, _, _, _, _, (some _, cellM [_, _])]) rfl) (.cons_cons _ (.cons_cons _ (.cons_cons _ (.cons_cons _ (.cons_cons _ (.cons_cons _ (.cons_cons _ (.cons _ .slnil)))))))) ?_
  refine .fin (n := 3) mixed rfl (by kernel_rfl) (by kernel_rfl) (by kernel_rfl) ?_
  refine .cv (Cv.wk (.k 2 rfl (.k 3 rfl (.k 4 rfl (.k 5 rfl (.k 6 rfl (.k 7 rfl (.k 23 rfl (.k 24 rfl (.k 25 rfl (.k 27 rfl (.k 28 rfl (.k 29 rfl (.k 26 rfl (.k 30 rfl (.k 31 rfl (.k 32 rfl (.k 8 rfl (.k 9 rfl (.k 33 rfl (.k 34 rfl .nil))))))))))))))))))))) ?_
  refine .store (.t rfl) (.t rfl) (i := 6) rfl ty30 rfl rfl (Ss' := [_, _]) rfl (M' := [_, _, _, _, _, _, (some _, cellM [_, _]), _]) rfl ?_
  refine nl (.thn (k9 _ _ ?_))
  refine .dr ?_
  refine .s [] rfl rfl rfl (.o rfl (.load (.t rfl) (i := 2) rfl ty30 rfl (Ss' := [_, _]) rfl)) ?_
  refine .s [] rfl rfl rfl (.o rfl (.load (.t rfl) (i := 3) rfl ty30 rfl (Ss' := [_, _]) rfl)) ?_
  refine .s [] rfl rfl rfl (.o rfl (.load (.t rfl) (i := 1) rfl ty30 rfl (Ss' := [_, _]) rfl)) ?_
  refine .s [] rfl rfl rfl (.o rfl (.load (.t rfl) (i := 2) rfl ty30 rfl (Ss' := [_, _]) rfl)) ?_
  refine .s [37, 38] rfl rfl rfl (.o rfl (.eq (.call (zint_Mul (by first | with_reducible assumption | omega | (simp only [val_words, zv_nf]; omega) | (simp only [val_words]; exact Nat.le_trans (nw_small' (by omega)) (by decide))) (by first | with_reducible assumption | omega | (simp only [val_words, zv_nf]; omega) | (simp only [val_words]; exact Nat.le_trans (nw_small' (by omega)) (by decide)))) (.cons (.t rfl) (.cons (.t rfl) .nil))) (by first | (simp only [val_words, zv_nf]; rfl) | rfl))) ?_
  refine .s [36, 39] rfl rfl rfl (.o rfl (.eq (.call (zint_Sub (by first | with_reducible assumption | omega | (simp only [val_words, zv_nf]; omega) | (simp only [val_words]; exact Nat.le_trans (nw_small' (by omega)) (by decide))) (by first | with_reducible assumption | omega | (simp only [val_words, zv_nf]; omega) | (simp only [val_words]; exact Nat.le_trans (nw_small' (by omega)) (by decide)))) (.cons (.t rfl) (.cons (.t rfl) .nil))) (by first | (simp only [val_words, zv_nf]; rfl) | rfl))) ?_
  refine .fin (n := 6) mixed (by kernel_rfl) (by kernel_rfl) (by kernel_rfl) ?_
  refine .cv (Cv.wk (.k 2 rfl (.k 3 rfl (.k 4 rfl (.k 5 rfl (.k 6 rfl (.k 7 rfl (.k 23 rfl (.k 24 rfl (.k 25 rfl (.k 27 rfl (.k 28 rfl (.k 29 rfl (.k 26 rfl (.k 30 rfl (.k 31 rfl (.k 32 rfl (.k 8 rfl (.k 9 rfl (.k 33 rfl (.k 34 rfl (.k 35 rfl (.k 36 rfl (.k 37 rfl (.k 38 rfl (.k 39 rfl (.k 40 rfl .nil))))))))))))))))))))))))))) ?_
  refine .store (.t rfl) (.t rfl) (i := 3) rfl ty30 rfl rfl (Ss' := [_, _]) rfl (M' := [_, _, _, (some _, cellM [_, _]), _, _, _, _]) rfl ?_
  refine .store (.t rfl) (.t rfl) (i := 2) rfl ty30 rfl rfl (Ss' := [_, _]) rfl (M' := [_, _, (some _, cellM [_, _]), _, _, _, _, _]) rfl ?_
  refine nl ?_
  refine .bln ?_
  refine .thn ?_
  refine hK5 (⟨(b, a.tmod b, nx, x - a.tdiv b * nx, Y, X + (a.tdiv b).natAbs * Y), hC.step hb, by rw [← hcof, cof_step hb]⟩) _ _ ?_ (Cv.trans (Cv.drop ((.cons _ (.cons _ (.cons_cons _ (.cons_cons _ (.cons_cons _ (.cons_cons _ (.cons_cons _ (.cons_cons _ .slnil)))))))))) (Cv.mem (.k 2 rfl (.k 3 rfl (.k 4 rfl (.k 5 rfl (.k 6 rfl (.k 7 rfl .nil)))))) ?_))
  ·show (a.tmod b).natAbs < b.natAbs; rw [Int.natAbs_tmod]; exact Nat.mod_lt _ (by omega)
  ·simp only [if_neg hb]
 ·have hc1 := BP.f hc1
  have hb : b = 0 := (sgn_eq0 _).1 (by omega)
  refine .exit ?_
  refine .the ?_
  refine .the ?_
  refine .blh ?_
  refine .thn (k4 _ _ ?_)
  refine .cv (Cv.wk (.k 2 rfl (.k 4 rfl (.k 5 rfl (.k 6 rfl .nil))))) ?_
  refine .seq fun _ k10 => ?_
  refine .seq fun _ k11 => .region (st (.load (.t rfl) (i := 5) rfl ty30 rfl (Ss' := [_, _]) rfl) rfl ?_)
  refine st (.eq (.call (zint_Sign (by first | with_reducible assumption | omega | (simp only [val_words, zv_nf]; omega) | (simp only [val_words]; exact Nat.le_trans (nw_small' (by omega)) (by decide)))) (.cons (.t rfl) .nil)) (by first | (simp only [val_words, zv_nf]; rfl) | rfl)) rfl ?_
  refine st (.ltI (.t rfl) (Has.cI 0 rfl)) rfl ?_
  refine nl (.thn (k11 _ _ ?_))
  refine .cond (.t rfl) (fun hc2 => ?_) (fun hc2 => ?_)
  ·have hc2 := BP.t hc2
   have ha : a < 0 := (sgn_lt _).1 hc2
   refine .seq fun _ k12 => ?_
   refine .dr ?_
   refine .s [] rfl rfl rfl (.o rfl (.load (.t rfl) (i := 5) rfl ty30 rfl (Ss' := [_, _]) rfl)) ?_
   refine .s [44] rfl rfl rfl (.o rfl (.eq (.call (zint_Neg (by first | with_reducible assumption | omega | (simp only [val_words, zv_nf]; omega) | (simp only [val_words]; exact Nat.le_trans (nw_small' (by omega)) (by decide)))) (.cons (.t rfl) .nil)) (by first | (simp only [val_words, zv_nf]; rfl) | rfl))) ?_
   refine .s [] rfl rfl rfl (.o rfl (.load (.t rfl) (i := 1) rfl ty30 rfl (Ss' := [_, _]) rfl)) ?_
   refine .fin (n := 3) mixed (by kernel_rfl) (by kernel_rfl) (by kernel_rfl) ?_
   refine .cv (Cv.wk (.k 2 rfl (.k 4 rfl (.k 5 rfl (.k 6 rfl (.k 45 rfl (.k 46 rfl .nil))))))) ?_
   refine st (.eq (.call (zint_Neg (by first | with_reducible assumption | omega | (simp only [val_words, zv_nf]; omega) | (simp only [val_words]; exact Nat.le_trans (nw_small' (by omega)) (by decide)))) (.cons (.t rfl) .nil)) (by first | (simp only [val_words, zv_nf]; rfl) | rfl)) rfl ?_
   refine .store (.t rfl) (.t rfl) (i := 3) rfl ty30 rfl rfl (Ss' := [_, _]) rfl (M' := [_, _, _, (some _, cellM [_, _]), _, _]) rfl ?_
   refine .store (.t rfl) (.t rfl) (i := 2) rfl ty30 rfl rfl (Ss' := [_, _]) rfl (M' := [_, _, (some _, cellM [_, _]), _, _, _]) rfl ?_
   refine nl (.thn (k12 _ _ ?_))
   refine .ret ?_
   refine .thr ?_
   refine rtN (.inl rfl) Try.results110 rfl rfl (.cell rfl (i := 3) rfl ty30 rfl ?_ (.cell rfl (i := 2) rfl ty30 rfl ?_ .nil))
   ·subst hb; exact isZ_eq (by rw [← hcof, cof_zero, if_pos ha])
   ·subst hb; exact isZ_eq (by rw [← hcof, cof_zero, if_pos ha])
  ·have hc2 := BP.f hc2
   have ha : ¬ a < 0 := fun e => by have := (sgn_lt a).2 e; omega
   refine .skip ?_
   refine .thn (k10 _ _ ?_)
   refine .seq fun _ k13 => ?_
   refine .drh [true, true, true, false, true, true] (Ms := [_, _, _, _, _]) rfl ?_
   refine .s [] rfl rfl rfl (.o rfl (.load (.t rfl) (i := 4) rfl ty30 rfl (Ss' := [_, _]) rfl)) ?_
   refine .s [] rfl rfl rfl (.o rfl (.load (.t rfl) (i := 1) rfl ty30 rfl (Ss' := [_, _]) rfl)) ?_
   refine .mid (.cons_cons _ (.cons_cons _ (.cons_cons _ (.cons _ (.cons_cons _ (.cons_cons _ .slnil)))))) ?_
   refine .st [48] rfl rfl (by kernel_rfl) (by kernel_rfl) (StS.store (.t rfl) (.t rfl) (i := 3) rfl ty30 rfl rfl (Ss' := [_, _]) rfl (M' := [_, _, _, (some _, cellM [_, _]), _, _]) rfl) (.cons_cons _ (.cons_cons _ (.cons_cons _ (.cons _ (.cons_cons _ (.cons_cons _ .slnil)))))) ?_
   refine .fin (n := 3) mixed rfl (by kernel_rfl) (by kernel_rfl) (by kernel_rfl) ?_
   refine .cv (Cv.wk (.k 4 rfl (.k 5 rfl (.k 49 rfl .nil)))) ?_
   refine .store (.t rfl) (.t rfl) (i := 2) rfl ty30 rfl rfl (Ss' := [_, _]) rfl (M' := [_, _, (some _, cellM [_, _]), _, _, _]) rfl ?_
   refine nl (.thn (k13 _ _ ?_))
   refine .ret ?_
   refine rtN (.inl rfl) Try.results110 rfl rfl (.cell rfl (i := 3) rfl ty30 rfl ?_ (.cell rfl (i := 2) rfl ty30 rfl ?_ .nil))
   ·subst hb; exact isZ_eq (by rw [← hcof, cof_zero, if_neg ha])
   ·subst hb; exact isZ_eq (by rw [← hcof, cof_zero, if_neg ha])
end Go.Proofs.Ythkdmhaafanjlaa
namespace Go.Pz
open Go.Nt Go.En
def fewB (xs : List (Bool × List Nat)) (n w : Int) : Bool := (xs.take 100).all (fun p => decide ((p.2.length : Int) ≤ w)) && decide ((xs.length : Int) ≤ n)
theorem fewB_no {xs : List (Bool × List Nat)} {n w : Int} {i : Nat} (hi : i < xs.length) (h1 : i < 100) (h : ¬ ((xs.getD i (false, [])).2.length : Int) ≤ w) : fewB xs n w = false := by
 unfold fewB
 have hm : xs.getD i (false, []) ∈ xs.take 100 := by
  rw [List.getD, List.getElem?_eq_getElem hi]
  exact List.mem_take_iff_getElem.2 ⟨i, by omega, rfl⟩
 have : (xs.take 100).all (fun p => decide ((p.2.length : Int) ≤ w)) = false := by
  rw [List.all_eq_false]
  exact ⟨_, hm, by rw [decide_eq_true_eq]; exact h⟩
 rw [this]; rfl
theorem fewB_yes {xs : List (Bool × List Nat)} {n w : Int} {i : Nat} (hi : xs.length ≤ i ∨ 100 ≤ i) (h : ∀ j, j < i → ((xs.getD j (false, [])).2.length : Int) ≤ w) : fewB xs n w = decide ((xs.length : Int) ≤ n) := by
 unfold fewB
 have : (xs.take 100).all (fun p => decide ((p.2.length : Int) ≤ w)) = true := by
  rw [List.all_eq_true]
  intro p hp
  obtain ⟨j, hj, rfl⟩ := List.mem_take_iff_getElem.1 hp
  have := h j (by omega)
  rw [List.getD, List.getElem?_eq_getElem (by omega)] at this
  exact decide_eq_true this
 rw [this]; rfl
theorem fewB_bd {xs : List (Bool × List Nat)} {n w : Int} {N K : Nat} (ok : ∀ p ∈ xs, (∀ y ∈ p.2, y < 18446744073709551616) ∧ p.2.length ≤ 9223372036854775807) (h : fewB xs n w = true) (hn : n = (N : Int)) (hw : w = (K : Int)) (h1 : N ≤ 100) : xs.length ≤ N ∧ Bd (vals xs) K := by
 unfold fewB at h
 rw [Bool.and_eq_true, decide_eq_true_eq, List.all_eq_true] at h
 subst hn; subst hw
 refine ⟨by omega, fun i => ?_⟩
 rw [cf_vals, zv_nw]
 rcases Nat.lt_or_ge i xs.length with hi | hi
 ·rw [List.getD, List.getElem?_eq_getElem hi]
  have h2 := h.1 xs[i] (List.mem_take_iff_getElem.2 ⟨i, by omega, rfl⟩)
  rw [decide_eq_true_eq] at h2
  exact Nat.le_trans (nw_val (ok _ (List.getElem_mem hi)).1) (by show xs[i].2.length ≤ K; omega)
 ·rw [List.getD, List.getElem?_eq_none (by omega)]
  show (List.length (words (val []))) ≤ K
  rw [show val [] = 0 from rfl, words_zero]; exact Nat.zero_le _
end Go.Pz
namespace Go.Proofs.Ythkdmhaafanjlaa
open Go.En Go.RowKit
set_option maxRecDepth 10000
set_option maxHeartbeats 4000000
open Go.Nt
open Go.Pz
theorem ref10_Few {xs : List (Bool × List Nat)} {n w : Int} : Ctr Try.prog 27 [SlK 2 zc xs, isI n, isI w] (isB (fewB xs n w)) := by
 refine Ctr.intro Try.func27 rfl (by kernel_rfl) Try.ntmps27 rfl fun w0 F0 => ?_
 refine .cv (Cv.wk (.k 0 rfl (.k 1 rfl (.k 2 rfl .nil)))) ?_
 refine .fact (Has.lenLt (Has.t (t := 0) rfl)) fun lt0 => ?_
 refine .fact (Has.rngI (Has.t (t := 1) rfl)) fun lt1 => ?_
 refine .fact (Has.rngI (Has.t (t := 2) rfl)) fun lt2 => ?_
 refine .seq fun _ k1 => .region (st (.as (Has.cB false)) rfl ?_)
 refine nl (.thn (k1 _ _ ?_))
 refine .seq fun _ k2 => ?_
 refine .seq fun _ k3 => .region (st (.as (Has.cI 0 rfl)) rfl ?_)
 refine nl (.thn (k3 _ _ ?_))
 refine .block ?_
 refine .loopF [0, 1, 2] (fun (z : { i : Nat // i ≤ xs.length ∧ i ≤ 100 ∧ ∀ j, j < i → ((xs.getD j (false, [])).2.length : Int) ≤ w }) => match z with | ⟨i, hi⟩ => [(7, isI (i : Int))]) (fun M => fun (z : { i : Nat // i ≤ xs.length ∧ i ≤ 100 ∧ ∀ j, j < i → ((xs.getD j (false, [])).2.length : Int) ≤ w }) => match z with | ⟨i, hi⟩ => []) (fun (z : { i : Nat // i ≤ xs.length ∧ i ≤ 100 ∧ ∀ j, j < i → ((xs.getD j (false, [])).2.length : Int) ≤ w }) => match z with | ⟨i, hi⟩ => xs.length - i) (⟨0, Nat.zero_le _, by omega, fun j h => absurd h (Nat.not_lt_zero _)⟩) (Cv.mem (.cons (t := 7) (Has.t' rfl ?_) (.k 0 rfl (.k 1 rfl (.k 2 rfl .nil)))) ?_) ?_
 ·rfl
 ·rfl
 rintro ⟨i, hi, h1, hj⟩ K4 hK4
 refine .cv (Cv.wk (.k 7 rfl (.k 0 rfl (.k 1 rfl (.k 2 rfl .nil))))) ?_
 refine .memEq (M' := []) rfl ?_
 refine .seq fun _ k5 => ?_
 refine .seq fun _ k6 => .region (st (.mv (.t rfl)) rfl ?_)
 refine st (.mv (.t rfl)) rfl (st (.len sl22 (.t rfl)) rfl ?_)
 refine st (.ltI (.t rfl) (.t rfl)) rfl ?_
 refine st (.mv (.t rfl)) rfl ?_
 refine stT rfl rfl (fun hg => have hg' := BP.t hg; OK1.mv (.t rfl)) rfl ?_
 refine stT rfl rfl (fun hg => have hg' := BP.t hg; OK1.ltI (Has.g rfl hg) (Has.cI 100 rfl)) rfl ?_
 refine st (.pickAnd (.t rfl) (fun h => Has.g rfl h)) rfl ?_
 refine nl (.thn (k6 _ _ ?_))
 refine .cond (.t rfl) (fun hc1 => ?_) (fun hc1 => ?_)
 ·have hc1 := BP.t hc1
  refine .skip ?_
  refine .thn (k5 _ _ ?_)
  refine .seq fun _ k7 => ?_
  refine .block ?_
  refine .seq fun _ k8 => .region (st (.mv (.t rfl)) rfl ?_)
  refine st (.mv (.t rfl)) rfl (st (.ixK sl22 ty30 (.t rfl) (.t rfl) zc_len ⟨by omega, by omega⟩ (getD_some (d := (false, [])) (by first | omega | (simp only [Int.toNat_natCast, List.length_set]; omega)))) rfl ?_)
  refine st (.fieldAddrP (.t rfl) fld30_1 ty28 (Ss' := [_]) rfl) rfl ?_
  refine st (.loadP1 (.t rfl) ty28) rfl ?_
  refine st (.len sl28 (.t rfl)) rfl ?_
  refine st (.mv (.t rfl)) rfl (st (.gtI (.t rfl) (.t rfl)) rfl ?_)
  refine nl (.thn (k8 _ _ ?_))
  refine .cond (.t rfl) (fun hc2 => ?_) (fun hc2 => ?_)
  ·have hc2 := BP.t hc2
   have hNo : ¬ ((xs.getD i (false, [])).2.length : Int) ≤ w := (by simp only [Int.toNat_natCast] at hc2; omega)
   refine .seq fun _ k9 => .region (st (.as (Has.cB false)) rfl ?_)
   refine nl (.thn (k9 _ _ ?_))
   refine .ret ?_
   refine .blr ?_
   refine .thr ?_
   refine .thr ?_
   refine .blr ?_
   refine .thr ?_
   refine rt1 (.inl rfl) Try.results27 rfl (.tmp (Has.t' rfl ?_) .nil)
   all_goals (exact isB_eq (fewB_no (by omega) (by omega) hNo).symm)
  ·have hc2 := BP.f hc2
   have hLe : ((xs.getD i (false, [])).2.length : Int) ≤ w := (by simp only [Int.toNat_natCast] at hc2; omega)
   refine .skip ?_
   refine .bln ?_
   refine .thn (k7 _ _ ?_)
   refine .region (st (.mv (.t rfl)) rfl ?_)
   refine st (.addI (.t rfl) (Has.cI 1 rfl) (by first | omega | assumption) (by first | omega | assumption)) rfl ?_
   refine st (.as (.t rfl)) rfl ?_
   refine nl ?_
   refine .thn ?_
   refine hK4 (⟨i + 1, by omega, by omega, fun j h => by rcases Nat.lt_or_ge j i with h2 | h2; exact hj j h2; rw [show j = i by omega]; exact hLe⟩) _ _ ?_ (Cv.mem (.cons (t := 7) (Has.t' rfl ?_) (.k 0 rfl (.k 1 rfl (.k 2 rfl .nil)))) ?_)
   ·show xs.length - (i + 1) < xs.length - i; omega
   ·exact isI_eq (by omega)
   ·rfl
 ·have hc1 := BP.f hc1
  refine .exit ?_
  refine .the ?_
  refine .the ?_
  refine .blh ?_
  refine .thn (k2 _ _ ?_)
  refine .cv (Cv.wk (.k 0 rfl (.k 1 rfl .nil))) ?_
  refine .seq fun _ k10 => .region (st (.mv (.t rfl)) rfl ?_)
  refine st (.len sl22 (.t rfl)) rfl ?_
  refine st (.mv (.t rfl)) rfl (st (.leI (.t rfl) (.t rfl)) rfl ?_)
  refine st (.as (.t rfl)) rfl ?_
  refine nl (.thn (k10 _ _ ?_))
  refine .cv (Cv.wk (.k 6 rfl .nil)) ?_
  refine .ret ?_
  refine rt1 (.inl rfl) Try.results27 rfl (.tmp (Has.t' rfl ?_) .nil)
  all_goals (exact isB_eq (fewB_yes (by omega) hj).symm)
end Go.Proofs.Ythkdmhaafanjlaa
namespace Go.Proofs.Ythkdmhaafanjlaa
open Go.En Go.RowKit
set_option maxRecDepth 10000
set_option maxHeartbeats 4000000
open Go.Nt
open Go.Pz
open Go.Mz
theorem zmat_side {n : Int} : Ctr Try.prog 57 [isI n] (isB (decide (0 ≤ n) && decide (n ≤ 64))) := by
 refine Ctr.intro Try.func57 rfl (by kernel_rfl) Try.ntmps57 rfl fun w0 F0 => ?_
 refine .cv (Cv.wk (.k 0 rfl .nil)) ?_
 refine .fact (Has.rngI (Has.t (t := 0) rfl)) fun lt0 => ?_
 refine .seq fun _ k1 => .region (st (.as (Has.cB false)) rfl ?_)
 refine nl (.thn (k1 _ _ ?_))
 refine .seq fun _ k2 => .region (st (.mv (.t rfl)) rfl ?_)
 refine st (.geI (.t rfl) (Has.cI 0 rfl)) rfl ?_
 refine st (.mv (.t rfl)) rfl ?_
 refine stT rfl rfl (fun hg => have hg' := BP.t hg; OK1.mv (.t rfl)) rfl ?_
 refine stT rfl rfl (fun hg => have hg' := BP.t hg; OK1.leI (Has.g rfl hg) (Has.cI 64 rfl)) rfl ?_
 refine st (.pickAnd (.t rfl) (fun h => Has.g rfl h)) rfl ?_
 refine st (.as (.t rfl)) rfl ?_
 refine nl (.thn (k2 _ _ ?_))
 refine .cv (Cv.wk (.k 2 rfl .nil)) ?_
 refine .ret ?_
 refine rt1 (.inl rfl) Try.results57 rfl (.tmp (Has.t' rfl ?_) .nil)
 all_goals (rfl)
theorem zmat_Formed {r c : Int} {xs : List (Bool × List Nat)} : Ctr Try.prog 40 [isM r c xs] (isB (formB r c xs.length)) := by
 refine Ctr.intro Try.func40 rfl (by kernel_rfl) Try.ntmps40 rfl fun w0 F0 => ?_
 refine .cv (Cv.wk (.k 0 rfl .nil)) ?_
 refine .seq fun _ k1 => .region (.box (.t rfl) rfl fun b1 => ?_)
 refine st (.as (Has.cB false)) rfl ?_
 refine nl (.thn (k1 _ _ ?_))
 refine .seq fun _ k2 => .region (st (.fieldAddr (.t rfl) fld24_0 ty3) rfl ?_)
 refine st (.load1 (.t rfl) (i := 0) rfl ty3 rfl) rfl (st (.call (zmat_side) (.cons (.t rfl) .nil)) rfl ?_)
 refine st (.mv (.t rfl)) rfl ?_
 refine stT rfl rfl (fun hg => have hg' := BP.t hg; OK1.fieldAddr (.t rfl) fld24_1 ty3) rfl ?_
 refine stT rfl rfl (fun hg => have hg' := BP.t hg; OK1.load1 (Has.g rfl hg) (i := 0) rfl ty3 rfl) rfl ?_
 refine stT rfl rfl (fun hg => have hg' := BP.t hg; OK1.call (zmat_side) (.cons (Has.g rfl hg) .nil)) rfl ?_
 refine st (.pickAnd (.t rfl) (fun h => Has.g rfl h)) rfl ?_
 refine st (.mv (.t rfl)) rfl ?_
 refine stT rfl rfl (fun hg => have hg' := BP.t hg; OK1.fieldAddr (.t rfl) fld24_2 ty22) rfl ?_
 refine stT rfl rfl (fun hg => have hg' := BP.t hg; OK1.load1 (Has.g rfl hg) (i := 0) rfl ty22 rfl) rfl ?_
 refine stT rfl rfl (fun hg => have hg' := BP.t hg; OK1.len sl22 (Has.g rfl hg)) rfl ?_
 refine stT rfl rfl (fun hg => have hg' := BP.t hg; OK1.fieldAddr (.t rfl) fld24_0 ty3) rfl ?_
 refine stT rfl rfl (fun hg => have hg' := BP.t hg; OK1.load1 (Has.g rfl hg) (i := 0) rfl ty3 rfl) rfl ?_
 refine stT rfl rfl (fun hg => have hg' := BP.t hg; OK1.fieldAddr (.t rfl) fld24_1 ty3) rfl ?_
 refine stT rfl rfl (fun hg => have hg' := BP.t hg; OK1.load1 (Has.g rfl hg) (i := 0) rfl ty3 rfl) rfl ?_
 refine stT rfl rfl (fun hg => have hg' := BP.t hg; OK1.mulI (Has.g rfl hg) (Has.g rfl hg) (by have := mul_bnd ⟨hg'.1, hg'.2⟩; omega) (by have := mul_bnd ⟨hg'.1, hg'.2⟩; omega)) rfl ?_
 refine stT rfl rfl (fun hg => have hg' := BP.t hg; OK1.eqI (Has.g rfl hg) (Has.g rfl hg)) rfl ?_
 refine st (.pickAnd (.t rfl) (fun h => Has.g rfl h)) rfl ?_
 refine st (.as (.t rfl)) rfl ?_
 refine nl (.thn (k2 _ _ ?_))
 refine .cv (Cv.wk (.k 2 rfl .nil)) ?_
 refine .ret ?_
 refine rt1 (.inl rfl) Try.results40 rfl (.tmp (Has.t' rfl ?_) .nil)
 all_goals (rfl)
theorem zmat_get {r : Int} {C i k : Nat} {xs : List (Bool × List Nat)} (hx : xs.length ≤ 4096) (hl : i * C + k < xs.length) : Ctr Try.prog 69 [isM r (C : Int) xs, isI (i : Int), isI (k : Int)] (Flat (zc (xs.getD (i * C + k) (false, [])))) := by
 refine Ctr.intro Try.func69 rfl (by kernel_rfl) Try.ntmps69 rfl fun w0 F0 => ?_
 refine .cv (Cv.wk (.k 0 rfl (.k 1 rfl (.k 2 rfl .nil)))) ?_
 refine .fact (Has.rngI (Has.t (t := 1) rfl)) fun lt1 => ?_
 refine .fact (Has.rngI (Has.t (t := 2) rfl)) fun lt2 => ?_
 have hcp : ((i : Int) * (C : Int)) = ((i * C : Nat) : Int) := (Int.natCast_mul i C).symm
 refine .seq fun _ k1 => .region (.box (.t rfl) rfl fun b1 => ?_)
 refine .alloc [isB false, SlM isU []] zero30 (fun _ _ => ⟨rfl, nilM _ _, trivial⟩) rfl fun b2 => ?_
 refine nl (.thn (k1 _ _ ?_))
 refine .seq fun _ k2 => .region (st (.fieldAddr (.t rfl) fld24_2 ty22) rfl ?_)
 refine st (.load1 (.t rfl) (i := 1) rfl ty22 rfl) rfl ?_
 refine st (.mv (.t rfl)) rfl (st (.fieldAddr (.t rfl) fld24_1 ty3) rfl ?_)
 refine st (.load1 (.t rfl) (i := 1) rfl ty3 rfl) rfl (st (.eq (.mulI (.t rfl) (.t rfl) (by first | omega | (rw [hcp]; omega)) (by first | omega | (rw [hcp]; omega))) ((show isI _ = isI ((i * C : Nat) : Int) from isI_eq hcp))) rfl ?_)
 refine st (.mv (.t rfl)) rfl (st (.eq (.addI (.t rfl) (.t rfl) (by first | omega | (rw [hcp]; omega)) (by first | omega | (rw [hcp]; omega))) ((show isI _ = isI ((i * C + k : Nat) : Int) from isI_eq (by omega)))) rfl ?_)
 refine st (.ixK sl22 ty30 (.t rfl) (.t rfl) zc_len ⟨by omega, by omega⟩ (getD_some (d := (false, [])) (by first | omega | (simp only [Int.toNat_natCast, List.length_set]; omega)))) rfl ?_
 refine st (.loadP (.t rfl) ty30 rfl (Ss' := [_, _]) rfl) rfl ?_
 refine .store (.t rfl) (.t rfl) (i := 0) rfl ty30 rfl rfl (Ss' := [_, _]) rfl (M' := [(some _, cellM [_, _]), _]) rfl ?_
 refine nl (.thn (k2 _ _ ?_))
 refine .cv (Cv.wk (.k 6 rfl .nil)) ?_
 refine .ret ?_
 refine rt1 (.inl rfl) Try.results69 rfl (.cell rfl (i := 0) rfl ty30 rfl ?_ .nil)
 all_goals (rfl)
theorem zmat_has {r c i : Int} {xs : List (Bool × List Nat)} : Ctr Try.prog 68 [isM r c xs, isI i] (isB (decide (0 ≤ i) && decide (i < r))) := by
 refine Ctr.intro Try.func68 rfl (by kernel_rfl) Try.ntmps68 rfl fun w0 F0 => ?_
 refine .cv (Cv.wk (.k 0 rfl (.k 1 rfl .nil))) ?_
 refine .fact (Has.rngI (Has.t (t := 1) rfl)) fun lt1 => ?_
 refine .seq fun _ k1 => .region (.box (.t rfl) rfl fun b1 => ?_)
 refine st (.as (Has.cB false)) rfl ?_
 refine nl (.thn (k1 _ _ ?_))
 refine .seq fun _ k2 => .region (st (.mv (.t rfl)) rfl ?_)
 refine st (.geI (.t rfl) (Has.cI 0 rfl)) rfl ?_
 refine st (.mv (.t rfl)) rfl ?_
 refine stT rfl rfl (fun hg => have hg' := BP.t hg; OK1.mv (.t rfl)) rfl ?_
 refine stT rfl rfl (fun hg => have hg' := BP.t hg; OK1.fieldAddr (.t rfl) fld24_0 ty3) rfl ?_
 refine stT rfl rfl (fun hg => have hg' := BP.t hg; OK1.load1 (Has.g rfl hg) (i := 0) rfl ty3 rfl) rfl ?_
 refine stT rfl rfl (fun hg => have hg' := BP.t hg; OK1.ltI (Has.g rfl hg) (Has.g rfl hg)) rfl ?_
 refine st (.pickAnd (.t rfl) (fun h => Has.g rfl h)) rfl ?_
 refine st (.as (.t rfl)) rfl ?_
 refine nl (.thn (k2 _ _ ?_))
 refine .cv (Cv.wk (.k 4 rfl .nil)) ?_
 refine .ret ?_
 refine rt1 (.inl rfl) Try.results68 rfl (.tmp (Has.t' rfl ?_) .nil)
 all_goals (rfl)
theorem zmat_made {R C : Nat} {f : Nat → Nat → Bool × List Nat} (hR : R ≤ 64) (hC : C ≤ 64) (hf : ∀ i k, i < R → k < C → (List.length (words (val (f i k).2))) ≤ 4294967296) : Ctr Try.prog 58 [isI (R : Int), isI (C : Int), isAt Try.prog R C f] (isMz R C (tab (R * C) C fun i k => zv (f i k).1 (f i k).2)) := by
 refine Ctr.intro Try.func58 rfl (by kernel_rfl) Try.ntmps58 rfl fun w0 F0 => ?_
 refine .cv (Cv.wk (.k 0 rfl (.k 1 rfl (.k 2 rfl .nil)))) ?_
 refine .fact (Has.rngI (Has.t (t := 0) rfl)) fun lt0 => ?_
 refine .fact (Has.rngI (Has.t (t := 1) rfl)) fun lt1 => ?_
 have hRC := side_le hR hC
 obtain ⟨G, hG⟩ : ∃ G : Nat → Nat → Int, G = fun i k => zv (f i k).1 (f i k).2 := ⟨_, rfl⟩
 rw [← hG]
 refine .seq fun _ k1 => .region (.alloc [isI 0, isI 0, nilS] zero24 (fun _ _ => ⟨⟨rfl, by decide, by decide⟩, ⟨rfl, by decide, by decide⟩, rfl, trivial⟩) rfl fun b1 => ?_)
 refine nl (.thn (k1 _ _ ?_))
 refine .seq fun _ k2 => .region (st (.mv (.t rfl)) rfl ?_)
 refine st (.mv (.t rfl)) rfl (st (.build [isI 0, isI 0, nilS] pl24 zero24 (fun _ _ => ⟨⟨rfl, by decide, by decide⟩, ⟨rfl, by decide, by decide⟩, rfl, trivial⟩) (.cons (.t rfl) rfl rfl rfl (.cons (.t rfl) rfl rfl rfl .nil)) (Z'' := [_, _, _]) rfl) rfl ?_)
 refine .alloc [isI 0, isI 0, nilS] zero24 (fun _ _ => ⟨⟨rfl, by decide, by decide⟩, ⟨rfl, by decide, by decide⟩, rfl, trivial⟩) rfl fun b2 => ?_
 refine .store (.t rfl) (.t rfl) (i := 0) rfl ty24 rfl rfl (Ss' := [_, _, _]) rfl (M' := [(some _, cellM [_, _, _]), _]) rfl ?_
 refine nl (.thn (k2 _ _ ?_))
 refine .seq fun _ k3 => ?_
 refine .seq fun _ k4 => ?_
 refine .cv (Cv.growF (Bool × List Nat) (i := 0) (o := 2) rfl rfl rfl) ?_
 refine .memEq (M' := [grMK zc Gr.nil [], _, _]) rfl ?_
 refine .region (st (.mv (.t rfl)) rfl ?_)
 refine st (.mv (Has.cI 0 rfl)) rfl ?_
 refine nl (.thn (k4 _ _ ?_))
 refine .block ?_
 refine .loopF [1, 2, 6, 7, 14] (fun (z : { z : Nat × Gr (Bool × List Nat) // z.1 ≤ R }) => match z with | ⟨(i, g), hI⟩ => [(15, isI (i : Int))]) (fun M => fun (z : { z : Nat × Gr (Bool × List Nat) // z.1 ≤ R }) => match z with | ⟨(i, g), hI⟩ => [grMK zc g ((tab (i * C + 0) C G).map nz), (some b2, cellM [isI (R : Int), isI (C : Int), isGr g ((tab (i * C + 0) C G).map nz).length]), (some b1, cellM [isI 0, isI 0, nilS])]) (fun (z : { z : Nat × Gr (Bool × List Nat) // z.1 ≤ R }) => match z with | ⟨(i, g), hI⟩ => R - i) (⟨(0, Gr.nil), Nat.zero_le _⟩) (Cv.mem (.cons (t := 15) (Has.t' rfl ?_) (.k 1 rfl (.k 2 rfl (.k 6 rfl (.k 7 rfl (.k 14 rfl .nil)))))) ?_) ?_
 ·rfl
 ·exact grF_eq (n := 0) (ys := []) (by rw [List.length_map, tab_len, Nat.zero_mul]) (show [] = (tab (0 * C + 0) C G).map nz by rw [Nat.zero_mul]; rfl)
 rintro ⟨⟨i, g⟩, hI⟩ K5 hK5
 refine .cv (Cv.wk (.k 15 rfl (.k 1 rfl (.k 2 rfl (.k 6 rfl (.k 7 rfl (.k 14 rfl .nil))))))) ?_
 refine .memEq (M' := [grMK zc g ((tab (i * C + 0) C G).map nz), (some b2, cellM [isI (R : Int), isI (C : Int), isGr g ((tab (i * C + 0) C G).map nz).length]), (some b1, cellM [isI 0, isI 0, nilS])]) rfl ?_
 simp only [] at hI
 refine .seq fun _ k6 => .region (st (.ltI (.t rfl) (.t rfl)) rfl ?_)
 refine nl (.thn (k6 _ _ ?_))
 refine .seq fun _ k7 => ?_
 refine .cond (.t rfl) (fun hc1 => ?_) (fun hc1 => ?_)
 ·have hc1 := BP.t hc1
  refine .skip ?_
  refine .thn (k7 _ _ ?_)
  refine .seq fun _ k8 => ?_
  refine .block ?_
  refine .seq fun _ k9 => .region (st (.mv (.t rfl)) rfl ?_)
  refine st (.as (.t rfl)) rfl ?_
  refine nl (.thn (k9 _ _ ?_))
  refine .seq fun _ k10 => .region (st (.mv (.t rfl)) rfl ?_)
  refine st (.mv (Has.cI 0 rfl)) rfl ?_
  refine nl (.thn (k10 _ _ ?_))
  refine .block ?_
  refine .loopF [1, 2, 6, 7, 14, 15, 16, 17, 8, 18] (fun (z : { z : Nat × Gr (Bool × List Nat) // z.1 ≤ C }) => match z with | ⟨(k, g2), hK⟩ => [(19, isI (k : Int))]) (fun M => fun (z : { z : Nat × Gr (Bool × List Nat) // z.1 ≤ C }) => match z with | ⟨(k, g2), hK⟩ => [grMK zc g2 ((tab (i * C + k) C G).map nz), (some b2, cellM [isI (R : Int), isI (C : Int), isGr g2 ((tab (i * C + k) C G).map nz).length]), (some b1, cellM [isI 0, isI 0, nilS])]) (fun (z : { z : Nat × Gr (Bool × List Nat) // z.1 ≤ C }) => match z with | ⟨(k, g2), hK⟩ => C - k) (⟨(0, g), Nat.zero_le _⟩) (Cv.mem (.cons (t := 19) (Has.t' rfl ?_) (.k 1 rfl (.k 2 rfl (.k 6 rfl (.k 7 rfl (.k 14 rfl (.k 15 rfl (.k 16 rfl (.k 17 rfl (.k 8 rfl (.k 18 rfl .nil))))))))))) ?_) ?_
  ·rfl
  ·rfl
  rintro ⟨⟨k, g2⟩, hK⟩ K11 hK11
  refine .cv (Cv.wk (.k 19 rfl (.k 1 rfl (.k 2 rfl (.k 6 rfl (.k 7 rfl (.k 14 rfl (.k 15 rfl (.k 16 rfl (.k 17 rfl (.k 8 rfl (.k 18 rfl .nil)))))))))))) ?_
  refine .memEq (M' := [grMK zc g2 ((tab (i * C + k) C G).map nz), (some b2, cellM [isI (R : Int), isI (C : Int), isGr g2 ((tab (i * C + k) C G).map nz).length]), (some b1, cellM [isI 0, isI 0, nilS])]) rfl ?_
  simp only [] at hK
  refine .seq fun _ k12 => .region (st (.ltI (.t rfl) (.t rfl)) rfl ?_)
  refine nl (.thn (k12 _ _ ?_))
  refine .seq fun _ k13 => ?_
  refine .cond (.t rfl) (fun hc2 => ?_) (fun hc2 => ?_)
  ·have hc2 := BP.t hc2
   refine .skip ?_
   refine .thn (k13 _ _ ?_)
   refine .seq fun _ k14 => ?_
   refine .block ?_
   refine .seq fun _ k15 => .region (st (.mv (.t rfl)) rfl ?_)
   refine st (.as (.t rfl)) rfl ?_
   refine nl (.thn (k15 _ _ ?_))
   refine .seq fun _ k16 => .region (st (.mv (.t rfl)) rfl ?_)
   refine st (.mv (.t rfl)) rfl (st (.mv (.t rfl)) rfl ?_)
   refine st (.callV ⟨(i, k), by omega, by omega⟩ (.t rfl) (.cons (.t rfl) (.cons (.t rfl) .nil))) rfl ?_
   refine .alloc [isB false, SlM isU []] zero30 (fun _ _ => ⟨rfl, nilM _ _, trivial⟩) rfl fun b3 => ?_
   refine .store (.t rfl) (.t rfl) (i := 0) rfl ty30 rfl rfl (Ss' := [_, _]) rfl (M' := [(some _, cellM [_, _]), _, _, _]) rfl ?_
   refine nl (.thn (k16 _ _ ?_))
   refine .dr ?_
   refine .s [] rfl rfl rfl (.o rfl (.fieldAddr (.t rfl) fld24_2 ty22)) ?_
   refine .s [26] rfl rfl rfl (.o rfl (.load1 (.t rfl) (i := 2) rfl ty22 rfl)) ?_
   refine .s [] rfl rfl rfl (.o rfl (.fieldAddr (.t rfl) fld30_1 ty28)) ?_
   refine .s [28] rfl rfl rfl (.o rfl (.load1 (.t rfl) (i := 0) rfl ty28 rfl)) ?_
   refine .s [] rfl rfl rfl (.o rfl (.fieldAddr (.t rfl) fld30_0 ty4)) ?_
   refine .s [30] rfl rfl rfl (.o rfl (.load1 (.t rfl) (i := 0) rfl ty4 rfl)) ?_
   refine .s [29, 31] rfl rfl rfl (.o rfl (.eq (.call (zint_From (hf i k (by omega) (by omega))) (.cons (.t rfl) (.cons (.t rfl) .nil))) ((show isZ _ = Flat (zc (nz (G i k))) from isZ_eq (by rw [hG]))))) ?_
   refine .s [32] rfl rfl rfl (.o rfl (.buildS [isB false, SlM isU []] sl22 ty30 zero30 (fun _ _ => ⟨rfl, nilM _ _, trivial⟩) rfl rfl (.cons (.t rfl) rfl rfl rfl .nil) rfl (S := SlK 2 zc [nz (G i k)]) rfl)) ?_
   refine .fin (n := 8) mixed (by kernel_rfl) (by kernel_rfl) (by kernel_rfl) ?_
   refine .cv (Cv.wk (.k 1 rfl (.k 2 rfl (.k 6 rfl (.k 7 rfl (.k 14 rfl (.k 15 rfl (.k 16 rfl (.k 17 rfl (.k 8 rfl (.k 18 rfl (.k 19 rfl (.k 20 rfl (.k 21 rfl (.k 9 rfl (.k 22 rfl (.k 23 rfl (.k 24 rfl (.k 25 rfl (.k 10 rfl (.k 26 rfl (.k 27 rfl (.k 28 rfl (.k 29 rfl (.k 30 rfl (.k 31 rfl (.k 32 rfl (.k 33 rfl .nil)))))))))))))))))))))))))))) ?_
   refine .appendGK (fk := zc) (u := (false, [])) zc_len (by decide) (fun _ => inferInstance) sl22 ty30 zero30 (fun _ _ => ⟨rfl, nilM _ _, trivial⟩) by30 (.t rfl) (i := 1) rfl (.t rfl) (by have hpl := place_lt (show i < R by omega) (show k < C by omega); rw [List.length_map, tab_len]; show i * C + k + 1 ≤ _; omega) (by simp) rfl fun gr1 => ?_
   refine .memEq (M' := [_, grMK _ _ _, _, _]) rfl ?_
   refine st (.fieldAddr (.t rfl) fld24_2 ty22) rfl ?_
   refine .store (.t rfl) (.t rfl) (i := 2) rfl ty22 rfl rfl (Ss' := [_, _, _]) rfl (M' := [_, _, (some _, cellM [_, _, _]), _]) rfl ?_
   refine nl ?_
   refine .bln ?_
   refine .thn (k14 _ _ ?_)
   refine .region (st (.addI (.t rfl) (Has.cI 1 rfl) (by first | omega | assumption) (by first | omega | assumption)) rfl ?_)
   refine st (.mv (.t rfl)) rfl ?_
   refine nl ?_
   refine .thn ?_
   have hpl := place_lt (show i < R by omega) (show k < C by omega)
   refine hK11 (⟨(k + 1, gr1), by show k + 1 ≤ C; omega⟩) _ _ ?_ (Cv.trans (Cv.drop ((.cons _ (.cons_cons _ (.cons_cons _ (.cons_cons _ .slnil)))))) (Cv.mem (.cons (t := 19) (Has.t' rfl ?_) (.k 1 rfl (.k 2 rfl (.k 6 rfl (.k 7 rfl (.k 14 rfl (.k 15 rfl (.k 16 rfl (.k 17 rfl (.k 8 rfl (.k 18 rfl .nil))))))))))) ?_))
   ·show C - (k + 1) < C - k; omega
   ·exact isI_eq (by omega)
   ·exact grF_eq (by rw [← tab_succ G (show k < C by omega), List.map_append, List.length_append]; rfl) (by rw [← tab_succ G (show k < C by omega), List.map_append]; rfl)
  ·have hc2 := BP.f hc2
   refine .exit ?_
   refine .the ?_
   refine .the ?_
   refine .blh ?_
   refine .bln ?_
   refine .thn (k8 _ _ ?_)
   refine .region (st (.addI (.t rfl) (Has.cI 1 rfl) (by first | omega | assumption) (by first | omega | assumption)) rfl ?_)
   refine st (.mv (.t rfl)) rfl ?_
   refine nl ?_
   refine .thn ?_
   have hkC : k = C := by omega
   subst hkC
   refine hK5 (⟨(i + 1, g2), by show i + 1 ≤ R; omega⟩) _ _ ?_ (Cv.mem (.cons (t := 15) (Has.t' rfl ?_) (.k 1 rfl (.k 2 rfl (.k 6 rfl (.k 7 rfl (.k 14 rfl .nil)))))) ?_)
   ·show R - (i + 1) < R - i; omega
   ·exact isI_eq (by omega)
   ·exact grF_eq (by rw [tab_next]) (by rw [tab_next])
 ·have hc1 := BP.f hc1
  refine .exit ?_
  refine .the ?_
  refine .the ?_
  refine .blh ?_
  refine .thn (k3 _ _ ?_)
  refine .cv (Cv.wk (.k 6 rfl (.k 7 rfl .nil))) ?_
  refine .seq fun _ k17 => ?_
  refine .cv (Cv.freezeF (k := 2) (i := 0) (j := 0) (o := 2) rfl rfl rfl rfl (gr_lenK zc_len) (gr_takeK zc_len) (Ss' := [_, _, SlK 2 zc ((tab (i * C + 0) C G).map nz)]) rfl) ?_
  refine .memEq (M' := [(some _, cellM [_, _, SlK 2 zc ((tab (i * C + 0) C G).map nz)]), _]) rfl ?_
  refine .cv (Cv.wk (.k 6 rfl (.k 7 rfl .nil))) ?_
  refine .region (st (.load (.t rfl) (i := 0) rfl ty24 rfl (Ss' := [_, _, _]) rfl) rfl ?_)
  refine .store (.t rfl) (.t rfl) (i := 1) rfl ty24 rfl rfl (Ss' := [_, _, _]) rfl (M' := [_, (some _, cellM [_, _, _])]) rfl ?_
  refine nl (.thn (k17 _ _ ?_))
  refine .ret ?_
  refine rt1 (.inl rfl) Try.results58 rfl (.cell rfl (i := 1) rfl ty24 rfl ?_ .nil)
  all_goals (rw [Nat.add_zero, show i = R by omega])
theorem zmat_Of_1 {C i k : Nat} {l : List Int} (hx : l.length ≤ 4096) (hl : i * C + k < l.length) : Ctr Try.prog 59 [isI (i : Int), isI (k : Int), PtrL [SlM isI l], PtrL [isI (C : Int)]] (isZ (cf l (i * C + k))) := by
 refine Ctr.intro Try.func59 rfl (by kernel_rfl) Try.ntmps59 rfl fun w0 F0 => ?_
 refine .cv (Cv.wk (.k 0 rfl (.k 1 rfl (.k 2 rfl (.k 3 rfl .nil))))) ?_
 refine .fact (Has.rngI (Has.t (t := 0) rfl)) fun lt0 => ?_
 refine .fact (Has.rngI (Has.t (t := 1) rfl)) fun lt1 => ?_
 have hcp : ((i : Int) * (C : Int)) = ((i * C : Nat) : Int) := (Int.natCast_mul i C).symm
 refine .seq fun _ k1 => .region (.alloc [isB false, SlM isU []] zero30 (fun _ _ => ⟨rfl, nilM _ _, trivial⟩) rfl fun b1 => ?_)
 refine nl (.thn (k1 _ _ ?_))
 refine .seq fun _ k2 => .region (st (.loadP1 (.t rfl) ty90) rfl ?_)
 refine st (.mv (.t rfl)) rfl (st (.loadP1 (.t rfl) ty3) rfl ?_)
 refine st (.eq (.mulI (.t rfl) (.t rfl) (by first | omega | (rw [hcp]; omega)) (by first | omega | (rw [hcp]; omega))) ((show isI _ = isI ((i * C : Nat) : Int) from isI_eq hcp))) rfl ?_
 refine st (.mv (.t rfl)) rfl (st (.eq (.addI (.t rfl) (.t rfl) (by first | omega | (rw [hcp]; omega)) (by first | omega | (rw [hcp]; omega))) ((show isI _ = isI ((i * C + k : Nat) : Int) from isI_eq (by omega)))) rfl ?_)
 refine st (.ixP sl90 ty2 (.t rfl) (.t rfl) ⟨by omega, by omega⟩ (getD_some (d := 0) (by first | omega | (simp only [Int.toNat_natCast, List.length_set]; omega)))) rfl ?_
 refine st (.loadP1 (.t rfl) ty2) rfl ?_
 refine st (.call (zint_Of) (.cons (.t rfl) .nil)) rfl ?_
 refine .store (.t rfl) (.t rfl) (i := 0) rfl ty30 rfl rfl (Ss' := [_, _]) rfl (M' := [(some _, cellM [_, _])]) rfl ?_
 refine nl (.thn (k2 _ _ ?_))
 refine .cv (Cv.wk (.k 6 rfl .nil)) ?_
 refine .ret ?_
 refine rt1 (.inl rfl) Try.results59 rfl (.cell rfl (i := 0) rfl ty30 rfl ?_ .nil)
 all_goals (rfl)
theorem zmat_Of {R C : Nat} {l : List Int} (hR : R ≤ 64) (hC : C ≤ 64) (hl : l.length = R * C) (hb : ∀ y ∈ l, -9223372036854775808 ≤ y ∧ y < 9223372036854775808) : Ctr Try.prog 24 [isI (R : Int), isI (C : Int), SlM isI l] (isTup [isMz R C (tab (R * C) C fun i k => cf l (i * C + k)), isI 0]) := by
 refine Ctr.intro Try.func24 rfl (by kernel_rfl) Try.ntmps24 rfl fun w0 F0 => ?_
 refine .cv (Cv.wk (.k 0 rfl (.k 1 rfl (.k 2 rfl .nil)))) ?_
 refine .fact (Has.rngI (Has.t (t := 0) rfl)) fun lt0 => ?_
 refine .fact (Has.rngI (Has.t (t := 1) rfl)) fun lt1 => ?_
 refine .fact (Has.lenLt (Has.t (t := 2) rfl)) fun lt2 => ?_
 have hRC := side_le hR hC
 have hcp : ((R : Int) * (C : Int)) = ((R * C : Nat) : Int) := (Int.natCast_mul R C).symm
 refine .seq fun _ k1 => .region (.box (.t rfl) rfl fun b1 => ?_)
 refine .box (.t rfl) rfl fun b2 => ?_
 refine .alloc [isI 0, isI 0, nilS] zero24 (fun _ _ => ⟨⟨rfl, by decide, by decide⟩, ⟨rfl, by decide, by decide⟩, rfl, trivial⟩) rfl fun b3 => ?_
 refine st (.as (Has.cI 0 rfl)) rfl ?_
 refine nl (.thn (k1 _ _ ?_))
 refine .seq fun _ k2 => ?_
 refine .block ?_
 refine .seq fun _ k3 => .region (st (.mv (.t rfl)) rfl ?_)
 refine st (.call (zmat_side) (.cons (.t rfl) .nil)) rfl ?_
 refine st (.not (.t rfl)) rfl ?_
 refine st (.mv (.t rfl)) rfl ?_
 refine stF rfl rfl (fun hg => have hg' := BP.t hg; OK1.load1 (.t rfl) (i := 2) rfl ty3 rfl) rfl ?_
 refine stF rfl rfl (fun hg => have hg' := BP.t hg; OK1.call (zmat_side) (.cons (Has.g rfl hg) .nil)) rfl ?_
 refine stF rfl rfl (fun hg => have hg' := BP.t hg; OK1.not (Has.g rfl hg)) rfl ?_
 refine st (.pickOr (.t rfl) (fun h => Has.g rfl (ng h))) rfl ?_
 refine st (.as (.t rfl)) rfl ?_
 refine nl (.thn (k3 _ _ ?_))
 refine .cv (Cv.wk (.k 0 rfl (.k 4 rfl (.k 5 rfl (.k 6 rfl (.k 7 rfl (.k 8 rfl .nil))))))) ?_
 refine .cond (.t rfl) (fun hc1 => ?_) (fun hc1 => ?_)
 ·have hc1 := BP.t hc1
  omega
 ·have hc1 := BP.f hc1
  refine .seq fun _ k4 => .region (st (.load1 (.t rfl) (i := 1) rfl ty90 rfl) rfl ?_)
  refine st (.len sl90 (.t rfl)) rfl ?_
  refine st (.mv (.t rfl)) rfl (st (.load1 (.t rfl) (i := 2) rfl ty3 rfl) rfl ?_)
  refine st (.mulI (.t rfl) (.t rfl) (by rw [hcp]; omega) (by rw [hcp]; omega)) rfl ?_
  refine st (.neI (.t rfl) (.t rfl)) rfl ?_
  refine st (.as (.t rfl)) rfl ?_
  refine nl (.thn (k4 _ _ ?_))
  refine .cv (Cv.wk (.k 0 rfl (.k 4 rfl (.k 5 rfl (.k 6 rfl (.k 7 rfl (.k 18 rfl .nil))))))) ?_
  refine .cond (.t rfl) (fun hc2 => ?_) (fun hc2 => ?_)
  ·have hc2 := BP.t hc2
   rw [hcp] at hc2; omega
  ·have hc2 := BP.f hc2
   refine .skip ?_
   refine .bln ?_
   refine .thn (k2 _ _ ?_)
   refine .seq fun _ k5 => .region (st (.mv (.t rfl)) rfl ?_)
   refine st (.load1 (.t rfl) (i := 2) rfl ty3 rfl) rfl ?_
   refine .cv (Cv.freezeBox (t := 5) (i := 1) rfl rfl rfl) ?_
   refine .memEq (M' := [_, _]) rfl ?_
   refine .cv (Cv.wk (.k 0 rfl (.k 4 rfl (.k 5 rfl (.k 6 rfl (.k 7 rfl (.k 18 rfl (.k 26 rfl (.k 27 rfl .nil))))))))) ?_
   refine .cv (Cv.freezeBox (t := 4) (i := 1) rfl rfl rfl) ?_
   refine .memEq (M' := [_]) rfl ?_
   refine .cv (Cv.wk (.k 0 rfl (.k 4 rfl (.k 5 rfl (.k 6 rfl (.k 7 rfl (.k 18 rfl (.k 26 rfl (.k 27 rfl .nil))))))))) ?_
   refine st (.makeFn (ι := PI R C) (As := fun p => [isI (p.1.1 : Int), isI (p.1.2 : Int)]) (R := fun p => Flat (zc (nz (cf l (p.1.1 * C + p.1.2))))) (fun p => zmat_Of_1 (by omega) (by rw [hl]; exact place_lt p.2.1 p.2.2)) .nil (.cons (.t rfl) (.cons (.t rfl) .nil))) rfl ?_
   refine st (.call (zmat_made (f := fun i k => nz (cf l (i * C + k))) hR hC (fun i k _ _ => by rw [val_words]; exact Nat.le_trans (bd64 hb _) (by decide))) (.cons (.t rfl) (.cons (.t rfl) (.cons (.t rfl) .nil)))) rfl ?_
   refine .store (.t rfl) (.t rfl) (i := 0) rfl ty24 rfl rfl (Ss' := [_, _, _]) rfl (M' := [(some _, cellM [_, _, _])]) rfl ?_
   refine st (.as (Has.cI 0 rfl)) rfl ?_
   refine nl (.thn (k5 _ _ ?_))
   refine .cv (Cv.wk (.k 6 rfl (.k 7 rfl .nil))) ?_
   refine .ret ?_
   refine rtN (.inl rfl) Try.results24 rfl rfl (.cell rfl (i := 0) rfl ty24 rfl ?_ (.tmp (Has.t' rfl ?_) .nil))
   ·exact isMz_eq (by rw [zvz fun i k => cf l (i * C + k)])
   ·rfl
theorem zmat_At {R C i k : Nat} {xs : List (Bool × List Nat)} {K : Nat} (hx : Bd (vals xs) K) (hK : K ≤ 4000000000) (hR : R ≤ 64) (hC : C ≤ 64) (hl : xs.length = R * C) (hi : i < R) (hk : k < C) : Ctr Try.prog 32 [isM (R : Int) (C : Int) xs, isI (i : Int), isI (k : Int)] (isZ (cf (vals xs) (i * C + k))) := by
 refine Ctr.intro Try.func32 rfl (by kernel_rfl) Try.ntmps32 rfl fun w0 F0 => ?_
 refine .cv (Cv.wk (.k 0 rfl (.k 1 rfl (.k 2 rfl .nil)))) ?_
 refine .fact (Has.rngI (Has.t (t := 1) rfl)) fun lt1 => ?_
 refine .fact (Has.rngI (Has.t (t := 2) rfl)) fun lt2 => ?_
 have hRC := side_le hR hC
 have hpl := place_lt hi hk
 have hfo := formB_true hR hC hl
 have hxr := hx.raw (i * C + k)
 refine .seq fun _ k1 => .region (.box (.t rfl) rfl fun b1 => ?_)
 refine .alloc [isB false, SlM isU []] zero30 (fun _ _ => ⟨rfl, nilM _ _, trivial⟩) rfl fun b2 => ?_
 refine nl (.thn (k1 _ _ ?_))
 refine .seq fun _ k2 => ?_
 refine .seq fun _ k3 => .region (st (.load (.t rfl) (i := 1) rfl ty24 rfl (Ss' := [_, _, _]) rfl) rfl ?_)
 refine st (.eq (.call (zmat_Formed) (.cons (.t rfl) .nil)) ((show isB _ = isB true from isB_eq hfo))) rfl ?_
 refine st (.not (.t rfl)) rfl ?_
 refine st (.mv (.t rfl)) rfl ?_
 refine stF rfl rfl (fun hg => have hg' := BP.t hg; OK1.load (.t rfl) (i := 1) rfl ty24 rfl (Ss' := [_, _, _]) rfl) rfl ?_
 refine stF rfl rfl (fun hg => have hg' := BP.t hg; OK1.mv (.t rfl)) rfl ?_
 refine stF rfl rfl (fun hg => have hg' := BP.t hg; OK1.call (zmat_has) (.cons (Has.g rfl hg) (.cons (Has.g rfl hg) .nil))) rfl ?_
 refine stF rfl rfl (fun hg => have hg' := BP.t hg; OK1.not (Has.g rfl hg)) rfl ?_
 refine st (.pickOr (.t rfl) (fun h => Has.g rfl (ng h))) rfl ?_
 refine st (.mv (.t rfl)) rfl ?_
 refine stF rfl rfl (fun hg => have hg' := BP.t hg; OK1.mv (.t rfl)) rfl ?_
 refine stF rfl rfl (fun hg => have hg' := BP.t hg; OK1.ltI (Has.g rfl hg) (Has.cI 0 rfl)) rfl ?_
 refine st (.pickOr (.t rfl) (fun h => Has.g rfl (ng h))) rfl ?_
 refine st (.mv (.t rfl)) rfl ?_
 refine stF rfl rfl (fun hg => have hg' := BP.t hg; OK1.mv (.t rfl)) rfl ?_
 refine stF rfl rfl (fun hg => have hg' := BP.t hg; OK1.fieldAddr (.t rfl) fld24_1 ty3) rfl ?_
 refine stF rfl rfl (fun hg => have hg' := BP.t hg; OK1.load1 (Has.g rfl hg) (i := 1) rfl ty3 rfl) rfl ?_
 refine stF rfl rfl (fun hg => have hg' := BP.t hg; OK1.geI (Has.g rfl hg) (Has.g rfl hg)) rfl ?_
 refine st (.pickOr (.t rfl) (fun h => Has.g rfl (ng h))) rfl ?_
 refine nl (.thn (k3 _ _ ?_))
 refine .cv (Cv.wk (.k 1 rfl (.k 2 rfl (.k 3 rfl (.k 6 rfl (.k 26 rfl .nil)))))) ?_
 refine .cond (.t rfl) (fun hc1 => ?_) (fun hc1 => ?_)
 ·have hc1 := BP.t hc1
  simp at hc1; omega
 ·have hc1 := BP.f hc1
  refine .skip ?_
  refine .thn (k2 _ _ ?_)
  refine .seq fun _ k4 => .region (st (.load (.t rfl) (i := 1) rfl ty24 rfl (Ss' := [_, _, _]) rfl) rfl ?_)
  refine st (.mv (.t rfl)) rfl (st (.mv (.t rfl)) rfl ?_)
  refine st (.call (zmat_get (i := i) (k := k) (by omega) (by omega)) (.cons (.t rfl) (.cons (.t rfl) (.cons (.t rfl) .nil)))) rfl ?_
  refine .alloc [isB false, SlM isU []] zero30 (fun _ _ => ⟨rfl, nilM _ _, trivial⟩) rfl fun b3 => ?_
  refine .store (.t rfl) (.t rfl) (i := 0) rfl ty30 rfl rfl (Ss' := [_, _]) rfl (M' := [(some _, cellM [_, _]), _, _]) rfl ?_
  refine nl (.thn (k4 _ _ ?_))
  refine .cv (Cv.wk (.k 6 rfl (.k 7 rfl .nil))) ?_
  refine .seq fun _ k5 => .region (st (.fieldAddr (.t rfl) fld30_1 ty28) rfl ?_)
  refine st (.load1 (.t rfl) (i := 0) rfl ty28 rfl) rfl (st (.fieldAddr (.t rfl) fld30_0 ty4) rfl ?_)
  refine st (.load1 (.t rfl) (i := 0) rfl ty4 rfl) rfl (st (.call (zint_From (by first | omega | assumption)) (.cons (.t rfl) (.cons (.t rfl) .nil))) rfl ?_)
  refine .store (.t rfl) (.t rfl) (i := 1) rfl ty30 rfl rfl (Ss' := [_, _]) rfl (M' := [_, (some _, cellM [_, _]), _]) rfl ?_
  refine nl (.thn (k5 _ _ ?_))
  refine .cv (Cv.wk (.k 6 rfl .nil)) ?_
  refine .ret ?_
  refine rt1 (.inl rfl) Try.results32 rfl (.cell rfl (i := 1) rfl ty30 rfl ?_ .nil)
  all_goals (exact isZ_eq (by rw [cf_vals]))
end Go.Proofs.Ythkdmhaafanjlaa
