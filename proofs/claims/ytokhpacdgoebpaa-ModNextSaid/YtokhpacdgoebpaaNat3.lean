/- Contracts: natural numbers (layer 1), the shifts. -/
import Derived.Test.YtokhpacdgoebpaaNat2
import Derived.Test.YtokhpacdgoebpaaNatS
namespace Go.Proofs.Ytokhpacdgoebpaa
open Go.En Go.RowKit
set_option linter.unusedVariables false
set_option maxRecDepth 10000
open Go.Nt
set_option maxHeartbeats 4000000 in
theorem nat_Shl {xs : List Nat} {k : Nat} (hk : k ≤ 1048576) (hx : (List.length (words (val xs))) < 4294900000) : Ctr Try.prog 173 [isWords xs, isI (k : Int)] (isTup [isWords (words (val xs * 2 ^ k)), isB true]) := by
  refine Ctr.intro Try.func173 rfl (by kernel_rfl) Try.ntmps173 rfl fun w0 F0 => ?_
  refine Tri.cv (Cv.wk (.cons (t := 0) (Has.t rfl) (.cons (t := 1) (Has.t rfl) .nil))) ?_
  refine Tri.fact (Has.lenLt (Has.t (t := 0) rfl)) fun lt0 => ?_
  refine Tri.fact (Has.okW (Has.t (t := 0) rfl)) fun ok0 => ?_
  refine Tri.fact (Has.rngI (Has.t (t := 1) rfl)) fun lt1 => ?_
  have e1 : ((k : Int) / 64) = ((k / 64 : Nat) : Int) := by omega
  have e2 : ((k : Int) % 64).toNat = k % 64 := by omega
  refine Tri.seq fun K1 hK1 => ?_
  refine Tri.region ?_
  refine st (OK1.as (Has.cW (f := isU))) rfl ?_
  refine st (OK1.as (Has.cB false)) rfl ?_
  refine nl ?_
  refine At.thn (hK1 _ _ ?_); clear hK1
  refine Tri.seq fun K2 hK2 => ?_
  refine Tri.seq fun K3 hK3 => ?_
  refine Tri.region ?_
  refine st (OK1.mv (Has.t rfl)) rfl ?_
  refine st (OK1.ltI (Has.t rfl) (Has.cI 0 rfl)) rfl ?_
  refine st (OK1.mv (Has.t rfl)) rfl ?_
  refine stF rfl rfl (fun hg => have hg' := BP.t hg; OK1.mv (Has.t rfl)) rfl ?_
  refine stF rfl rfl (fun hg => have hg' := BP.t hg; OK1.gtI (Has.g rfl hg) (Has.cI 1048576 rfl)) rfl ?_
  refine st (OK1.pickOr (Has.t rfl) (fun h => Has.g rfl (ng h))) rfl ?_
  refine nl ?_
  refine At.thn (hK3 _ _ ?_); clear hK3
  refine Tri.cv (Cv.wk (.cons (t := 0) (Has.t rfl) (.cons (t := 1) (Has.t rfl) (.cons (t := 4) (Has.t rfl) (.cons (t := 5) (Has.t rfl) (.cons (t := 16) (Has.t rfl) .nil)))))) ?_
  refine Tri.cond (Has.t rfl) (fun hc1 => ?_) (fun hc1 => ?_)
  · have hc1 := BP.t hc1
    exfalso; first | omega | contradiction | (revert hc1; simp)
  · have hc1 := BP.f hc1
    refine Tri.skip ?_
    refine At.thn (hK2 _ _ ?_); clear hK2
    refine Tri.seq fun K4 hK4 => ?_
    refine Tri.region ?_
    refine st (OK1.mv (Has.t rfl)) rfl ?_
    refine st (OK1.call (nat_trim) (.cons (Has.t rfl) .nil)) rfl ?_
    refine st (OK1.as (Has.t rfl)) rfl ?_
    refine nl ?_
    refine At.thn (hK4 _ _ ?_); clear hK4
    refine Tri.seq fun K5 hK5 => ?_
    refine Tri.region ?_
    refine st (OK1.mv (Has.t rfl)) rfl ?_
    refine st (OK1.eq (OK1.quoI (Has.t rfl) (Has.cI 64 rfl) (by first | omega | assumption | exact True.intro | exact dig_lt _ _ | exact car_le _ _ _ | exact bor_le _ _ _) (by first | omega | assumption | exact True.intro | exact dig_lt _ _ | exact car_le _ _ _ | exact bor_le _ _ _) (by first | omega | assumption | exact True.intro | exact dig_lt _ _ | exact car_le _ _ _ | exact bor_le _ _ _)) (isI_eq e1)) rfl ?_
    refine st (OK1.mv (Has.t rfl)) rfl ?_
    refine st (OK1.remI (Has.t rfl) (Has.cI 64 rfl) (by first | omega | assumption | exact True.intro | exact dig_lt _ _ | exact car_le _ _ _ | exact bor_le _ _ _) (by first | omega | assumption | exact True.intro | exact dig_lt _ _ | exact car_le _ _ _ | exact bor_le _ _ _) (by first | omega | assumption | exact True.intro | exact dig_lt _ _ | exact car_le _ _ _ | exact bor_le _ _ _)) rfl ?_
    refine st (OK1.eq (OK1.convIU un3 un164 (Has.t rfl) (by first | omega | assumption | exact True.intro | exact dig_lt _ _ | exact car_le _ _ _ | exact bor_le _ _ _) (by first | omega | assumption | exact True.intro | exact dig_lt _ _ | exact car_le _ _ _ | exact bor_le _ _ _)) (isU_eq e2)) rfl ?_
    refine st (OK1.as (Has.t rfl)) rfl ?_
    refine st (OK1.as (Has.t rfl)) rfl ?_
    refine nl ?_
    refine At.thn (hK5 _ _ ?_); clear hK5
    refine Tri.cv (Cv.wk (.cons (t := 0) (Has.t rfl) (.cons (t := 4) (Has.t rfl) (.cons (t := 5) (Has.t rfl) (.cons (t := 6) (Has.t rfl) (.cons (t := 7) (Has.t rfl) .nil)))))) ?_
    refine Tri.seq fun K6 hK6 => ?_
    refine Tri.region ?_
    refine st (OK1.mv (Has.t rfl)) rfl ?_
    refine st (OK1.len sl53 (Has.t rfl)) rfl ?_
    refine st (OK1.mv (Has.t rfl)) rfl ?_
    refine st (OK1.addI (Has.t rfl) (Has.t rfl) (by first | omega | assumption | exact True.intro | exact dig_lt _ _ | exact car_le _ _ _ | exact bor_le _ _ _) (by first | omega | assumption | exact True.intro | exact dig_lt _ _ | exact car_le _ _ _ | exact bor_le _ _ _)) rfl ?_
    refine st (OK1.addI (Has.t rfl) (Has.cI 1 rfl) (by first | omega | assumption | exact True.intro | exact dig_lt _ _ | exact car_le _ _ _ | exact bor_le _ _ _) (by first | omega | assumption | exact True.intro | exact dig_lt _ _ | exact car_le _ _ _ | exact bor_le _ _ _)) rfl ?_
    refine Ops.make (f := isU) (u := 0) (n := (List.length (words (val xs))) + k / 64 + 1) (c := (List.length (words (val xs))) + k / 64 + 1) sl53 ty27 zero27 (fun _ _ => ⟨⟨rfl, by decide⟩, trivial⟩) by27 (Has.t' rfl rfl) (Has.t' rfl rfl) ⟨by omega, by omega⟩ rfl fun b1 => ?_
    refine st (OK1.as (Has.t rfl)) rfl ?_
    refine nl ?_
    refine At.thn (hK6 _ _ ?_); clear hK6
    refine Tri.cv (Cv.wk (.cons (t := 0) (Has.t rfl) (.cons (t := 4) (Has.t rfl) (.cons (t := 5) (Has.t rfl) (.cons (t := 6) (Has.t rfl) (.cons (t := 7) (Has.t rfl) (.cons (t := 8) (Has.t rfl) .nil))))))) ?_
    refine Tri.seq fun K7 hK7 => ?_
    refine Tri.seq fun K8 hK8 => ?_
    refine Tri.region ?_
    refine st (OK1.mv (Has.t rfl)) rfl ?_
    refine st (OK1.len sl53 (Has.t rfl)) rfl ?_
    refine st (OK1.mv (Has.cI 0 rfl)) rfl ?_
    refine nl ?_
    refine At.thn (hK8 _ _ ?_); clear hK8
    refine Tri.block ?_
    refine Tri.loopF [4, 5, 6, 7, 8, 30, 31] (fun (z : { i : Nat // i ≤ (List.length (words (val xs))) }) => match z with | ⟨i, hI⟩ => [(32, isI (i : Int))]) (fun M => fun (z : { i : Nat // i ≤ (List.length (words (val xs))) }) => match z with | ⟨i, hI⟩ => [(some b1, cellM (List.map isU (wordsN ((List.length (words (val xs))) + k / 64 + 1) (val xs % W ^ i * 2 ^ k))))]) (fun (z : { i : Nat // i ≤ (List.length (words (val xs))) }) => match z with | ⟨i, hI⟩ => (List.length (words (val xs))) - i) (⟨0, Nat.zero_le _⟩) (Cv.mem (.cons (t := 32) (Has.t' rfl ?_) (.cons (t := 4) (Has.t rfl) (.cons (t := 5) (Has.t rfl) (.cons (t := 6) (Has.t rfl) (.cons (t := 7) (Has.t rfl) (.cons (t := 8) (Has.t rfl) (.cons (t := 30) (Has.t rfl) (.cons (t := 31) (Has.t rfl) .nil)))))))) ?_) ?_
    · rfl
    · exact memL_eq (shlStart _ _ _)
    rintro ⟨i, hI⟩ K9 hK9
    refine Tri.cv (Cv.wk (.cons (t := 32) (Has.t rfl) (.cons (t := 4) (Has.t rfl) (.cons (t := 5) (Has.t rfl) (.cons (t := 6) (Has.t rfl) (.cons (t := 7) (Has.t rfl) (.cons (t := 8) (Has.t rfl) (.cons (t := 30) (Has.t rfl) (.cons (t := 31) (Has.t rfl) .nil))))))))) ?_
    refine Tri.memEq (M' := [(some b1, cellM (List.map isU (wordsN ((List.length (words (val xs))) + k / 64 + 1) (val xs % W ^ i * 2 ^ k))))]) rfl ?_
    have wl : (wordsN ((List.length (words (val xs))) + k / 64 + 1) (val xs % W ^ i * 2 ^ k)).length = (List.length (words (val xs))) + k / 64 + 1 := wordsN_len _ _
    have ek : (((k / 64 : Nat) : Int) + (i : Int)).toNat = k / 64 + i := by omega
    refine Tri.seq fun K10 hK10 => ?_
    refine Tri.region ?_
    refine st (OK1.ltI (Has.t rfl) (Has.t rfl)) rfl ?_
    refine nl ?_
    refine At.thn (hK10 _ _ ?_); clear hK10
    refine Tri.seq fun K11 hK11 => ?_
    refine Tri.cond (Has.t rfl) (fun hc2 => ?_) (fun hc2 => ?_)
    · have hc2 := BP.t hc2
      refine Tri.skip ?_
      refine At.thn (hK11 _ _ ?_); clear hK11
      refine Tri.seq fun K12 hK12 => ?_
      refine Tri.block ?_
      refine Tri.seq fun K13 hK13 => ?_
      refine Tri.region ?_
      refine st (OK1.mv (Has.t rfl)) rfl ?_
      refine st (OK1.ixP sl53 ty27 (Has.t rfl) (Has.t rfl) ⟨by omega, by omega⟩ (getD_some (d := 0) (by first | omega | (simp only [Int.toNat_natCast, List.length_set]; omega)))) rfl ?_
      refine st (OK1.eq (OK1.loadP1 (Has.t rfl) ty27) (isU_eq (getD_words _ i))) rfl ?_
      refine st (OK1.as (Has.t rfl)) rfl ?_
      refine st (OK1.as (Has.t rfl)) rfl ?_
      refine nl ?_
      refine At.thn (hK13 _ _ ?_); clear hK13
      refine Tri.seq fun K14 hK14 => ?_
      refine Tri.region ?_
      refine st (OK1.mv (Has.t rfl)) rfl ?_
      refine st (OK1.mv (Has.t rfl)) rfl ?_
      refine st (OK1.mv (Has.t rfl)) rfl ?_
      refine st (OK1.addI (Has.t rfl) (Has.t rfl) (by first | omega | assumption | exact True.intro | exact dig_lt _ _ | exact car_le _ _ _ | exact bor_le _ _ _) (by first | omega | assumption | exact True.intro | exact dig_lt _ _ | exact car_le _ _ _ | exact bor_le _ _ _)) rfl ?_
      refine st (OK1.eq (OK1.ixWin sl53 ty27 (Has.t rfl) (Has.t rfl) ⟨by omega, by omega⟩) (isPtr_eq (by first | exact ixo0 | exact ixo2 | exact ixo1))) rfl ?_
      refine st (OK1.eq (OK1.load1 (Has.t rfl) (i := 0) rfl ty27 (map_some (getD_some (d := 0) (by first | omega | (simp only [Int.toNat_natCast, List.length_set]; omega))))) ((show isU _ = isU (val xs % W ^ i * 2 ^ k / W ^ (k / 64 + i)) from isU_eq (by rw [ek]; exact shl_get (by omega))))) rfl ?_
      refine st (OK1.mv (Has.t rfl)) rfl ?_
      refine st (OK1.mv (Has.t rfl)) rfl ?_
      refine st (OK1.shlUU (Has.t rfl) (Has.t rfl) (by first | omega | assumption | exact True.intro | exact dig_lt _ _ | exact car_le _ _ _ | exact bor_le _ _ _)) rfl ?_
      refine st (OK1.orU (Has.t rfl) (Has.t rfl)) rfl ?_
      refine st (OK1.eq (OK1.ixWin sl53 ty27 (Has.t rfl) (Has.t rfl) ⟨by omega, by omega⟩) (isPtr_eq (by first | exact ixo0 | exact ixo2 | exact ixo1))) rfl ?_
      refine Ops.storeM (Has.t rfl) (Has.t rfl) (i := 0) rfl ty27 (by first | omega | (simp only [Int.toNat_natCast, List.length_set, List.length_replicate]; omega)) (M' := [(_, _)]) rfl ?_
      refine nl ?_
      refine At.thn (hK14 _ _ ?_); clear hK14
      refine Tri.seq fun K15 hK15 => ?_
      refine Tri.region ?_
      refine st (OK1.mv (Has.t rfl)) rfl ?_
      refine st (OK1.gtU (Has.t rfl) (Has.cU 0 rfl)) rfl ?_
      refine nl ?_
      refine At.thn (hK15 _ _ ?_); clear hK15
      refine Tri.cond (Has.t rfl) (fun hc3 => ?_) (fun hc3 => ?_)
      · have hc3 := BP.t hc3
        refine Tri.region ?_
        refine st (OK1.mv (Has.t rfl)) rfl ?_
        refine st (OK1.mv (Has.t rfl)) rfl ?_
        refine st (OK1.mv (Has.t rfl)) rfl ?_
        refine st (OK1.addI (Has.t rfl) (Has.t rfl) (by first | omega | assumption | exact True.intro | exact dig_lt _ _ | exact car_le _ _ _ | exact bor_le _ _ _) (by first | omega | assumption | exact True.intro | exact dig_lt _ _ | exact car_le _ _ _ | exact bor_le _ _ _)) rfl ?_
        refine st (OK1.addI (Has.t rfl) (Has.cI 1 rfl) (by first | omega | assumption | exact True.intro | exact dig_lt _ _ | exact car_le _ _ _ | exact bor_le _ _ _) (by first | omega | assumption | exact True.intro | exact dig_lt _ _ | exact car_le _ _ _ | exact bor_le _ _ _)) rfl ?_
        refine st (OK1.mv (Has.t rfl)) rfl ?_
        refine st (OK1.mv (Has.t rfl)) rfl ?_
        refine st (OK1.subU' (Has.cU 64 rfl) (Has.t rfl) (by first | omega | assumption | exact True.intro | exact dig_lt _ _ | exact car_le _ _ _ | exact bor_le _ _ _) (by first | omega | assumption | exact True.intro | exact dig_lt _ _ | exact car_le _ _ _ | exact bor_le _ _ _)) rfl ?_
        refine st (OK1.shrUU (Has.t rfl) (Has.t rfl) (by first | omega | assumption | exact True.intro | exact dig_lt _ _ | exact car_le _ _ _ | exact bor_le _ _ _)) rfl ?_
        refine st (OK1.eq (OK1.ixWin sl53 ty27 (Has.t rfl) (Has.t rfl) ⟨by omega, by omega⟩) (isPtr_eq (by first | exact ixo0 | exact ixo2 | exact ixo1))) rfl ?_
        refine Ops.storeM (Has.t rfl) (Has.t rfl) (i := 0) rfl ty27 (by first | omega | (simp only [Int.toNat_natCast, List.length_set, List.length_replicate]; omega)) (M' := [(_, _)]) rfl ?_
        refine nl ?_
        refine At.bln ?_
        refine At.thn (hK12 _ _ ?_); clear hK12
        refine Tri.region ?_
        refine st (OK1.addI (Has.t rfl) (Has.cI 1 rfl) (by first | omega | assumption | exact True.intro | exact dig_lt _ _ | exact car_le _ _ _ | exact bor_le _ _ _) (by first | omega | assumption | exact True.intro | exact dig_lt _ _ | exact car_le _ _ _ | exact bor_le _ _ _)) rfl ?_
        refine st (OK1.mv (Has.t rfl)) rfl ?_
        refine nl ?_
        refine At.thn ?_
        refine hK9 (⟨i + 1, by omega⟩) _ _ ?_ (Cv.mem (.cons (t := 32) (Has.t' rfl ?_) (.cons (t := 4) (Has.t rfl) (.cons (t := 5) (Has.t rfl) (.cons (t := 6) (Has.t rfl) (.cons (t := 7) (Has.t rfl) (.cons (t := 8) (Has.t rfl) (.cons (t := 30) (Has.t rfl) (.cons (t := 31) (Has.t rfl) .nil)))))))) ?_)
        · show (List.length (words (val xs))) - (i + 1) < (List.length (words (val xs))) - i; omega
        · rfl
        · exact memL_eq (by rw [ek, shl_set1 (by omega) rfl]; exact shl_set2 (by omega) (by omega) (by omega) rfl)
      · have hc3 := BP.f hc3
        refine Tri.skip ?_
        refine At.bln ?_
        refine At.thn (hK12 _ _ ?_); clear hK12
        refine Tri.region ?_
        refine st (OK1.addI (Has.t rfl) (Has.cI 1 rfl) (by first | omega | assumption | exact True.intro | exact dig_lt _ _ | exact car_le _ _ _ | exact bor_le _ _ _) (by first | omega | assumption | exact True.intro | exact dig_lt _ _ | exact car_le _ _ _ | exact bor_le _ _ _)) rfl ?_
        refine st (OK1.mv (Has.t rfl)) rfl ?_
        refine nl ?_
        refine At.thn ?_
        refine hK9 (⟨i + 1, by omega⟩) _ _ ?_ (Cv.mem (.cons (t := 32) (Has.t' rfl ?_) (.cons (t := 4) (Has.t rfl) (.cons (t := 5) (Has.t rfl) (.cons (t := 6) (Has.t rfl) (.cons (t := 7) (Has.t rfl) (.cons (t := 8) (Has.t rfl) (.cons (t := 30) (Has.t rfl) (.cons (t := 31) (Has.t rfl) .nil)))))))) ?_)
        · show (List.length (words (val xs))) - (i + 1) < (List.length (words (val xs))) - i; omega
        · rfl
        · exact memL_eq (by rw [ek, shl_set1 (by omega) rfl]; exact shl_end0 (by omega) (by omega))
    · have hc2 := BP.f hc2
      refine Tri.exit ?_
      refine At.the ?_
      refine At.the ?_
      refine At.blh ?_
      refine At.thn (hK7 _ _ ?_); clear hK7
      refine Tri.cv (Cv.wk (.cons (t := 4) (Has.t rfl) (.cons (t := 5) (Has.t rfl) (.cons (t := 8) (Has.t rfl) .nil)))) ?_
      refine Tri.seq fun K16 hK16 => ?_
      refine Tri.cv (Cv.freeze' (t := 8) (i := 0) (ys := wordsN ((List.length (words (val xs))) + k / 64 + 1) (val xs % W ^ i * 2 ^ k)) rfl rfl rfl (by simp; omega) (freeze_all (by rw [wl]))) ?_
      refine Tri.memEq (M' := []) rfl ?_
      refine Tri.cv (Cv.wk (.cons (t := 4) (Has.t rfl) (.cons (t := 5) (Has.t rfl) (.cons (t := 8) (Has.t rfl) .nil)))) ?_
      refine Tri.region ?_
      refine st (OK1.mv (Has.t rfl)) rfl ?_
      refine st (OK1.call (nat_normal) (.cons (Has.t rfl) .nil)) rfl ?_
      refine st (OK1.as (Has.t rfl)) rfl ?_
      refine st (OK1.as (Has.cB true)) rfl ?_
      refine nl ?_
      refine At.thn (hK16 _ _ ?_); clear hK16
      refine Tri.ret ?_
      refine rtN (.inl rfl) Try.results173 rfl rfl (.tmp (Has.t' rfl ?_) (.tmp (Has.t' rfl ?_) .nil))
      · obtain rfl : i = (List.length (words (val xs))) := (by omega); exact SlM_eq (shlEnd rfl)
      · rfl

set_option maxHeartbeats 4000000 in
theorem nat_Shr {xs : List Nat} {k : Nat} (hk : k < 9223372036854775808) (hx : (List.length (words (val xs))) < 4294900000) : Ctr Try.prog 175 [isWords xs, isI (k : Int)] (isTup [isWords (words (val xs / 2 ^ k)), isB true]) := by
  refine Ctr.intro Try.func175 rfl (by kernel_rfl) Try.ntmps175 rfl fun w0 F0 => ?_
  refine Tri.cv (Cv.wk (.cons (t := 0) (Has.t rfl) (.cons (t := 1) (Has.t rfl) .nil))) ?_
  refine Tri.fact (Has.lenLt (Has.t (t := 0) rfl)) fun lt0 => ?_
  refine Tri.fact (Has.okW (Has.t (t := 0) rfl)) fun ok0 => ?_
  refine Tri.fact (Has.rngI (Has.t (t := 1) rfl)) fun lt1 => ?_
  have e1 : ((k : Int) / 64) = ((k / 64 : Nat) : Int) := by omega
  have e2 : ((k : Int) % 64).toNat = k % 64 := by omega
  have nX := nw_div (val xs) (k / 64)
  refine Tri.seq fun K1 hK1 => ?_
  refine Tri.region ?_
  refine st (OK1.as (Has.cW (f := isU))) rfl ?_
  refine st (OK1.as (Has.cB false)) rfl ?_
  refine nl ?_
  refine At.thn (hK1 _ _ ?_); clear hK1
  refine Tri.seq fun K2 hK2 => ?_
  refine Tri.seq fun K3 hK3 => ?_
  refine Tri.region ?_
  refine st (OK1.mv (Has.t rfl)) rfl ?_
  refine st (OK1.ltI (Has.t rfl) (Has.cI 0 rfl)) rfl ?_
  refine nl ?_
  refine At.thn (hK3 _ _ ?_); clear hK3
  refine Tri.cond (Has.t rfl) (fun hc1 => ?_) (fun hc1 => ?_)
  · have hc1 := BP.t hc1
    exfalso; first | omega | contradiction | (revert hc1; simp)
  · have hc1 := BP.f hc1
    refine Tri.skip ?_
    refine At.thn (hK2 _ _ ?_); clear hK2
    refine Tri.seq fun K4 hK4 => ?_
    refine Tri.region ?_
    refine st (OK1.mv (Has.t rfl)) rfl ?_
    refine st (OK1.call (nat_trim) (.cons (Has.t rfl) .nil)) rfl ?_
    refine st (OK1.as (Has.t rfl)) rfl ?_
    refine nl ?_
    refine At.thn (hK4 _ _ ?_); clear hK4
    refine Tri.seq fun K5 hK5 => ?_
    refine Tri.region ?_
    refine st (OK1.mv (Has.t rfl)) rfl ?_
    refine st (OK1.eq (OK1.quoI (Has.t rfl) (Has.cI 64 rfl) (by first | omega | assumption | exact True.intro | exact dig_lt _ _ | exact car_le _ _ _ | exact bor_le _ _ _) (by first | omega | assumption | exact True.intro | exact dig_lt _ _ | exact car_le _ _ _ | exact bor_le _ _ _) (by first | omega | assumption | exact True.intro | exact dig_lt _ _ | exact car_le _ _ _ | exact bor_le _ _ _)) (isI_eq e1)) rfl ?_
    refine st (OK1.mv (Has.t rfl)) rfl ?_
    refine st (OK1.remI (Has.t rfl) (Has.cI 64 rfl) (by first | omega | assumption | exact True.intro | exact dig_lt _ _ | exact car_le _ _ _ | exact bor_le _ _ _) (by first | omega | assumption | exact True.intro | exact dig_lt _ _ | exact car_le _ _ _ | exact bor_le _ _ _) (by first | omega | assumption | exact True.intro | exact dig_lt _ _ | exact car_le _ _ _ | exact bor_le _ _ _)) rfl ?_
    refine st (OK1.eq (OK1.convIU un3 un164 (Has.t rfl) (by first | omega | assumption | exact True.intro | exact dig_lt _ _ | exact car_le _ _ _ | exact bor_le _ _ _) (by first | omega | assumption | exact True.intro | exact dig_lt _ _ | exact car_le _ _ _ | exact bor_le _ _ _)) (isU_eq e2)) rfl ?_
    refine st (OK1.as (Has.t rfl)) rfl ?_
    refine st (OK1.as (Has.t rfl)) rfl ?_
    refine nl ?_
    refine At.thn (hK5 _ _ ?_); clear hK5
    refine Tri.cv (Cv.wk (.cons (t := 0) (Has.t rfl) (.cons (t := 4) (Has.t rfl) (.cons (t := 5) (Has.t rfl) (.cons (t := 6) (Has.t rfl) (.cons (t := 7) (Has.t rfl) .nil)))))) ?_
    refine Tri.seq fun K6 hK6 => ?_
    refine Tri.seq fun K7 hK7 => ?_
    refine Tri.region ?_
    refine st (OK1.mv (Has.t rfl)) rfl ?_
    refine st (OK1.mv (Has.t rfl)) rfl ?_
    refine st (OK1.len sl53 (Has.t rfl)) rfl ?_
    refine st (OK1.geI (Has.t rfl) (Has.t rfl)) rfl ?_
    refine nl ?_
    refine At.thn (hK7 _ _ ?_); clear hK7
    refine Tri.cond (Has.t rfl) (fun hc2 => ?_) (fun hc2 => ?_)
    · have hc2 := BP.t hc2
      refine Tri.seq fun K8 hK8 => ?_
      refine Tri.region ?_
      refine st (OK1.as (Has.cW (f := isU))) rfl ?_
      refine st (OK1.as (Has.cB true)) rfl ?_
      refine nl ?_
      refine At.thn (hK8 _ _ ?_); clear hK8
      refine Tri.ret ?_
      refine At.thr ?_
      refine rtN (.inl rfl) Try.results175 rfl rfl (.tmp (Has.t' rfl ?_) (.tmp (Has.t' rfl ?_) .nil))
      · exact SlM_eq (shr_none (by omega))
      · rfl
    · have hc2 := BP.f hc2
      refine Tri.skip ?_
      refine At.thn (hK6 _ _ ?_); clear hK6
      refine Tri.seq fun K9 hK9 => ?_
      refine Tri.region ?_
      refine st (OK1.mv (Has.t rfl)) rfl ?_
      refine st (OK1.mv (Has.t rfl)) rfl ?_
      refine st (OK1.eq (OK1.slLM sl53 ty27 (Has.t rfl) (Has.t rfl) ⟨by omega, by omega⟩) (SlM_eq (drop_words (val xs) (k / 64)))) rfl ?_
      refine st (OK1.as (Has.t rfl)) rfl ?_
      refine nl ?_
      refine At.thn (hK9 _ _ ?_); clear hK9
      refine Tri.cv (Cv.wk (.cons (t := 0) (Has.t rfl) (.cons (t := 4) (Has.t rfl) (.cons (t := 5) (Has.t rfl) (.cons (t := 7) (Has.t rfl) .nil))))) ?_
      refine Tri.seq fun K10 hK10 => ?_
      refine Tri.region ?_
      refine st (OK1.mv (Has.t rfl)) rfl ?_
      refine st (OK1.len sl53 (Has.t rfl)) rfl ?_
      refine Ops.make (f := isU) (u := 0) (n := (List.length (words (val xs / W ^ (k / 64))))) (c := (List.length (words (val xs / W ^ (k / 64))))) sl53 ty27 zero27 (fun _ _ => ⟨⟨rfl, by decide⟩, trivial⟩) by27 (Has.t' rfl rfl) (Has.t' rfl rfl) ⟨by omega, by omega⟩ rfl fun b1 => ?_
      refine st (OK1.as (Has.t rfl)) rfl ?_
      refine nl ?_
      refine At.thn (hK10 _ _ ?_); clear hK10
      refine Tri.seq fun K11 hK11 => ?_
      refine Tri.seq fun K12 hK12 => ?_
      refine Tri.region ?_
      refine st (OK1.mv (Has.t rfl)) rfl ?_
      refine st (OK1.len sl53 (Has.t rfl)) rfl ?_
      refine st (OK1.mv (Has.cI 0 rfl)) rfl ?_
      refine nl ?_
      refine At.thn (hK12 _ _ ?_); clear hK12
      refine Tri.block ?_
      refine Tri.loopF [0, 4, 5, 7, 8, 30, 31] (fun (z : { i : Nat // i ≤ (List.length (words (val xs / W ^ (k / 64)))) }) => match z with | ⟨i, hI⟩ => [(32, isI (i : Int))]) (fun M => fun (z : { i : Nat // i ≤ (List.length (words (val xs / W ^ (k / 64)))) }) => match z with | ⟨i, hI⟩ => [(some b1, cellM (List.map isU (wpart ((val xs / W ^ (k / 64)) / 2 ^ (k % 64)) i ((List.length (words (val xs / W ^ (k / 64))))))))]) (fun (z : { i : Nat // i ≤ (List.length (words (val xs / W ^ (k / 64)))) }) => match z with | ⟨i, hI⟩ => (List.length (words (val xs / W ^ (k / 64)))) - i) (⟨0, Nat.zero_le _⟩) (Cv.mem (.cons (t := 32) (Has.t' rfl ?_) (.cons (t := 0) (Has.t rfl) (.cons (t := 4) (Has.t rfl) (.cons (t := 5) (Has.t rfl) (.cons (t := 7) (Has.t rfl) (.cons (t := 8) (Has.t rfl) (.cons (t := 30) (Has.t rfl) (.cons (t := 31) (Has.t rfl) .nil)))))))) ?_) ?_
      · rfl
      · exact memL_eq (wpart_zero _ _)
      rintro ⟨i, hI⟩ K13 hK13
      refine Tri.cv (Cv.wk (.cons (t := 32) (Has.t rfl) (.cons (t := 0) (Has.t rfl) (.cons (t := 4) (Has.t rfl) (.cons (t := 5) (Has.t rfl) (.cons (t := 7) (Has.t rfl) (.cons (t := 8) (Has.t rfl) (.cons (t := 30) (Has.t rfl) (.cons (t := 31) (Has.t rfl) .nil))))))))) ?_
      refine Tri.memEq (M' := [(some b1, cellM (List.map isU (wpart ((val xs / W ^ (k / 64)) / 2 ^ (k % 64)) i ((List.length (words (val xs / W ^ (k / 64))))))))]) rfl ?_
      have wl : (wpart ((val xs / W ^ (k / 64)) / 2 ^ (k % 64)) i ((List.length (words (val xs / W ^ (k / 64)))))).length = (List.length (words (val xs / W ^ (k / 64)))) := wpart_len (by omega)
      refine Tri.seq fun K14 hK14 => ?_
      refine Tri.region ?_
      refine st (OK1.ltI (Has.t rfl) (Has.t rfl)) rfl ?_
      refine nl ?_
      refine At.thn (hK14 _ _ ?_); clear hK14
      refine Tri.seq fun K15 hK15 => ?_
      refine Tri.cond (Has.t rfl) (fun hc3 => ?_) (fun hc3 => ?_)
      · have hc3 := BP.t hc3
        refine Tri.skip ?_
        refine At.thn (hK15 _ _ ?_); clear hK15
        refine Tri.seq fun K16 hK16 => ?_
        refine Tri.block ?_
        refine Tri.seq fun K17 hK17 => ?_
        refine Tri.region ?_
        refine st (OK1.mv (Has.t rfl)) rfl ?_
        refine st (OK1.ixP sl53 ty27 (Has.t rfl) (Has.t rfl) ⟨by omega, by omega⟩ (getD_some (d := 0) (by first | omega | (simp only [Int.toNat_natCast, List.length_set]; omega)))) rfl ?_
        refine st (OK1.eq (OK1.loadP1 (Has.t rfl) ty27) (isU_eq (getD_words _ i))) rfl ?_
        refine st (OK1.as (Has.t rfl)) rfl ?_
        refine st (OK1.as (Has.t rfl)) rfl ?_
        refine nl ?_
        refine At.thn (hK17 _ _ ?_); clear hK17
        refine Tri.seq fun K18 hK18 => ?_
        refine Tri.region ?_
        refine st (OK1.mv (Has.t rfl)) rfl ?_
        refine st (OK1.mv (Has.t rfl)) rfl ?_
        refine st (OK1.mv (Has.t rfl)) rfl ?_
        refine st (OK1.mv (Has.t rfl)) rfl ?_
        refine st (OK1.shrUU (Has.t rfl) (Has.t rfl) (by first | omega | assumption | exact True.intro | exact dig_lt _ _ | exact car_le _ _ _ | exact bor_le _ _ _)) rfl ?_
        refine st (OK1.eq (OK1.ixWin sl53 ty27 (Has.t rfl) (Has.t rfl) ⟨by omega, by omega⟩) (isPtr_eq (by first | exact ixo0 | exact ixo2 | exact ixo1))) rfl ?_
        refine Ops.storeM (Has.t rfl) (Has.t rfl) (i := 0) rfl ty27 (by first | omega | (simp only [Int.toNat_natCast, List.length_set, List.length_replicate]; omega)) (M' := [(_, _)]) rfl ?_
        refine nl ?_
        refine At.thn (hK18 _ _ ?_); clear hK18
        refine Tri.seq fun K19 hK19 => ?_
        refine Tri.region ?_
        refine st (OK1.mv (Has.t rfl)) rfl ?_
        refine st (OK1.gtU (Has.t rfl) (Has.cU 0 rfl)) rfl ?_
        refine st (OK1.mv (Has.t rfl)) rfl ?_
        refine stT rfl rfl (fun hg => have hg' := BP.t hg; OK1.mv (Has.t rfl)) rfl ?_
        refine stT rfl rfl (fun hg => have hg' := BP.t hg; OK1.addI (Has.g rfl hg) (Has.cI 1 rfl) (by first | omega | assumption | exact True.intro | exact dig_lt _ _ | exact car_le _ _ _ | exact bor_le _ _ _) (by first | omega | assumption | exact True.intro | exact dig_lt _ _ | exact car_le _ _ _ | exact bor_le _ _ _)) rfl ?_
        refine stT rfl rfl (fun hg => have hg' := BP.t hg; OK1.mv (Has.t rfl)) rfl ?_
        refine stT rfl rfl (fun hg => have hg' := BP.t hg; OK1.len sl53 (Has.g rfl hg)) rfl ?_
        refine stT rfl rfl (fun hg => have hg' := BP.t hg; OK1.ltI (Has.g rfl hg) (Has.g rfl hg)) rfl ?_
        refine st (OK1.pickAnd (Has.t rfl) (fun h => Has.g rfl h)) rfl ?_
        refine nl ?_
        refine At.thn (hK19 _ _ ?_); clear hK19
        refine Tri.cond (Has.t rfl) (fun hc4 => ?_) (fun hc4 => ?_)
        · have hc4 := BP.t hc4
          refine Tri.dr ?_
          refine DrG.st (i := 0) [] rfl rfl rfl (by kernel_rfl) (OKG.o rfl (OK1.mv (Has.t rfl))) ?_
          refine DrG.st (i := 1) [] rfl rfl rfl (by kernel_rfl) (OKG.o rfl (OK1.mv (Has.t rfl))) ?_
          refine DrG.st (i := 2) [52, 53] rfl rfl rfl (by kernel_rfl) (OKG.o rfl (OK1.eq (OK1.ixWin sl53 ty27 (Has.t rfl) (Has.t rfl) ⟨by omega, by omega⟩) (isPtr_eq (by first | exact ixo0 | exact ixo2 | exact ixo1)))) ?_
          refine DrG.st (i := 3) [54] rfl rfl rfl (by kernel_rfl) (OKG.o rfl (OK1.load1 (Has.t rfl) (i := 0) rfl ty27 (map_some (getD_some (d := 0) (by first | omega | (simp only [Int.toNat_natCast, List.length_set]; omega)))))) ?_
          refine DrG.st (i := 4) [] rfl rfl rfl (by kernel_rfl) (OKG.o rfl (OK1.mv (Has.t rfl))) ?_
          refine DrG.st (i := 5) [] rfl rfl rfl (by kernel_rfl) (OKG.o rfl (OK1.mv (Has.t rfl))) ?_
          refine DrG.st (i := 6) [57] rfl rfl rfl (by kernel_rfl) (OKG.o rfl (OK1.addI (Has.t rfl) (Has.cI 1 rfl) (by first | omega | assumption | exact True.intro | exact dig_lt _ _ | exact car_le _ _ _ | exact bor_le _ _ _) (by first | omega | assumption | exact True.intro | exact dig_lt _ _ | exact car_le _ _ _ | exact bor_le _ _ _))) ?_
          refine DrG.st (i := 7) [56, 58] rfl rfl rfl (by kernel_rfl) (OKG.o rfl (OK1.ixP sl53 ty27 (Has.t rfl) (Has.t rfl) ⟨by omega, by omega⟩ (getD_some (d := 0) (by first | omega | (simp only [Int.toNat_natCast, List.length_set]; omega))))) ?_
          refine DrG.st (i := 8) [59] rfl rfl rfl (by kernel_rfl) (OKG.o rfl (OK1.eq (OK1.loadP1 (Has.t rfl) ty27) ((show isU _ = isU (dig (val xs / W ^ (k / 64)) (i + 1)) from isU_eq (getD_words _ (i + 1)))))) ?_
          refine DrG.st (i := 9) [] rfl rfl rfl (by kernel_rfl) (OKG.o rfl (OK1.mv (Has.t rfl))) ?_
          refine DrG.st (i := 10) [61] rfl rfl rfl (by kernel_rfl) (OKG.o rfl (OK1.subU' (Has.cU 64 rfl) (Has.t rfl) (by first | omega | assumption | exact True.intro | exact dig_lt _ _ | exact car_le _ _ _ | exact bor_le _ _ _) (by first | omega | assumption | exact True.intro | exact dig_lt _ _ | exact car_le _ _ _ | exact bor_le _ _ _))) ?_
          refine DrG.st (i := 11) [60, 62] rfl rfl rfl (by kernel_rfl) (OKG.o rfl (OK1.shlUU (Has.t rfl) (Has.t rfl) (by first | omega | assumption | exact True.intro | exact dig_lt _ _ | exact car_le _ _ _ | exact bor_le _ _ _))) ?_
          refine DrG.fin (n := 12) mixed (by kernel_rfl) (by kernel_rfl) (by kernel_rfl) ?_
          refine Ops.cv (Cv.wk (.cons (t := 0) (Has.t rfl) (.cons (t := 4) (Has.t rfl) (.cons (t := 5) (Has.t rfl) (.cons (t := 7) (Has.t rfl) (.cons (t := 8) (Has.t rfl) (.cons (t := 30) (Has.t rfl) (.cons (t := 31) (Has.t rfl) (.cons (t := 32) (Has.t rfl) (.cons (t := 33) (Has.t rfl) (.cons (t := 34) (Has.t rfl) (.cons (t := 35) (Has.t rfl) (.cons (t := 36) (Has.t rfl) (.cons (t := 9) (Has.t rfl) (.cons (t := 10) (Has.t rfl) (.cons (t := 37) (Has.t rfl) (.cons (t := 38) (Has.t rfl) (.cons (t := 39) (Has.t rfl) (.cons (t := 40) (Has.t rfl) (.cons (t := 41) (Has.t rfl) (.cons (t := 42) (Has.t rfl) (.cons (t := 43) (Has.t rfl) (.cons (t := 44) (Has.t rfl) (.cons (t := 45) (Has.t rfl) (.cons (t := 46) (Has.t rfl) (.cons (t := 47) (Has.t rfl) (.cons (t := 48) (Has.t rfl) (.cons (t := 49) (Has.t rfl) (.cons (t := 50) (Has.t rfl) (.cons (t := 51) (Has.t rfl) (.cons (t := 52) (Has.t rfl) (.cons (t := 53) (Has.t rfl) (.cons (t := 54) (Has.t rfl) (.cons (t := 55) (Has.t rfl) (.cons (t := 56) (Has.t rfl) (.cons (t := 57) (Has.t rfl) (.cons (t := 58) (Has.t rfl) (.cons (t := 59) (Has.t rfl) (.cons (t := 60) (Has.t rfl) (.cons (t := 61) (Has.t rfl) (.cons (t := 62) (Has.t rfl) (.cons (t := 63) (Has.t rfl) .nil)))))))))))))))))))))))))))))))))))))))))) ?_
          refine st (OK1.orU (Has.t rfl) (Has.t rfl)) rfl ?_
          refine st (OK1.eq (OK1.ixWin sl53 ty27 (Has.t rfl) (Has.t rfl) ⟨by omega, by omega⟩) (isPtr_eq (by first | exact ixo0 | exact ixo2 | exact ixo1))) rfl ?_
          refine Ops.storeM (Has.t rfl) (Has.t rfl) (i := 0) rfl ty27 (by first | omega | (simp only [Int.toNat_natCast, List.length_set, List.length_replicate]; omega)) (M' := [(_, _)]) rfl ?_
          refine nl ?_
          refine At.bln ?_
          refine At.thn (hK16 _ _ ?_); clear hK16
          refine Tri.region ?_
          refine st (OK1.addI (Has.t rfl) (Has.cI 1 rfl) (by first | omega | assumption | exact True.intro | exact dig_lt _ _ | exact car_le _ _ _ | exact bor_le _ _ _) (by first | omega | assumption | exact True.intro | exact dig_lt _ _ | exact car_le _ _ _ | exact bor_le _ _ _)) rfl ?_
          refine st (OK1.mv (Has.t rfl)) rfl ?_
          refine nl ?_
          refine At.thn ?_
          refine hK13 (⟨i + 1, by omega⟩) _ _ ?_ (Cv.mem (.cons (t := 32) (Has.t' rfl ?_) (.cons (t := 0) (Has.t rfl) (.cons (t := 4) (Has.t rfl) (.cons (t := 5) (Has.t rfl) (.cons (t := 7) (Has.t rfl) (.cons (t := 8) (Has.t rfl) (.cons (t := 30) (Has.t rfl) (.cons (t := 31) (Has.t rfl) .nil)))))))) ?_)
          · show (List.length (words (val xs / W ^ (k / 64)))) - (i + 1) < (List.length (words (val xs / W ^ (k / 64)))) - i; omega
          · rfl
          · exact memL_eq (shr_step2 (by omega) (by omega))
        · have hc4 := BP.f hc4
          refine Tri.skip ?_
          refine At.bln ?_
          refine At.thn (hK16 _ _ ?_); clear hK16
          refine Tri.region ?_
          refine st (OK1.addI (Has.t rfl) (Has.cI 1 rfl) (by first | omega | assumption | exact True.intro | exact dig_lt _ _ | exact car_le _ _ _ | exact bor_le _ _ _) (by first | omega | assumption | exact True.intro | exact dig_lt _ _ | exact car_le _ _ _ | exact bor_le _ _ _)) rfl ?_
          refine st (OK1.mv (Has.t rfl)) rfl ?_
          refine nl ?_
          refine At.thn ?_
          refine hK13 (⟨i + 1, by omega⟩) _ _ ?_ (Cv.mem (.cons (t := 32) (Has.t' rfl ?_) (.cons (t := 0) (Has.t rfl) (.cons (t := 4) (Has.t rfl) (.cons (t := 5) (Has.t rfl) (.cons (t := 7) (Has.t rfl) (.cons (t := 8) (Has.t rfl) (.cons (t := 30) (Has.t rfl) (.cons (t := 31) (Has.t rfl) .nil)))))))) ?_)
          · show (List.length (words (val xs / W ^ (k / 64)))) - (i + 1) < (List.length (words (val xs / W ^ (k / 64)))) - i; omega
          · rfl
          · exact memL_eq (shr_step1 (by omega) (by omega) rfl (by omega))
      · have hc3 := BP.f hc3
        refine Tri.exit ?_
        refine At.the ?_
        refine At.the ?_
        refine At.blh ?_
        refine At.thn (hK11 _ _ ?_); clear hK11
        refine Tri.cv (Cv.wk (.cons (t := 4) (Has.t rfl) (.cons (t := 5) (Has.t rfl) (.cons (t := 8) (Has.t rfl) .nil)))) ?_
        refine Tri.seq fun K20 hK20 => ?_
        refine Tri.cv (Cv.freeze' (t := 8) (i := 0) (ys := wordsN ((List.length (words (val xs / W ^ (k / 64))))) ((val xs / W ^ (k / 64)) / 2 ^ (k % 64))) rfl rfl rfl (by simp; omega) (fz_wpart' (by omega))) ?_
        refine Tri.memEq (M' := []) rfl ?_
        refine Tri.cv (Cv.wk (.cons (t := 4) (Has.t rfl) (.cons (t := 5) (Has.t rfl) (.cons (t := 8) (Has.t rfl) .nil)))) ?_
        refine Tri.region ?_
        refine st (OK1.mv (Has.t rfl)) rfl ?_
        refine st (OK1.call (nat_normal) (.cons (Has.t rfl) .nil)) rfl ?_
        refine st (OK1.as (Has.t rfl)) rfl ?_
        refine st (OK1.as (Has.cB true)) rfl ?_
        refine nl ?_
        refine At.thn (hK20 _ _ ?_); clear hK20
        refine Tri.ret ?_
        refine rtN (.inl rfl) Try.results175 rfl rfl (.tmp (Has.t' rfl ?_) (.tmp (Has.t' rfl ?_) .nil))
        · exact SlM_eq (shr_end rfl)
        · rfl

set_option maxHeartbeats 4000000 in
theorem clone_NatO {xs : List Nat} (hx : xs.length ≤ 4294967296) : CtrO Try.prog 165 [isWords xs] isU 0 xs := by
  refine CtrO.intro Try.func165 rfl (by kernel_rfl) Try.ntmps165 rfl fun w0 F0 => ?_
  refine Tri.cv (Cv.wk (.cons (t := 0) (Has.t rfl) .nil)) ?_
  refine Tri.fact (Has.lenLt (Has.t (t := 0) rfl)) fun lt0 => ?_
  refine Tri.fact (Has.okW (Has.t (t := 0) rfl)) fun ok0 => ?_
  refine Tri.seq fun K1 hK1 => ?_
  refine Tri.region ?_
  refine st (OK1.as (Has.cW (f := isU))) rfl ?_
  refine nl ?_
  refine At.thn (hK1 _ _ ?_); clear hK1
  refine Tri.seq fun K2 hK2 => ?_
  refine Tri.seq fun K3 hK3 => ?_
  refine Tri.region ?_
  refine st (OK1.mv (Has.t rfl)) rfl ?_
  refine Ops.eqNil sl53 (Has.t rfl) rfl fun bn1 hn1 => ?_
  refine nl ?_
  refine At.thn (hK3 _ _ ?_); clear hK3
  refine Tri.cond (Has.t rfl) (fun hc2 => ?_) (fun hc2 => ?_)
  · have hc2 := BP.t hc2
    refine Tri.seq fun K4 hK4 => ?_
    refine Tri.region ?_
    refine st (OK1.as (Has.cW (f := isU))) rfl ?_
    refine nl ?_
    refine At.thn (hK4 _ _ ?_); clear hK4
    refine Tri.ret ?_
    refine At.thr ?_
    refine rtO0 (.inl rfl) Try.results165 rfl ?_ (.tmp (Has.t' rfl ?_) .nil)
    · exact hn1 hc2
    · rfl
  · have hc2 := BP.f hc2
    refine Tri.skip ?_
    refine At.thn (hK2 _ _ ?_); clear hK2
    refine Tri.seq fun K5 hK5 => ?_
    refine Tri.region ?_
    refine Ops.buildS0 sl53 ty27 rfl ?_
    refine st (OK1.mv (Has.t rfl)) rfl ?_
    refine Ops.appendO (f := isU) (u := 0) sl53 ty27 zero27 (fun _ _ => ⟨⟨rfl, by decide⟩, trivial⟩) by27 (Has.t rfl) (Has.t rfl) (by first | omega | assumption) rfl (fun hO3 => ?_) (fun hO3 b1 cb1 jb1 => ?_)
    · skip
      refine st (OK1.as (Has.t rfl)) rfl ?_
      refine nl ?_
      refine At.thn (hK5 _ _ ?_); clear hK5
      refine Tri.cv (Cv.wk (.cons (t := 2) (Has.t rfl) .nil)) ?_
      refine Tri.ret ?_
      refine rtO0 (.inl rfl) Try.results165 rfl ?_ (.tmp (Has.t' rfl ?_) .nil)
      · exact hO3
      · rfl
    · skip
      refine st (OK1.as (Has.t rfl)) rfl ?_
      refine nl ?_
      refine At.thn (hK5 _ _ ?_); clear hK5
      refine Tri.cv (Cv.wk (.cons (t := 2) (Has.t rfl) .nil)) ?_
      refine Tri.ret ?_
      refine rtO1 (.inl rfl) Try.results165 rfl ?_ (b := b1) (c := cb1) (k := jb1) (i := 0) ?_ (.tmp (Has.t' rfl ?_) .nil)
      · exact hO3
      · rfl
      · rfl

set_option maxHeartbeats 4000000 in
theorem nat_trimW {A k c : Nat} (hA : A ≠ 0) : CtrM Try.prog 130 (fun b0 => [isWin b0 0 ((List.length (words A))) c]) (cellM (List.map isU (words A ++ List.replicate k 0))) (cellM (List.map isU (words A ++ List.replicate k 0))) (fun b0 => isWin b0 0 ((List.length (words A))) c) := by
  refine CtrM.intro Try.func130 rfl (by kernel_rfl) Try.ntmps130 (fun _ => rfl) fun w0 F0 b0 => ?_
  refine Tri.cv (Cv.wk (.cons (t := 0) (Has.t rfl) .nil)) ?_
  refine Tri.fact (Has.lenLt (Has.t (t := 0) rfl)) fun lt0 => ?_
  refine Tri.fact (Has.winLe (Has.t (t := 0) rfl)) fun lw0 => ?_
  have nA := nw_pos hA
  refine Tri.seq fun K1 hK1 => ?_
  refine Tri.region ?_
  refine st (OK1.as (Has.cW (f := isU))) rfl ?_
  refine nl ?_
  refine At.thn (hK1 _ _ ?_); clear hK1
  refine Tri.seq fun K2 hK2 => ?_
  refine Tri.region ?_
  refine st (OK1.mv (Has.t rfl)) rfl ?_
  refine st (OK1.len sl53 (Has.t rfl)) rfl ?_
  refine st (OK1.as (Has.t rfl)) rfl ?_
  refine nl ?_
  refine At.thn (hK2 _ _ ?_); clear hK2
  refine Tri.seq fun K3 hK3 => ?_
  refine Tri.block ?_
  refine Tri.loopF [0, 2] (fun (_ : Unit) => [(3, isI ((List.length (words A)) : Int))]) (fun M => fun (_ : Unit) => M) (fun (_ : Unit) => 0) (()) (Cv.mem (.cons (t := 3) (Has.t' rfl ?_) (.cons (t := 0) (Has.t rfl) (.cons (t := 2) (Has.t rfl) .nil))) ?_) ?_
  · rfl
  · rfl
  rintro _ K4 hK4
  refine Tri.cv (Cv.wk (.cons (t := 3) (Has.t rfl) (.cons (t := 0) (Has.t rfl) (.cons (t := 2) (Has.t rfl) .nil)))) ?_
  refine Tri.seq fun K5 hK5 => ?_
  refine Tri.seq fun K6 hK6 => ?_
  refine Tri.region ?_
  refine st (OK1.mv (Has.t rfl)) rfl ?_
  refine st (OK1.gtI (Has.t rfl) (Has.cI 0 rfl)) rfl ?_
  refine st (OK1.mv (Has.t rfl)) rfl ?_
  refine stT rfl rfl (fun hg => have hg' := BP.t hg; OK1.mv (Has.t rfl)) rfl ?_
  refine stT rfl rfl (fun hg => have hg' := BP.t hg; OK1.mv (Has.t rfl)) rfl ?_
  refine stT rfl rfl (fun hg => have hg' := BP.t hg; OK1.subI (Has.g rfl hg) (Has.cI 1 rfl) (by first | omega | assumption) (by first | omega | assumption)) rfl ?_
  refine stT rfl rfl (fun hg => have hg' := BP.t hg; OK1.eq (OK1.ixWin sl53 ty27 (Has.g rfl hg) (Has.g rfl hg) ⟨by omega, by omega⟩) (isPtr_eq (by first | exact ixo0 | exact ixo2 | exact ixo1))) rfl ?_
  refine stT rfl rfl (fun hg => have hg' := BP.t hg; OK1.load1 (Has.g rfl hg) (i := 0) rfl ty27 (map_some (getD_some (d := 0) (by simp only [List.length_append]; omega)))) rfl ?_
  refine stT rfl rfl (fun hg => have hg' := BP.t hg; OK1.eqU (Has.g rfl hg) (Has.cU 0 rfl)) rfl ?_
  refine st (OK1.pickAnd (Has.t rfl) (fun h => Has.g rfl h)) rfl ?_
  refine nl ?_
  refine At.thn (hK6 _ _ ?_); clear hK6
  refine Tri.cond (Has.t rfl) (fun hc1 => ?_) (fun hc1 => ?_)
  · have hc1 := BP.t hc1
    exact absurd hc1.2 (topW hA)
  · have hc1 := BP.f hc1
    refine Tri.exit ?_
    refine At.the ?_
    refine At.the ?_
    refine At.blh ?_
    refine At.thn (hK3 _ _ ?_); clear hK3
    refine Tri.cv (Cv.wk (.cons (t := 0) (Has.t rfl) (.cons (t := 2) (Has.t rfl) (.cons (t := 3) (Has.t rfl) .nil)))) ?_
    refine Tri.seq fun K7 hK7 => ?_
    refine Tri.region ?_
    refine st (OK1.mv (Has.t rfl)) rfl ?_
    refine st (OK1.mv (Has.t rfl)) rfl ?_
    refine st (OK1.slHWin sl53 ty27 (Has.t rfl) (Has.t rfl) ⟨by omega, by omega, by omega⟩) rfl ?_
    refine st (OK1.as (Has.t rfl)) rfl ?_
    refine nl ?_
    refine At.thn (hK7 _ _ ?_); clear hK7
    refine Tri.cv (Cv.wk (.cons (t := 2) (Has.t rfl) .nil)) ?_
    refine Tri.ret ?_
    refine rtM1 (.inl rfl) Try.results130 rfl (i := 0) ?_ (.tmp (Has.t' rfl ?_) .nil)
    all_goals (rfl)

set_option maxHeartbeats 4000000 in
theorem nat_normalW {A k c : Nat} (hA : A ≠ 0) : CtrM Try.prog 146 (fun b0 => [isWin b0 0 ((List.length (words A))) c]) (cellM (List.map isU (words A ++ List.replicate k 0))) (cellM (List.map isU (words A ++ List.replicate k 0))) (fun b0 => isWin b0 0 ((List.length (words A))) c) := by
  refine CtrM.intro Try.func146 rfl (by kernel_rfl) Try.ntmps146 (fun _ => rfl) fun w0 F0 b0 => ?_
  refine Tri.cv (Cv.wk (.cons (t := 0) (Has.t rfl) .nil)) ?_
  refine Tri.fact (Has.lenLt (Has.t (t := 0) rfl)) fun lt0 => ?_
  refine Tri.fact (Has.winLe (Has.t (t := 0) rfl)) fun lw0 => ?_
  have nA := nw_pos hA
  refine Tri.seq fun K1 hK1 => ?_
  refine Tri.region ?_
  refine st (OK1.as (Has.cW (f := isU))) rfl ?_
  refine nl ?_
  refine At.thn (hK1 _ _ ?_); clear hK1
  refine Tri.seq fun K2 hK2 => ?_
  refine Tri.region ?_
  refine st (OK1.mv (Has.t rfl)) rfl ?_
  refine Ops.callM (nat_trimW hA) (i := 0) rfl (.cons (Has.t rfl) .nil) rfl (M' := [(_, _)]) rfl ?_
  refine st (OK1.as (Has.t rfl)) rfl ?_
  refine nl ?_
  refine At.thn (hK2 _ _ ?_); clear hK2
  refine Tri.seq fun K3 hK3 => ?_
  refine Tri.seq fun K4 hK4 => ?_
  refine Tri.region ?_
  refine st (OK1.mv (Has.t rfl)) rfl ?_
  refine st (OK1.len sl53 (Has.t rfl)) rfl ?_
  refine st (OK1.eqI (Has.t rfl) (Has.cI 0 rfl)) rfl ?_
  refine nl ?_
  refine At.thn (hK4 _ _ ?_); clear hK4
  refine Tri.cond (Has.t rfl) (fun hc1 => ?_) (fun hc1 => ?_)
  · have hc1 := BP.t hc1
    exfalso; first | omega | contradiction | (revert hc1; simp)
  · have hc1 := BP.f hc1
    refine Tri.skip ?_
    refine At.thn (hK3 _ _ ?_); clear hK3
    refine Tri.cv (Cv.wk (.cons (t := 0) (Has.t rfl) (.cons (t := 2) (Has.t rfl) .nil))) ?_
    refine Tri.seq fun K5 hK5 => ?_
    refine Tri.region ?_
    refine st (OK1.mv (Has.t rfl)) rfl ?_
    refine st (OK1.as (Has.t rfl)) rfl ?_
    refine nl ?_
    refine At.thn (hK5 _ _ ?_); clear hK5
    refine Tri.ret ?_
    refine rtM1 (.inl rfl) Try.results146 rfl (i := 0) ?_ (.tmp (Has.t' rfl ?_) .nil)
    all_goals (rfl)

set_option maxHeartbeats 4000000 in
theorem nat_NormO {xs : List Nat} (hx : (List.length (words (val xs))) ≤ 4294967296) : CtrO Try.prog 138 [isWords xs] isU 0 (words (val xs)) := by
  refine CtrO.intro Try.func138 rfl (by kernel_rfl) Try.ntmps138 rfl fun w0 F0 => ?_
  refine Tri.cv (Cv.wk (.cons (t := 0) (Has.t rfl) .nil)) ?_
  refine Tri.fact (Has.lenLt (Has.t (t := 0) rfl)) fun lt0 => ?_
  refine Tri.fact (Has.okW (Has.t (t := 0) rfl)) fun ok0 => ?_
  refine Tri.seq fun K1 hK1 => ?_
  refine Tri.region ?_
  refine st (OK1.as (Has.cW (f := isU))) rfl ?_
  refine nl ?_
  refine At.thn (hK1 _ _ ?_); clear hK1
  refine Tri.seq fun K2 hK2 => ?_
  refine Tri.region ?_
  refine st (OK1.mv (Has.t rfl)) rfl ?_
  refine st (OK1.call (nat_trim) (.cons (Has.t rfl) .nil)) rfl ?_
  refine Ops.callO (clone_NatO hx) (.cons (Has.t rfl) .nil) rfl (fun hO1 => ?_) (fun hO1 b1 cb1 jb1 => ?_)
  · skip
    refine st (OK1.call (nat_normal (xs := [])) (.cons (Has.t rfl) .nil)) rfl ?_
    refine st (OK1.as (Has.t rfl)) rfl ?_
    refine nl ?_
    refine At.thn (hK2 _ _ ?_); clear hK2
    refine Tri.cv (Cv.wk (.cons (t := 2) (Has.t rfl) .nil)) ?_
    refine Tri.ret ?_
    refine rtO0 (.inl rfl) Try.results138 rfl ?_ (.tmp (Has.t' rfl ?_) .nil)
    · exact hO1
    · exact SlM_eq words_zero
  · skip
    refine Ops.callM (nat_normalW (words_ne hO1)) (i := 0) rfl (.cons (Has.t rfl) .nil) rfl (M' := [(_, _)]) rfl ?_
    refine st (OK1.as (Has.t rfl)) rfl ?_
    refine nl ?_
    refine At.thn (hK2 _ _ ?_); clear hK2
    refine Tri.cv (Cv.wk (.cons (t := 2) (Has.t rfl) .nil)) ?_
    refine Tri.ret ?_
    refine rtO1 (.inl rfl) Try.results138 rfl ?_ (b := b1) (c := cb1) (k := jb1) (i := 0) ?_ (.tmp (Has.t' rfl ?_) .nil)
    · exact hO1
    · rfl
    · rfl
end Go.Proofs.Ytokhpacdgoebpaa
