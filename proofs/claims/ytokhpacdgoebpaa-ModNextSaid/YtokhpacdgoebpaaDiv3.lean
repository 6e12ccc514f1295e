/- Contracts: a multiple taken away, in place. -/
import Derived.Test.YtokhpacdgoebpaaDiv1
namespace Go.Proofs.Ytokhpacdgoebpaa
open Go.En Go.RowKit
set_option linter.unusedVariables false
set_option maxRecDepth 10000
open Go.Nt
set_option maxHeartbeats 2000000 in
theorem div_take {N v q o c m : Nat} (h2 : o + ((List.length (words v)) + 1) ≤ m) (h3 : N / W ^ o < W ^ ((List.length (words v)) + 1)) : CtrM Try.prog 183 (fun b0 => [isWin b0 o ((List.length (words v)) + 1) c, isWords (words v), isU q]) (cellM (List.map isU (wordsN m N))) (cellM (List.map isU (wordsN m (N % W ^ o + W ^ o * (wdiff (N / W ^ o) (v * q) ((List.length (words v)) + 1)))))) (fun b0 => isB (decide (N / W ^ o < v * q))) := by
  refine CtrM.intro Try.func183 rfl (by kernel_rfl) Try.ntmps183 (fun _ => rfl) fun w0 F0 b0 => ?_
  refine Tri.cv (Cv.wk (.cons (t := 0) (Has.t rfl) (.cons (t := 1) (Has.t rfl) (.cons (t := 2) (Has.t rfl) .nil)))) ?_
  refine Tri.fact (Has.lenLt (Has.t (t := 0) rfl)) fun lt0 => ?_
  refine Tri.fact (Has.winLe (Has.t (t := 0) rfl)) fun lw0 => ?_
  refine Tri.fact (Has.lenLt (Has.t (t := 1) rfl)) fun lt1 => ?_
  refine Tri.fact (Has.okW (Has.t (t := 1) rfl)) fun ok1 => ?_
  refine Tri.fact (Has.ltU (Has.t (t := 2) rfl)) fun lt2 => ?_
  refine Tri.seq fun K1 hK1 => ?_
  refine Tri.region ?_
  refine st (OK1.as (Has.cB false)) rfl ?_
  refine nl ?_
  refine At.thn (hK1 _ _ ?_); clear hK1
  refine Tri.seq fun K2 hK2 => ?_
  refine Tri.region ?_
  refine st (OK1.as (Has.cU 0 rfl)) rfl ?_
  refine st (OK1.as (Has.cU 0 rfl)) rfl ?_
  refine nl ?_
  refine At.thn (hK2 _ _ ?_); clear hK2
  refine Tri.seq fun K3 hK3 => ?_
  refine Tri.seq fun K4 hK4 => ?_
  refine Tri.region ?_
  refine st (OK1.mv (Has.t rfl)) rfl ?_
  refine st (OK1.len sl53 (Has.t rfl)) rfl ?_
  refine st (OK1.mv (Has.cI 0 rfl)) rfl ?_
  refine nl ?_
  refine At.thn (hK4 _ _ ?_); clear hK4
  refine Tri.block ?_
  refine Tri.loopF [0, 1, 2, 6, 14, 15] (fun (z : { i : Nat // i ≤ (List.length (words v)) }) => match z with | ⟨i, hI⟩ => [(16, isI (i : Int)), (7, isU (mcar 0 v q i)), (8, isU (bor (N / W ^ o) (v * q) i))]) (fun M => fun (z : { i : Nat // i ≤ (List.length (words v)) }) => match z with | ⟨i, hI⟩ => [(some b0, cellM (List.map isU (mix (o + i) (N % W ^ o + W ^ o * (wdiff (N / W ^ o) (v * q) ((List.length (words v)) + 1))) N m)))]) (fun (z : { i : Nat // i ≤ (List.length (words v)) }) => match z with | ⟨i, hI⟩ => (List.length (words v)) - i) (⟨0, Nat.zero_le _⟩) (Cv.mem (.cons (t := 16) (Has.t' rfl ?_) (.cons (t := 7) (Has.t' rfl ?_) (.cons (t := 8) (Has.t' rfl ?_) (.cons (t := 0) (Has.t rfl) (.cons (t := 1) (Has.t rfl) (.cons (t := 2) (Has.t rfl) (.cons (t := 6) (Has.t rfl) (.cons (t := 14) (Has.t rfl) (.cons (t := 15) (Has.t rfl) .nil))))))))) ?_) ?_
  · rfl
  · exact isU_eq (mcar_zero _ _ _)
  · exact isU_eq (bor_zero _ _)
  · exact memL_eq (mix_start (by omega) (win_mod _ _ _))
  rintro ⟨i, hI⟩ K5 hK5
  refine Tri.cv (Cv.wk (.cons (t := 16) (Has.t rfl) (.cons (t := 7) (Has.t rfl) (.cons (t := 8) (Has.t rfl) (.cons (t := 0) (Has.t rfl) (.cons (t := 1) (Has.t rfl) (.cons (t := 2) (Has.t rfl) (.cons (t := 6) (Has.t rfl) (.cons (t := 14) (Has.t rfl) (.cons (t := 15) (Has.t rfl) .nil)))))))))) ?_
  refine Tri.memEq (M' := [(some b0, cellM (List.map isU (mix (o + i) (N % W ^ o + W ^ o * (wdiff (N / W ^ o) (v * q) ((List.length (words v)) + 1))) N m)))]) rfl ?_
  have wl : (mix (o + i) (N % W ^ o + W ^ o * (wdiff (N / W ^ o) (v * q) ((List.length (words v)) + 1))) N m).length = m := mix_len (by omega)
  have hcl := Nat.lt_of_le_of_lt (mcar_le 0 v q i) lt2
  have hrow := take_word lt2 (dig_lt v i) hcl (dig_lt _ _) (mul_step0 v q i)
  refine Tri.seq fun K6 hK6 => ?_
  refine Tri.region ?_
  refine st (OK1.ltI (Has.t rfl) (Has.t rfl)) rfl ?_
  refine nl ?_
  refine At.thn (hK6 _ _ ?_); clear hK6
  refine Tri.seq fun K7 hK7 => ?_
  refine Tri.cond (Has.t rfl) (fun hc1 => ?_) (fun hc1 => ?_)
  · have hc1 := BP.t hc1
    refine Tri.skip ?_
    refine At.thn (hK7 _ _ ?_); clear hK7
    refine Tri.seq fun K8 hK8 => ?_
    refine Tri.block ?_
    refine Tri.seq fun K9 hK9 => ?_
    refine Tri.region ?_
    refine st (OK1.mv (Has.t rfl)) rfl ?_
    refine st (OK1.ixP sl53 ty27 (Has.t rfl) (Has.t rfl) ⟨by omega, by omega⟩ (getD_some (d := 0) (by first | omega | (simp only [Int.toNat_natCast, List.length_set]; omega)))) rfl ?_
    refine st (OK1.eq (OK1.loadP1 (Has.t rfl) ty27) (isU_eq (getD_words _ i))) rfl ?_
    refine st (OK1.as (Has.t rfl)) rfl ?_
    refine st (OK1.as (Has.t rfl)) rfl ?_
    refine nl ?_
    refine At.thn (hK9 _ _ ?_); clear hK9
    refine Tri.seq fun K10 hK10 => ?_
    refine Tri.region ?_
    refine st (OK1.mv (Has.t rfl)) rfl ?_
    refine st (OK1.mv (Has.t rfl)) rfl ?_
    refine st (OK1.call (bits_Mul64) (.cons (Has.t rfl) (.cons (Has.t rfl) .nil))) rfl ?_
    refine st (OK1.mv (Has.t rfl)) rfl ?_
    refine st (OK1.ext (Has.t rfl) rfl) rfl ?_
    refine st (OK1.ext (Has.t rfl) rfl) rfl ?_
    refine st (OK1.as (Has.t rfl)) rfl ?_
    refine st (OK1.as (Has.t rfl)) rfl ?_
    refine nl ?_
    refine At.thn (hK10 _ _ ?_); clear hK10
    refine Tri.seq fun K11 hK11 => ?_
    refine Tri.region ?_
    refine st (OK1.as (Has.cU 0 rfl)) rfl ?_
    refine nl ?_
    refine At.thn (hK11 _ _ ?_); clear hK11
    refine Tri.seq fun K12 hK12 => ?_
    refine Tri.region ?_
    refine st (OK1.mv (Has.t rfl)) rfl ?_
    refine st (OK1.mv (Has.t rfl)) rfl ?_
    refine st (OK1.add64 ext_add64 (Has.t rfl) (Has.t rfl) (Has.cU 0 rfl) (by first | with_reducible assumption | with_reducible exact bor_le _ _ _ | with_reducible exact dig_lt _ _ | omega) ⟨(by first | with_reducible assumption | with_reducible exact bor_le _ _ _ | with_reducible exact dig_lt _ _ | omega), (by first | with_reducible assumption | with_reducible exact bor_le _ _ _ | with_reducible exact dig_lt _ _ | omega)⟩) rfl ?_
    refine st (OK1.mv (Has.t rfl)) rfl ?_
    refine st (OK1.ext (Has.t rfl) rfl) rfl ?_
    refine st (OK1.ext (Has.t rfl) rfl) rfl ?_
    refine st (OK1.as (Has.t rfl)) rfl ?_
    refine st (OK1.as (Has.t rfl)) rfl ?_
    refine nl ?_
    refine At.thn (hK12 _ _ ?_); clear hK12
    refine Tri.seq fun K13 hK13 => ?_
    refine Tri.region ?_
    refine st (OK1.mv (Has.t rfl)) rfl ?_
    refine st (OK1.mv (Has.t rfl)) rfl ?_
    refine st (OK1.addU' (Has.t rfl) (Has.t rfl) (by first | with_reducible assumption | with_reducible exact bor_le _ _ _ | with_reducible exact dig_lt _ _ | omega)) rfl ?_
    refine st (OK1.as (Has.t rfl)) rfl ?_
    refine nl ?_
    refine At.thn (hK13 _ _ ?_); clear hK13
    refine Tri.region ?_
    refine st (OK1.mv (Has.t rfl)) rfl ?_
    refine st (OK1.mv (Has.t rfl)) rfl ?_
    refine st (OK1.mv (Has.t rfl)) rfl ?_
    refine st (OK1.mv (Has.t rfl)) rfl ?_
    refine st (OK1.eq (OK1.ixWin sl53 ty27 (Has.t rfl) (Has.t rfl) ⟨by omega, by omega⟩) (isPtr_eq (by first | exact ixo0 | exact ixo2 | exact ixo1))) rfl ?_
    refine st (OK1.eq (OK1.load1 (Has.t rfl) (i := 0) rfl ty27 (map_some (getD_some (d := 0) (by first | omega | (simp only [Int.toNat_natCast, List.length_set]; omega))))) (isU_eq (rowGet (by omega)))) rfl ?_
    refine st (OK1.mv (Has.t rfl)) rfl ?_
    refine st (OK1.mv (Has.t rfl)) rfl ?_
    refine st (OK1.sub64 ext_sub64 (Has.t rfl) (Has.t rfl) (Has.t rfl) (by first | with_reducible assumption | with_reducible exact bor_le _ _ _ | with_reducible exact dig_lt _ _ | omega) ⟨(by first | with_reducible assumption | with_reducible exact bor_le _ _ _ | with_reducible exact dig_lt _ _ | omega), (by first | with_reducible assumption | with_reducible exact bor_le _ _ _ | with_reducible exact dig_lt _ _ | omega)⟩) rfl ?_
    refine st (OK1.mv (Has.t rfl)) rfl ?_
    refine st (OK1.ext (Has.t rfl) rfl) rfl ?_
    refine st (OK1.ext (Has.t rfl) rfl) rfl ?_
    refine st (OK1.eq (OK1.ixWin sl53 ty27 (Has.t rfl) (Has.t rfl) ⟨by omega, by omega⟩) (isPtr_eq (by first | exact ixo0 | exact ixo2 | exact ixo1))) rfl ?_
    refine Ops.storeM (Has.t rfl) (Has.t rfl) (i := 0) rfl ty27 (by first | omega | (simp only [Int.toNat_natCast, List.length_set, List.length_replicate]; omega)) (M' := [(_, _)]) rfl ?_
    refine st (OK1.as (Has.t rfl)) rfl ?_
    refine nl ?_
    refine At.bln ?_
    refine At.thn (hK8 _ _ ?_); clear hK8
    refine Tri.region ?_
    refine st (OK1.addI (Has.t rfl) (Has.cI 1 rfl) (by first | with_reducible assumption | with_reducible exact bor_le _ _ _ | with_reducible exact dig_lt _ _ | omega) (by first | with_reducible assumption | with_reducible exact bor_le _ _ _ | with_reducible exact dig_lt _ _ | omega)) rfl ?_
    refine st (OK1.mv (Has.t rfl)) rfl ?_
    refine nl ?_
    refine At.thn ?_
    refine hK5 (⟨i + 1, by omega⟩) _ _ ?_ (Cv.mem (.cons (t := 16) (Has.t' rfl ?_) (.cons (t := 7) (Has.t' rfl ?_) (.cons (t := 8) (Has.t' rfl ?_) (.cons (t := 0) (Has.t rfl) (.cons (t := 1) (Has.t rfl) (.cons (t := 2) (Has.t rfl) (.cons (t := 6) (Has.t rfl) (.cons (t := 14) (Has.t rfl) (.cons (t := 15) (Has.t rfl) .nil))))))))) ?_)
    · show (List.length (words v)) - (i + 1) < (List.length (words v)) - i; omega
    · rfl
    · exact isU_eq hrow.2.1
    · exact isU_eq (by rw [hrow.1]; exact bor_succ _ _ _)
    · exact memL_eq (winPut (by omega) (by rw [hrow.1]; exact wd_dig (vq_lt (nw_lt v) lt2) (by omega)))
  · have hc1 := BP.f hc1
    refine Tri.exit ?_
    refine At.the ?_
    refine At.the ?_
    refine At.blh ?_
    refine At.thn (hK3 _ _ ?_); clear hK3
    refine Tri.cv (Cv.wk (.cons (t := 0) (Has.t rfl) (.cons (t := 1) (Has.t rfl) (.cons (t := 6) (Has.t rfl) (.cons (t := 7) (Has.t rfl) (.cons (t := 8) (Has.t rfl) .nil)))))) ?_
    refine Tri.seq fun K14 hK14 => ?_
    refine Tri.region ?_
    refine st (OK1.mv (Has.t rfl)) rfl ?_
    refine st (OK1.mv (Has.t rfl)) rfl ?_
    refine st (OK1.len sl53 (Has.t rfl)) rfl ?_
    refine st (OK1.mv (Has.t rfl)) rfl ?_
    refine st (OK1.mv (Has.t rfl)) rfl ?_
    refine st (OK1.len sl53 (Has.t rfl)) rfl ?_
    refine st (OK1.eq (OK1.ixWin sl53 ty27 (Has.t rfl) (Has.t rfl) ⟨by omega, by omega⟩) (isPtr_eq (by first | exact ixo0 | exact ixo2 | exact ixo1))) rfl ?_
    refine st (OK1.eq (OK1.load1 (Has.t rfl) (i := 0) rfl ty27 (map_some (getD_some (d := 0) (by first | omega | (simp only [Int.toNat_natCast, List.length_set]; omega))))) ((isU_eq (rowGet' (j := (List.length (words v))) (by omega) (by omega))))) rfl ?_
    refine st (OK1.mv (Has.t rfl)) rfl ?_
    refine st (OK1.mv (Has.t rfl)) rfl ?_
    refine st (OK1.sub64 (l := dig (N / W ^ o) ((List.length (words v)))) (m := mcar 0 v q i) (c := bor (N / W ^ o) (v * q) i) ext_sub64 (Has.t rfl) (Has.t rfl) (Has.t rfl) (bor_le _ _ _) ⟨dig_lt _ _, hcl⟩) rfl ?_
    refine st (OK1.mv (Has.t rfl)) rfl ?_
    refine st (OK1.ext (Has.t rfl) rfl) rfl ?_
    refine st (OK1.ext (Has.t rfl) rfl) rfl ?_
    refine st (OK1.eq (OK1.ixWin sl53 ty27 (Has.t rfl) (Has.t rfl) ⟨by omega, by omega⟩) (isPtr_eq (by first | exact ixo0 | exact ixo2 | exact ixo1))) rfl ?_
    refine Ops.storeM (Has.t rfl) (Has.t rfl) (i := 0) rfl ty27 (by first | omega | (simp only [Int.toNat_natCast, List.length_set, List.length_replicate]; omega)) (M' := [(_, _)]) rfl ?_
    refine st (OK1.as (Has.t rfl)) rfl ?_
    refine nl ?_
    refine At.thn (hK14 _ _ ?_); clear hK14
    refine Tri.cv (Cv.wk (.cons (t := 6) (Has.t rfl) (.cons (t := 8) (Has.t rfl) .nil))) ?_
    refine Tri.seq fun K15 hK15 => ?_
    refine Tri.region ?_
    refine st (OK1.mv (Has.t rfl)) rfl ?_
    refine st (OK1.neU (Has.t rfl) (Has.cU 0 rfl)) rfl ?_
    refine st (OK1.as (Has.t rfl)) rfl ?_
    refine nl ?_
    refine At.thn (hK15 _ _ ?_); clear hK15
    refine Tri.ret ?_
    refine rtM1 (.inl rfl) Try.results183 rfl (i := 0) ?_ (.tmp (Has.t' rfl ?_) .nil)
    · obtain rfl : i = (List.length (words v)) := (by omega); exact memU_eq ((winPut (by omega) (takeTop (nw_lt v) lt2)).trans (winEnd (by omega) h3 (wdiff_lt _ _ _)))
    · obtain rfl : i = (List.length (words v)) := (by omega); exact isB_eq (takeBor (nw_lt v) lt2 h3)

set_option maxHeartbeats 2000000 in
theorem div_back {N v o c m : Nat} (h2 : o + ((List.length (words v)) + 1) ≤ m) (h3 : N / W ^ o < W ^ ((List.length (words v)) + 1)) : CtrM Try.prog 184 (fun b0 => [isWin b0 o ((List.length (words v)) + 1) c, isWords (words v)]) (cellM (List.map isU (wordsN m N))) (cellM (List.map isU (wordsN m (N % W ^ o + W ^ o * (wsum (N / W ^ o) v ((List.length (words v)) + 1)))))) (fun b0 => isTup []) := by
  refine CtrM.intro Try.func184 rfl (by kernel_rfl) Try.ntmps184 (fun _ => rfl) fun w0 F0 b0 => ?_
  refine Tri.cv (Cv.wk (.cons (t := 0) (Has.t rfl) (.cons (t := 1) (Has.t rfl) .nil))) ?_
  refine Tri.fact (Has.lenLt (Has.t (t := 0) rfl)) fun lt0 => ?_
  refine Tri.fact (Has.winLe (Has.t (t := 0) rfl)) fun lw0 => ?_
  refine Tri.fact (Has.lenLt (Has.t (t := 1) rfl)) fun lt1 => ?_
  refine Tri.fact (Has.okW (Has.t (t := 1) rfl)) fun ok1 => ?_
  refine Tri.seq fun K1 hK1 => ?_
  refine Tri.region ?_
  refine st (OK1.as (Has.cU 0 rfl)) rfl ?_
  refine nl ?_
  refine At.thn (hK1 _ _ ?_); clear hK1
  refine Tri.seq fun K2 hK2 => ?_
  refine Tri.seq fun K3 hK3 => ?_
  refine Tri.region ?_
  refine st (OK1.mv (Has.t rfl)) rfl ?_
  refine st (OK1.len sl53 (Has.t rfl)) rfl ?_
  refine st (OK1.mv (Has.cI 0 rfl)) rfl ?_
  refine nl ?_
  refine At.thn (hK3 _ _ ?_); clear hK3
  refine Tri.block ?_
  refine Tri.loopF [0, 1, 7, 8] (fun (z : { i : Nat // i ≤ (List.length (words v)) }) => match z with | ⟨i, hI⟩ => [(9, isI (i : Int)), (4, isU (car (N / W ^ o) v i))]) (fun M => fun (z : { i : Nat // i ≤ (List.length (words v)) }) => match z with | ⟨i, hI⟩ => [(some b0, cellM (List.map isU (mix (o + i) (N % W ^ o + W ^ o * (wsum (N / W ^ o) v ((List.length (words v)) + 1))) N m)))]) (fun (z : { i : Nat // i ≤ (List.length (words v)) }) => match z with | ⟨i, hI⟩ => (List.length (words v)) - i) (⟨0, Nat.zero_le _⟩) (Cv.mem (.cons (t := 9) (Has.t' rfl ?_) (.cons (t := 4) (Has.t' rfl ?_) (.cons (t := 0) (Has.t rfl) (.cons (t := 1) (Has.t rfl) (.cons (t := 7) (Has.t rfl) (.cons (t := 8) (Has.t rfl) .nil)))))) ?_) ?_
  · rfl
  · exact isU_eq (car_zero _ _)
  · exact memL_eq (mix_start (by omega) (win_mod _ _ _))
  rintro ⟨i, hI⟩ K4 hK4
  refine Tri.cv (Cv.wk (.cons (t := 9) (Has.t rfl) (.cons (t := 4) (Has.t rfl) (.cons (t := 0) (Has.t rfl) (.cons (t := 1) (Has.t rfl) (.cons (t := 7) (Has.t rfl) (.cons (t := 8) (Has.t rfl) .nil))))))) ?_
  refine Tri.memEq (M' := [(some b0, cellM (List.map isU (mix (o + i) (N % W ^ o + W ^ o * (wsum (N / W ^ o) v ((List.length (words v)) + 1))) N m)))]) rfl ?_
  have wl : (mix (o + i) (N % W ^ o + W ^ o * (wsum (N / W ^ o) v ((List.length (words v)) + 1))) N m).length = m := mix_len (by omega)
  refine Tri.seq fun K5 hK5 => ?_
  refine Tri.region ?_
  refine st (OK1.ltI (Has.t rfl) (Has.t rfl)) rfl ?_
  refine nl ?_
  refine At.thn (hK5 _ _ ?_); clear hK5
  refine Tri.seq fun K6 hK6 => ?_
  refine Tri.cond (Has.t rfl) (fun hc1 => ?_) (fun hc1 => ?_)
  · have hc1 := BP.t hc1
    refine Tri.skip ?_
    refine At.thn (hK6 _ _ ?_); clear hK6
    refine Tri.seq fun K7 hK7 => ?_
    refine Tri.block ?_
    refine Tri.seq fun K8 hK8 => ?_
    refine Tri.region ?_
    refine st (OK1.mv (Has.t rfl)) rfl ?_
    refine st (OK1.ixP sl53 ty27 (Has.t rfl) (Has.t rfl) ⟨by omega, by omega⟩ (getD_some (d := 0) (by first | omega | (simp only [Int.toNat_natCast, List.length_set]; omega)))) rfl ?_
    refine st (OK1.eq (OK1.loadP1 (Has.t rfl) ty27) (isU_eq (getD_words _ i))) rfl ?_
    refine st (OK1.as (Has.t rfl)) rfl ?_
    refine st (OK1.as (Has.t rfl)) rfl ?_
    refine nl ?_
    refine At.thn (hK8 _ _ ?_); clear hK8
    refine Tri.region ?_
    refine st (OK1.mv (Has.t rfl)) rfl ?_
    refine st (OK1.mv (Has.t rfl)) rfl ?_
    refine st (OK1.mv (Has.t rfl)) rfl ?_
    refine st (OK1.mv (Has.t rfl)) rfl ?_
    refine st (OK1.eq (OK1.ixWin sl53 ty27 (Has.t rfl) (Has.t rfl) ⟨by omega, by omega⟩) (isPtr_eq (by first | exact ixo0 | exact ixo2 | exact ixo1))) rfl ?_
    refine st (OK1.eq (OK1.load1 (Has.t rfl) (i := 0) rfl ty27 (map_some (getD_some (d := 0) (by first | omega | (simp only [Int.toNat_natCast, List.length_set]; omega))))) (isU_eq (rowGet (by omega)))) rfl ?_
    refine st (OK1.mv (Has.t rfl)) rfl ?_
    refine st (OK1.mv (Has.t rfl)) rfl ?_
    refine st (OK1.add64 ext_add64 (Has.t rfl) (Has.t rfl) (Has.t rfl) (by first | with_reducible assumption | with_reducible exact car_le _ _ _ | with_reducible exact dig_lt _ _ | omega) ⟨(by first | with_reducible assumption | with_reducible exact car_le _ _ _ | with_reducible exact dig_lt _ _ | omega), (by first | with_reducible assumption | with_reducible exact car_le _ _ _ | with_reducible exact dig_lt _ _ | omega)⟩) rfl ?_
    refine st (OK1.mv (Has.t rfl)) rfl ?_
    refine st (OK1.ext (Has.t rfl) rfl) rfl ?_
    refine st (OK1.ext (Has.t rfl) rfl) rfl ?_
    refine st (OK1.eq (OK1.ixWin sl53 ty27 (Has.t rfl) (Has.t rfl) ⟨by omega, by omega⟩) (isPtr_eq (by first | exact ixo0 | exact ixo2 | exact ixo1))) rfl ?_
    refine Ops.storeM (Has.t rfl) (Has.t rfl) (i := 0) rfl ty27 (by first | omega | (simp only [Int.toNat_natCast, List.length_set, List.length_replicate]; omega)) (M' := [(_, _)]) rfl ?_
    refine st (OK1.as (Has.t rfl)) rfl ?_
    refine nl ?_
    refine At.bln ?_
    refine At.thn (hK7 _ _ ?_); clear hK7
    refine Tri.region ?_
    refine st (OK1.addI (Has.t rfl) (Has.cI 1 rfl) (by first | with_reducible assumption | with_reducible exact car_le _ _ _ | with_reducible exact dig_lt _ _ | omega) (by first | with_reducible assumption | with_reducible exact car_le _ _ _ | with_reducible exact dig_lt _ _ | omega)) rfl ?_
    refine st (OK1.mv (Has.t rfl)) rfl ?_
    refine nl ?_
    refine At.thn ?_
    refine hK4 (⟨i + 1, by omega⟩) _ _ ?_ (Cv.mem (.cons (t := 9) (Has.t' rfl ?_) (.cons (t := 4) (Has.t' rfl ?_) (.cons (t := 0) (Has.t rfl) (.cons (t := 1) (Has.t rfl) (.cons (t := 7) (Has.t rfl) (.cons (t := 8) (Has.t rfl) .nil)))))) ?_)
    · show (List.length (words v)) - (i + 1) < (List.length (words v)) - i; omega
    · rfl
    · exact isU_eq (add_car _ _ _)
    · exact memL_eq (winPut (by omega) (ws_dig (by omega)))
  · have hc1 := BP.f hc1
    refine Tri.exit ?_
    refine At.the ?_
    refine At.the ?_
    refine At.blh ?_
    refine At.thn (hK2 _ _ ?_); clear hK2
    refine Tri.region ?_
    refine st (OK1.mv (Has.t rfl)) rfl ?_
    refine st (OK1.mv (Has.t rfl)) rfl ?_
    refine st (OK1.len sl53 (Has.t rfl)) rfl ?_
    refine st (OK1.eq (OK1.ixWin sl53 ty27 (Has.t rfl) (Has.t rfl) ⟨by omega, by omega⟩) (isPtr_eq (by first | exact ixo0 | exact ixo2 | exact ixo1))) rfl ?_
    refine st (OK1.eq (OK1.load1 (Has.t rfl) (i := 0) rfl ty27 (map_some (getD_some (d := 0) (by first | omega | (simp only [Int.toNat_natCast, List.length_set]; omega))))) ((isU_eq (rowGet' (j := (List.length (words v))) (by omega) (by omega))))) rfl ?_
    refine st (OK1.mv (Has.t rfl)) rfl ?_
    refine st (OK1.addU (Has.t rfl) (Has.t rfl)) rfl ?_
    refine st (OK1.eq (OK1.ixWin sl53 ty27 (Has.t rfl) (Has.t rfl) ⟨by omega, by omega⟩) (isPtr_eq (by first | exact ixo0 | exact ixo2 | exact ixo1))) rfl ?_
    refine Ops.storeM (Has.t rfl) (Has.t rfl) (i := 0) rfl ty27 (by first | omega | (simp only [Int.toNat_natCast, List.length_set, List.length_replicate]; omega)) (M' := [(_, _)]) rfl ?_
    refine nl ?_
    refine rtM0 (.inr rfl) Try.results184 rfl (i := 0) ?_
    all_goals (obtain rfl : i = (List.length (words v)) := (by omega); exact memU_eq ((winPut (by omega) (backTop (nw_lt v))).trans (winEnd (by omega) h3 (wsum_lt _ _ _))))
end Go.Proofs.Ytokhpacdgoebpaa
