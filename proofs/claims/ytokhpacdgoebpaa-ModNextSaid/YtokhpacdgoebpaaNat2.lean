/- Contracts: natural numbers (layer 1), the sums. -/
import Derived.Test.YtokhpacdgoebpaaNat1
import Derived.Test.YtokhpacdgoebpaaNatN
namespace Go.Proofs.Ytokhpacdgoebpaa
open Go.En Go.RowKit
set_option linter.unusedVariables false
set_option maxRecDepth 10000
open Go.Nt
set_option maxHeartbeats 4000000 in
theorem nat_Add {xs ys : List Nat} (hx : (List.length (words (val xs))) < 4294967296) (hy : (List.length (words (val ys))) < 4294967296) : Ctr Try.prog 109 [isWords xs, isWords ys] (isWords (words (val xs + val ys))) := by
  refine Ctr.intro Try.func109 rfl (by kernel_rfl) Try.ntmps109 rfl fun w0 F0 => ?_
  refine Tri.cv (Cv.wk (.cons (t := 0) (Has.t rfl) (.cons (t := 1) (Has.t rfl) .nil))) ?_
  refine Tri.fact (Has.lenLt (Has.t (t := 0) rfl)) fun lt0 => ?_
  refine Tri.fact (Has.okW (Has.t (t := 0) rfl)) fun ok0 => ?_
  refine Tri.fact (Has.lenLt (Has.t (t := 1) rfl)) fun lt1 => ?_
  refine Tri.fact (Has.okW (Has.t (t := 1) rfl)) fun ok1 => ?_
  refine Tri.seq fun K1 hK1 => ?_
  refine Tri.region ?_
  refine st (OK1.as (Has.cW (f := isU))) rfl ?_
  refine nl ?_
  refine At.thn (hK1 _ _ ?_); clear hK1
  refine Tri.seq fun K2 hK2 => ?_
  refine Tri.region ?_
  refine st (OK1.mv (Has.t rfl)) rfl ?_
  refine st (OK1.call (nat_trim) (.cons (Has.t rfl) .nil)) rfl ?_
  refine st (OK1.mv (Has.t rfl)) rfl ?_
  refine st (OK1.call (nat_trim) (.cons (Has.t rfl) .nil)) rfl ?_
  refine st (OK1.as (Has.t rfl)) rfl ?_
  refine st (OK1.as (Has.t rfl)) rfl ?_
  refine nl ?_
  refine At.thn (hK2 _ _ ?_); clear hK2
  refine Tri.cutF [4] (fun (z : { z : Nat × Nat // z.1 + z.2 = val xs + val ys ∧ (List.length (words z.2)) ≤ (List.length (words z.1)) ∧ (List.length (words z.1)) < 4294967296 }) => match z with | ⟨(p, q), hI⟩ => [(0, isWords (words p)), (1, isWords (words q))]) (fun M => fun (z : { z : Nat × Nat // z.1 + z.2 = val xs + val ys ∧ (List.length (words z.2)) ≤ (List.length (words z.1)) ∧ (List.length (words z.1)) < 4294967296 }) => match z with | ⟨(p, q), hI⟩ => M) (fun K3 hK3 => ?_) ?_
  · skip
    refine Tri.seq fun K4 hK4 => ?_
    refine Tri.region ?_
    refine st (OK1.mv (Has.t rfl)) rfl ?_
    refine st (OK1.len sl53 (Has.t rfl)) rfl ?_
    refine st (OK1.mv (Has.t rfl)) rfl ?_
    refine st (OK1.len sl53 (Has.t rfl)) rfl ?_
    refine st (OK1.ltI (Has.t rfl) (Has.t rfl)) rfl ?_
    refine nl ?_
    refine At.thn (hK4 _ _ ?_); clear hK4
    refine Tri.cv (Cv.wk (.cons (t := 0) (Has.t rfl) (.cons (t := 1) (Has.t rfl) (.cons (t := 4) (Has.t rfl) (.cons (t := 17) (Has.t rfl) .nil))))) ?_
    refine Tri.cond (Has.t rfl) (fun hc1 => ?_) (fun hc1 => ?_)
    · have hc1 := BP.t hc1
      refine Tri.region ?_
      refine st (OK1.mv (Has.t rfl)) rfl ?_
      refine st (OK1.mv (Has.t rfl)) rfl ?_
      refine st (OK1.as (Has.t rfl)) rfl ?_
      refine st (OK1.as (Has.t rfl)) rfl ?_
      refine nl ?_
      refine At.thn ?_
      refine hK3 (⟨(val ys, val xs), Nat.add_comm _ _, by simp only []; omega, hy⟩) _ _ (Cv.mem (.cons (t := 0) (Has.t' rfl ?_) (.cons (t := 1) (Has.t' rfl ?_) (.cons (t := 4) (Has.t rfl) .nil))) ?_)
      · rfl
      · rfl
      · rfl
    · have hc1 := BP.f hc1
      refine Tri.skip ?_
      refine At.thn ?_
      refine hK3 (⟨(val xs, val ys), rfl, by simp only []; omega, hx⟩) _ _ (Cv.mem (.cons (t := 0) (Has.t' rfl ?_) (.cons (t := 1) (Has.t' rfl ?_) (.cons (t := 4) (Has.t rfl) .nil))) ?_)
      · rfl
      · rfl
      · rfl
  rintro ⟨⟨p, q⟩, hI1, hI2, hI3⟩
  refine Tri.cv (Cv.wk (.cons (t := 0) (Has.t rfl) (.cons (t := 1) (Has.t rfl) (.cons (t := 4) (Has.t rfl) .nil)))) ?_
  simp only [] at hI1 hI2 hI3
  refine Tri.seq fun K5 hK5 => ?_
  refine Tri.region ?_
  refine st (OK1.mv (Has.t rfl)) rfl ?_
  refine st (OK1.len sl53 (Has.t rfl)) rfl ?_
  refine st (OK1.addI (Has.t rfl) (Has.cI 1 rfl) (by first | omega | assumption | exact True.intro | exact dig_lt _ _ | exact car_le _ _ _ | exact bor_le _ _ _) (by first | omega | assumption | exact True.intro | exact dig_lt _ _ | exact car_le _ _ _ | exact bor_le _ _ _)) rfl ?_
  refine Ops.make (f := isU) (u := 0) (n := (List.length (words p)) + 1) (c := (List.length (words p)) + 1) sl53 ty27 zero27 (fun _ _ => ⟨⟨rfl, by decide⟩, trivial⟩) by27 (Has.t' rfl rfl) (Has.t' rfl rfl) ⟨by omega, by omega⟩ rfl fun b1 => ?_
  refine st (OK1.as (Has.t rfl)) rfl ?_
  refine nl ?_
  refine At.thn (hK5 _ _ ?_); clear hK5
  refine Tri.seq fun K6 hK6 => ?_
  refine Tri.region ?_
  refine st (OK1.as (Has.cU 0 rfl)) rfl ?_
  refine nl ?_
  refine At.thn (hK6 _ _ ?_); clear hK6
  refine Tri.seq fun K7 hK7 => ?_
  refine Tri.seq fun K8 hK8 => ?_
  refine Tri.region ?_
  refine st (OK1.mv (Has.t rfl)) rfl ?_
  refine st (OK1.len sl53 (Has.t rfl)) rfl ?_
  refine st (OK1.mv (Has.cI 0 rfl)) rfl ?_
  refine nl ?_
  refine At.thn (hK8 _ _ ?_); clear hK8
  refine Tri.cv (Cv.wk (.cons (t := 4) (Has.t rfl) (.cons (t := 0) (Has.t rfl) (.cons (t := 1) (Has.t rfl) (.cons (t := 5) (Has.t rfl) (.cons (t := 6) (Has.t rfl) (.cons (t := 25) (Has.t rfl) (.cons (t := 26) (Has.t rfl) .nil)))))))) ?_
  refine Tri.block ?_
  refine Tri.loopF [4, 0, 1, 5, 25] (fun (z : { i : Nat // i ≤ (List.length (words p)) }) => match z with | ⟨i, hI⟩ => [(26, isI (i : Int)), (6, isU (car p q i))]) (fun M => fun (z : { i : Nat // i ≤ (List.length (words p)) }) => match z with | ⟨i, hI⟩ => [(some b1, cellM (List.map isU (wpart (p + q) i ((List.length (words p)) + 1))))]) (fun (z : { i : Nat // i ≤ (List.length (words p)) }) => match z with | ⟨i, hI⟩ => (List.length (words p)) - i) (⟨0, Nat.zero_le _⟩) (Cv.mem (.cons (t := 26) (Has.t' rfl ?_) (.cons (t := 6) (Has.t' rfl ?_) (.cons (t := 4) (Has.t rfl) (.cons (t := 0) (Has.t rfl) (.cons (t := 1) (Has.t rfl) (.cons (t := 5) (Has.t rfl) (.cons (t := 25) (Has.t rfl) .nil))))))) ?_) ?_
  · rfl
  · exact isU_eq (car_zero _ _)
  · exact memL_eq (wpart_zero _ _)
  rintro ⟨i, hI⟩ K9 hK9
  refine Tri.cv (Cv.wk (.cons (t := 26) (Has.t rfl) (.cons (t := 6) (Has.t rfl) (.cons (t := 4) (Has.t rfl) (.cons (t := 0) (Has.t rfl) (.cons (t := 1) (Has.t rfl) (.cons (t := 5) (Has.t rfl) (.cons (t := 25) (Has.t rfl) .nil)))))))) ?_
  refine Tri.memEq (M' := [(some b1, cellM (List.map isU (wpart (p + q) i ((List.length (words p)) + 1))))]) rfl ?_
  have wl : (wpart (p + q) i ((List.length (words p)) + 1)).length = (List.length (words p)) + 1 := wpart_len (by omega)
  refine Tri.seq fun K10 hK10 => ?_
  refine Tri.region ?_
  refine st (OK1.ltI (Has.t rfl) (Has.t rfl)) rfl ?_
  refine nl ?_
  refine At.thn (hK10 _ _ ?_); clear hK10
  refine Tri.seq fun K11 hK11 => ?_
  refine Tri.cond (Has.t rfl) (fun hc2 => ?_) (fun hc2 => ?_)
  · have hc2 := BP.t hc2
    refine Tri.skip ?_
    refine At.thn (hK11 _ _ ?_); clear hK11
    refine Tri.seq fun K12 hK12 => ?_
    refine Tri.block ?_
    refine Tri.seq fun K13 hK13 => ?_
    refine Tri.region ?_
    refine st (OK1.mv (Has.t rfl)) rfl ?_
    refine st (OK1.as (Has.t rfl)) rfl ?_
    refine nl ?_
    refine At.thn (hK13 _ _ ?_); clear hK13
    refine Tri.seq fun K14 hK14 => ?_
    refine Tri.region ?_
    refine st (OK1.as (Has.cU 0 rfl)) rfl ?_
    refine nl ?_
    refine At.thn (hK14 _ _ ?_); clear hK14
    refine Tri.cutF [4, 0, 1, 5, 25, 26, 6, 27, 28, 7] (fun (_ : Unit) => [(8, isU (dig q i))]) (fun M => fun (_ : Unit) => M) (fun K15 hK15 => ?_) ?_
    · skip
      refine Tri.seq fun K16 hK16 => ?_
      refine Tri.region ?_
      refine st (OK1.mv (Has.t rfl)) rfl ?_
      refine st (OK1.mv (Has.t rfl)) rfl ?_
      refine st (OK1.len sl53 (Has.t rfl)) rfl ?_
      refine st (OK1.ltI (Has.t rfl) (Has.t rfl)) rfl ?_
      refine nl ?_
      refine At.thn (hK16 _ _ ?_); clear hK16
      refine Tri.cond (Has.t rfl) (fun hc3 => ?_) (fun hc3 => ?_)
      · have hc3 := BP.t hc3
        refine Tri.region ?_
        refine st (OK1.mv (Has.t rfl)) rfl ?_
        refine st (OK1.mv (Has.t rfl)) rfl ?_
        refine st (OK1.ixP sl53 ty27 (Has.t rfl) (Has.t rfl) ⟨by omega, by omega⟩ (getD_some (d := 0) (by first | omega | (simp only [Int.toNat_natCast, List.length_set]; omega)))) rfl ?_
        refine st (OK1.loadP1 (Has.t rfl) ty27) rfl ?_
        refine st (OK1.as (Has.t rfl)) rfl ?_
        refine nl ?_
        refine At.thn ?_
        refine hK15 (()) _ _ (Cv.mem (.cons (t := 8) (Has.t' rfl ?_) (.cons (t := 4) (Has.t rfl) (.cons (t := 0) (Has.t rfl) (.cons (t := 1) (Has.t rfl) (.cons (t := 5) (Has.t rfl) (.cons (t := 25) (Has.t rfl) (.cons (t := 26) (Has.t rfl) (.cons (t := 6) (Has.t rfl) (.cons (t := 27) (Has.t rfl) (.cons (t := 28) (Has.t rfl) (.cons (t := 7) (Has.t rfl) .nil))))))))))) ?_)
        · first | exact isU_eq (getD_words _ _) | exact isU_eq (dig_zero (by omega)).symm
        · rfl
      · have hc3 := BP.f hc3
        refine Tri.skip ?_
        refine At.thn ?_
        refine hK15 (()) _ _ (Cv.mem (.cons (t := 8) (Has.t' rfl ?_) (.cons (t := 4) (Has.t rfl) (.cons (t := 0) (Has.t rfl) (.cons (t := 1) (Has.t rfl) (.cons (t := 5) (Has.t rfl) (.cons (t := 25) (Has.t rfl) (.cons (t := 26) (Has.t rfl) (.cons (t := 6) (Has.t rfl) (.cons (t := 27) (Has.t rfl) (.cons (t := 28) (Has.t rfl) (.cons (t := 7) (Has.t rfl) .nil))))))))))) ?_)
        · first | exact isU_eq (getD_words _ _) | exact isU_eq (dig_zero (by omega)).symm
        · rfl
    rintro _
    refine Tri.cv (Cv.wk (.cons (t := 8) (Has.t rfl) (.cons (t := 4) (Has.t rfl) (.cons (t := 0) (Has.t rfl) (.cons (t := 1) (Has.t rfl) (.cons (t := 5) (Has.t rfl) (.cons (t := 25) (Has.t rfl) (.cons (t := 26) (Has.t rfl) (.cons (t := 6) (Has.t rfl) (.cons (t := 27) (Has.t rfl) (.cons (t := 28) (Has.t rfl) (.cons (t := 7) (Has.t rfl) .nil)))))))))))) ?_
    refine Tri.region ?_
    refine st (OK1.mv (Has.t rfl)) rfl ?_
    refine st (OK1.mv (Has.t rfl)) rfl ?_
    refine st (OK1.mv (Has.t rfl)) rfl ?_
    refine st (OK1.mv (Has.t rfl)) rfl ?_
    refine st (OK1.ixP sl53 ty27 (Has.t rfl) (Has.t rfl) ⟨by omega, by omega⟩ (getD_some (d := 0) (by first | omega | (simp only [Int.toNat_natCast, List.length_set]; omega)))) rfl ?_
    refine st (OK1.eq (OK1.loadP1 (Has.t rfl) ty27) (isU_eq (getD_words _ i))) rfl ?_
    refine st (OK1.mv (Has.t rfl)) rfl ?_
    refine st (OK1.mv (Has.t rfl)) rfl ?_
    refine st (OK1.add64 ext_add64 (Has.t rfl) (Has.t rfl) (Has.t rfl) (by first | omega | assumption | exact True.intro | exact dig_lt _ _ | exact car_le _ _ _ | exact bor_le _ _ _) ⟨(by first | omega | assumption | exact True.intro | exact dig_lt _ _ | exact car_le _ _ _ | exact bor_le _ _ _), (by first | omega | assumption | exact True.intro | exact dig_lt _ _ | exact car_le _ _ _ | exact bor_le _ _ _)⟩) rfl ?_
    refine st (OK1.mv (Has.t rfl)) rfl ?_
    refine st (OK1.ext (Has.t rfl) rfl) rfl ?_
    refine st (OK1.ext (Has.t rfl) rfl) rfl ?_
    refine st (OK1.eq (OK1.ixWin sl53 ty27 (Has.t rfl) (Has.t rfl) ⟨by omega, by omega⟩) (isPtr_eq (by first | exact ixo0 | exact ixo2 | exact ixo1))) rfl ?_
    refine Ops.storeM (Has.t rfl) (Has.t rfl) (i := 0) rfl ty27 (by first | omega | (simp only [Int.toNat_natCast, List.length_set, List.length_replicate]; omega)) (M' := [(_, _)]) rfl ?_
    refine st (OK1.as (Has.t rfl)) rfl ?_
    refine nl ?_
    refine At.bln ?_
    refine At.thn (hK12 _ _ ?_); clear hK12
    refine Tri.region ?_
    refine st (OK1.addI (Has.t rfl) (Has.cI 1 rfl) (by first | omega | assumption | exact True.intro | exact dig_lt _ _ | exact car_le _ _ _ | exact bor_le _ _ _) (by first | omega | assumption | exact True.intro | exact dig_lt _ _ | exact car_le _ _ _ | exact bor_le _ _ _)) rfl ?_
    refine st (OK1.mv (Has.t rfl)) rfl ?_
    refine nl ?_
    refine At.thn ?_
    refine hK9 (⟨i + 1, by omega⟩) _ _ ?_ (Cv.mem (.cons (t := 26) (Has.t' rfl ?_) (.cons (t := 6) (Has.t' rfl ?_) (.cons (t := 4) (Has.t rfl) (.cons (t := 0) (Has.t rfl) (.cons (t := 1) (Has.t rfl) (.cons (t := 5) (Has.t rfl) (.cons (t := 25) (Has.t rfl) .nil))))))) ?_)
    · show (List.length (words p)) - (i + 1) < (List.length (words p)) - i; omega
    · rfl
    · exact isU_eq (add_car _ _ _)
    · exact memL_eq (wpart_set (by omega) (add_dig _ _ _))
  · have hc2 := BP.f hc2
    refine Tri.exit ?_
    refine At.the ?_
    refine At.the ?_
    refine At.blh ?_
    refine At.thn (hK7 _ _ ?_); clear hK7
    refine Tri.seq fun K17 hK17 => ?_
    refine Tri.region ?_
    refine st (OK1.mv (Has.t rfl)) rfl ?_
    refine st (OK1.mv (Has.t rfl)) rfl ?_
    refine st (OK1.len sl53 (Has.t rfl)) rfl ?_
    refine st (OK1.mv (Has.t rfl)) rfl ?_
    refine st (OK1.eq (OK1.ixWin sl53 ty27 (Has.t rfl) (Has.t rfl) ⟨by omega, by omega⟩) (isPtr_eq (by first | exact ixo0 | exact ixo2 | exact ixo1))) rfl ?_
    refine Ops.storeM (Has.t rfl) (Has.t rfl) (i := 0) rfl ty27 (by first | omega | (simp only [Int.toNat_natCast, List.length_set, List.length_replicate]; omega)) (M' := [(_, _)]) rfl ?_
    refine nl ?_
    refine At.thn (hK17 _ _ ?_); clear hK17
    refine Tri.cv (Cv.wk (.cons (t := 4) (Has.t rfl) (.cons (t := 5) (Has.t rfl) .nil))) ?_
    refine Tri.seq fun K18 hK18 => ?_
    refine Tri.cv (Cv.freeze' (t := 5) (i := 0) (ys := wordsN ((List.length (words p)) + 1) (p + q)) rfl rfl rfl (by simp; omega) (fz_wpart (by omega) (by omega) (add_top (lt_pow_of (by omega)) (lt_pow_of (by omega))))) ?_
    refine Tri.memEq (M' := []) rfl ?_
    refine Tri.cv (Cv.wk (.cons (t := 4) (Has.t rfl) (.cons (t := 5) (Has.t rfl) .nil))) ?_
    refine Tri.region ?_
    refine st (OK1.mv (Has.t rfl)) rfl ?_
    refine st (OK1.call (nat_normal) (.cons (Has.t rfl) .nil)) rfl ?_
    refine st (OK1.as (Has.t rfl)) rfl ?_
    refine nl ?_
    refine At.thn (hK18 _ _ ?_); clear hK18
    refine Tri.ret ?_
    refine rt1 (.inl rfl) Try.results109 rfl (.tmp (Has.t' rfl ?_) .nil)
    all_goals (exact SlM_eq (by rw [words_val_wordsN (add_lt (nw_lt p) (lt_pow_of hI2)), hI1]))

set_option maxHeartbeats 4000000 in
theorem nat_Sub {xs ys : List Nat} (hx : (List.length (words (val xs))) < 4294967296) : Ctr Try.prog 110 [isWords xs, isWords ys] (isTup [isWords (words (val xs - val ys)), isB (decide (val ys ≤ val xs))]) := by
  refine Ctr.intro Try.func110 rfl (by kernel_rfl) Try.ntmps110 rfl fun w0 F0 => ?_
  refine Tri.cv (Cv.wk (.cons (t := 0) (Has.t rfl) (.cons (t := 1) (Has.t rfl) .nil))) ?_
  refine Tri.fact (Has.lenLt (Has.t (t := 0) rfl)) fun lt0 => ?_
  refine Tri.fact (Has.okW (Has.t (t := 0) rfl)) fun ok0 => ?_
  refine Tri.fact (Has.lenLt (Has.t (t := 1) rfl)) fun lt1 => ?_
  refine Tri.fact (Has.okW (Has.t (t := 1) rfl)) fun ok1 => ?_
  refine Tri.seq fun K1 hK1 => ?_
  refine Tri.region ?_
  refine st (OK1.as (Has.cW (f := isU))) rfl ?_
  refine st (OK1.as (Has.cB false)) rfl ?_
  refine nl ?_
  refine At.thn (hK1 _ _ ?_); clear hK1
  refine Tri.seq fun K2 hK2 => ?_
  refine Tri.seq fun K3 hK3 => ?_
  refine Tri.region ?_
  refine st (OK1.mv (Has.t rfl)) rfl ?_
  refine st (OK1.mv (Has.t rfl)) rfl ?_
  refine st (OK1.call (nat_Cmp) (.cons (Has.t rfl) (.cons (Has.t rfl) .nil))) rfl ?_
  refine st (OK1.ltI (Has.t rfl) (Has.cI 0 rfl)) rfl ?_
  refine nl ?_
  refine At.thn (hK3 _ _ ?_); clear hK3
  refine Tri.cond (Has.t rfl) (fun hc1 => ?_) (fun hc1 => ?_)
  · have hc1 := BP.t hc1
    have hlt := cmpN_neg.1 hc1
    refine Tri.seq fun K4 hK4 => ?_
    refine Tri.region ?_
    refine st (OK1.as (Has.cW (f := isU))) rfl ?_
    refine st (OK1.as (Has.cB false)) rfl ?_
    refine nl ?_
    refine At.thn (hK4 _ _ ?_); clear hK4
    refine Tri.ret ?_
    refine At.thr ?_
    refine rtN (.inl rfl) Try.results110 rfl rfl (.tmp (Has.t' rfl ?_) (.tmp (Has.t' rfl ?_) .nil))
    · exact SlM_eq (by rw [Nat.sub_eq_zero_of_le (Nat.le_of_lt hlt), words_zero])
    · exact isB_eq (by simp; omega)
  · have hc1 := BP.f hc1
    have hle : val ys ≤ val xs := Nat.le_of_not_lt (fun h => by have := cmpN_neg.2 h; omega)
    have hnw := nw_mono hle
    refine Tri.skip ?_
    refine At.thn (hK2 _ _ ?_); clear hK2
    refine Tri.seq fun K5 hK5 => ?_
    refine Tri.region ?_
    refine st (OK1.mv (Has.t rfl)) rfl ?_
    refine st (OK1.call (nat_trim) (.cons (Has.t rfl) .nil)) rfl ?_
    refine st (OK1.mv (Has.t rfl)) rfl ?_
    refine st (OK1.call (nat_trim) (.cons (Has.t rfl) .nil)) rfl ?_
    refine st (OK1.as (Has.t rfl)) rfl ?_
    refine st (OK1.as (Has.t rfl)) rfl ?_
    refine nl ?_
    refine At.thn (hK5 _ _ ?_); clear hK5
    refine Tri.cv (Cv.wk (.cons (t := 0) (Has.t rfl) (.cons (t := 1) (Has.t rfl) (.cons (t := 4) (Has.t rfl) (.cons (t := 5) (Has.t rfl) .nil))))) ?_
    refine Tri.seq fun K6 hK6 => ?_
    refine Tri.region ?_
    refine st (OK1.mv (Has.t rfl)) rfl ?_
    refine st (OK1.len sl53 (Has.t rfl)) rfl ?_
    refine Ops.make (f := isU) (u := 0) (n := (List.length (words (val xs)))) (c := (List.length (words (val xs)))) sl53 ty27 zero27 (fun _ _ => ⟨⟨rfl, by decide⟩, trivial⟩) by27 (Has.t' rfl rfl) (Has.t' rfl rfl) ⟨by omega, by omega⟩ rfl fun b1 => ?_
    refine st (OK1.as (Has.t rfl)) rfl ?_
    refine nl ?_
    refine At.thn (hK6 _ _ ?_); clear hK6
    refine Tri.seq fun K7 hK7 => ?_
    refine Tri.region ?_
    refine st (OK1.as (Has.cU 0 rfl)) rfl ?_
    refine nl ?_
    refine At.thn (hK7 _ _ ?_); clear hK7
    refine Tri.seq fun K8 hK8 => ?_
    refine Tri.seq fun K9 hK9 => ?_
    refine Tri.region ?_
    refine st (OK1.mv (Has.t rfl)) rfl ?_
    refine st (OK1.len sl53 (Has.t rfl)) rfl ?_
    refine st (OK1.mv (Has.cI 0 rfl)) rfl ?_
    refine nl ?_
    refine At.thn (hK9 _ _ ?_); clear hK9
    refine Tri.block ?_
    refine Tri.loopF [0, 1, 4, 5, 6, 22] (fun (z : { i : Nat // i ≤ (List.length (words (val xs))) }) => match z with | ⟨i, hI⟩ => [(23, isI (i : Int)), (7, isU (bor (val xs) (val ys) i))]) (fun M => fun (z : { i : Nat // i ≤ (List.length (words (val xs))) }) => match z with | ⟨i, hI⟩ => [(some b1, cellM (List.map isU (wpart (val xs - val ys) i ((List.length (words (val xs)))))))]) (fun (z : { i : Nat // i ≤ (List.length (words (val xs))) }) => match z with | ⟨i, hI⟩ => (List.length (words (val xs))) - i) (⟨0, Nat.zero_le _⟩) (Cv.mem (.cons (t := 23) (Has.t' rfl ?_) (.cons (t := 7) (Has.t' rfl ?_) (.cons (t := 0) (Has.t rfl) (.cons (t := 1) (Has.t rfl) (.cons (t := 4) (Has.t rfl) (.cons (t := 5) (Has.t rfl) (.cons (t := 6) (Has.t rfl) (.cons (t := 22) (Has.t rfl) .nil)))))))) ?_) ?_
    · rfl
    · exact isU_eq (bor_zero _ _)
    · exact memL_eq (wpart_zero _ _)
    rintro ⟨i, hI⟩ K10 hK10
    refine Tri.cv (Cv.wk (.cons (t := 23) (Has.t rfl) (.cons (t := 7) (Has.t rfl) (.cons (t := 0) (Has.t rfl) (.cons (t := 1) (Has.t rfl) (.cons (t := 4) (Has.t rfl) (.cons (t := 5) (Has.t rfl) (.cons (t := 6) (Has.t rfl) (.cons (t := 22) (Has.t rfl) .nil))))))))) ?_
    refine Tri.memEq (M' := [(some b1, cellM (List.map isU (wpart (val xs - val ys) i ((List.length (words (val xs)))))))]) rfl ?_
    have wl : (wpart (val xs - val ys) i ((List.length (words (val xs))))).length = (List.length (words (val xs))) := wpart_len (by omega)
    refine Tri.seq fun K11 hK11 => ?_
    refine Tri.region ?_
    refine st (OK1.ltI (Has.t rfl) (Has.t rfl)) rfl ?_
    refine nl ?_
    refine At.thn (hK11 _ _ ?_); clear hK11
    refine Tri.seq fun K12 hK12 => ?_
    refine Tri.cond (Has.t rfl) (fun hc2 => ?_) (fun hc2 => ?_)
    · have hc2 := BP.t hc2
      refine Tri.skip ?_
      refine At.thn (hK12 _ _ ?_); clear hK12
      refine Tri.seq fun K13 hK13 => ?_
      refine Tri.block ?_
      refine Tri.seq fun K14 hK14 => ?_
      refine Tri.region ?_
      refine st (OK1.mv (Has.t rfl)) rfl ?_
      refine st (OK1.as (Has.t rfl)) rfl ?_
      refine nl ?_
      refine At.thn (hK14 _ _ ?_); clear hK14
      refine Tri.seq fun K15 hK15 => ?_
      refine Tri.region ?_
      refine st (OK1.as (Has.cU 0 rfl)) rfl ?_
      refine nl ?_
      refine At.thn (hK15 _ _ ?_); clear hK15
      refine Tri.cutF [0, 1, 4, 5, 6, 22, 23, 7, 24, 25, 8] (fun (_ : Unit) => [(9, isU (dig (val ys) i))]) (fun M => fun (_ : Unit) => M) (fun K16 hK16 => ?_) ?_
      · skip
        refine Tri.seq fun K17 hK17 => ?_
        refine Tri.region ?_
        refine st (OK1.mv (Has.t rfl)) rfl ?_
        refine st (OK1.mv (Has.t rfl)) rfl ?_
        refine st (OK1.len sl53 (Has.t rfl)) rfl ?_
        refine st (OK1.ltI (Has.t rfl) (Has.t rfl)) rfl ?_
        refine nl ?_
        refine At.thn (hK17 _ _ ?_); clear hK17
        refine Tri.cond (Has.t rfl) (fun hc3 => ?_) (fun hc3 => ?_)
        · have hc3 := BP.t hc3
          refine Tri.region ?_
          refine st (OK1.mv (Has.t rfl)) rfl ?_
          refine st (OK1.mv (Has.t rfl)) rfl ?_
          refine st (OK1.ixP sl53 ty27 (Has.t rfl) (Has.t rfl) ⟨by omega, by omega⟩ (getD_some (d := 0) (by first | omega | (simp only [Int.toNat_natCast, List.length_set]; omega)))) rfl ?_
          refine st (OK1.loadP1 (Has.t rfl) ty27) rfl ?_
          refine st (OK1.as (Has.t rfl)) rfl ?_
          refine nl ?_
          refine At.thn ?_
          refine hK16 (()) _ _ (Cv.mem (.cons (t := 9) (Has.t' rfl ?_) (.cons (t := 0) (Has.t rfl) (.cons (t := 1) (Has.t rfl) (.cons (t := 4) (Has.t rfl) (.cons (t := 5) (Has.t rfl) (.cons (t := 6) (Has.t rfl) (.cons (t := 22) (Has.t rfl) (.cons (t := 23) (Has.t rfl) (.cons (t := 7) (Has.t rfl) (.cons (t := 24) (Has.t rfl) (.cons (t := 25) (Has.t rfl) (.cons (t := 8) (Has.t rfl) .nil)))))))))))) ?_)
          · first | exact isU_eq (getD_words _ _) | exact isU_eq (dig_zero (by omega)).symm
          · rfl
        · have hc3 := BP.f hc3
          refine Tri.skip ?_
          refine At.thn ?_
          refine hK16 (()) _ _ (Cv.mem (.cons (t := 9) (Has.t' rfl ?_) (.cons (t := 0) (Has.t rfl) (.cons (t := 1) (Has.t rfl) (.cons (t := 4) (Has.t rfl) (.cons (t := 5) (Has.t rfl) (.cons (t := 6) (Has.t rfl) (.cons (t := 22) (Has.t rfl) (.cons (t := 23) (Has.t rfl) (.cons (t := 7) (Has.t rfl) (.cons (t := 24) (Has.t rfl) (.cons (t := 25) (Has.t rfl) (.cons (t := 8) (Has.t rfl) .nil)))))))))))) ?_)
          · first | exact isU_eq (getD_words _ _) | exact isU_eq (dig_zero (by omega)).symm
          · rfl
      rintro _
      refine Tri.cv (Cv.wk (.cons (t := 9) (Has.t rfl) (.cons (t := 0) (Has.t rfl) (.cons (t := 1) (Has.t rfl) (.cons (t := 4) (Has.t rfl) (.cons (t := 5) (Has.t rfl) (.cons (t := 6) (Has.t rfl) (.cons (t := 22) (Has.t rfl) (.cons (t := 23) (Has.t rfl) (.cons (t := 7) (Has.t rfl) (.cons (t := 24) (Has.t rfl) (.cons (t := 25) (Has.t rfl) (.cons (t := 8) (Has.t rfl) .nil))))))))))))) ?_
      refine Tri.region ?_
      refine st (OK1.mv (Has.t rfl)) rfl ?_
      refine st (OK1.mv (Has.t rfl)) rfl ?_
      refine st (OK1.mv (Has.t rfl)) rfl ?_
      refine st (OK1.mv (Has.t rfl)) rfl ?_
      refine st (OK1.ixP sl53 ty27 (Has.t rfl) (Has.t rfl) ⟨by omega, by omega⟩ (getD_some (d := 0) (by first | omega | (simp only [Int.toNat_natCast, List.length_set]; omega)))) rfl ?_
      refine st (OK1.eq (OK1.loadP1 (Has.t rfl) ty27) (isU_eq (getD_words _ i))) rfl ?_
      refine st (OK1.mv (Has.t rfl)) rfl ?_
      refine st (OK1.mv (Has.t rfl)) rfl ?_
      refine st (OK1.sub64 ext_sub64 (Has.t rfl) (Has.t rfl) (Has.t rfl) (by first | omega | assumption | exact True.intro | exact dig_lt _ _ | exact car_le _ _ _ | exact bor_le _ _ _) ⟨(by first | omega | assumption | exact True.intro | exact dig_lt _ _ | exact car_le _ _ _ | exact bor_le _ _ _), (by first | omega | assumption | exact True.intro | exact dig_lt _ _ | exact car_le _ _ _ | exact bor_le _ _ _)⟩) rfl ?_
      refine st (OK1.mv (Has.t rfl)) rfl ?_
      refine st (OK1.ext (Has.t rfl) rfl) rfl ?_
      refine st (OK1.ext (Has.t rfl) rfl) rfl ?_
      refine st (OK1.eq (OK1.ixWin sl53 ty27 (Has.t rfl) (Has.t rfl) ⟨by omega, by omega⟩) (isPtr_eq (by first | exact ixo0 | exact ixo2 | exact ixo1))) rfl ?_
      refine Ops.storeM (Has.t rfl) (Has.t rfl) (i := 0) rfl ty27 (by first | omega | (simp only [Int.toNat_natCast, List.length_set, List.length_replicate]; omega)) (M' := [(_, _)]) rfl ?_
      refine st (OK1.as (Has.t rfl)) rfl ?_
      refine nl ?_
      refine At.bln ?_
      refine At.thn (hK13 _ _ ?_); clear hK13
      refine Tri.region ?_
      refine st (OK1.addI (Has.t rfl) (Has.cI 1 rfl) (by first | omega | assumption | exact True.intro | exact dig_lt _ _ | exact car_le _ _ _ | exact bor_le _ _ _) (by first | omega | assumption | exact True.intro | exact dig_lt _ _ | exact car_le _ _ _ | exact bor_le _ _ _)) rfl ?_
      refine st (OK1.mv (Has.t rfl)) rfl ?_
      refine nl ?_
      refine At.thn ?_
      refine hK10 (⟨i + 1, by omega⟩) _ _ ?_ (Cv.mem (.cons (t := 23) (Has.t' rfl ?_) (.cons (t := 7) (Has.t' rfl ?_) (.cons (t := 0) (Has.t rfl) (.cons (t := 1) (Has.t rfl) (.cons (t := 4) (Has.t rfl) (.cons (t := 5) (Has.t rfl) (.cons (t := 6) (Has.t rfl) (.cons (t := 22) (Has.t rfl) .nil)))))))) ?_)
      · show (List.length (words (val xs))) - (i + 1) < (List.length (words (val xs))) - i; omega
      · rfl
      · exact isU_eq (bor_succ _ _ _)
      · exact memL_eq (wpart_set (by omega) (sub_dig hle _))
    · have hc2 := BP.f hc2
      refine Tri.exit ?_
      refine At.the ?_
      refine At.the ?_
      refine At.blh ?_
      refine At.thn (hK8 _ _ ?_); clear hK8
      refine Tri.cv (Cv.wk (.cons (t := 4) (Has.t rfl) (.cons (t := 5) (Has.t rfl) (.cons (t := 6) (Has.t rfl) .nil)))) ?_
      refine Tri.seq fun K18 hK18 => ?_
      refine Tri.cv (Cv.freeze' (t := 6) (i := 0) (ys := wordsN ((List.length (words (val xs)))) (val xs - val ys)) rfl rfl rfl (by simp; omega) (fz_wpart' (by omega))) ?_
      refine Tri.memEq (M' := []) rfl ?_
      refine Tri.cv (Cv.wk (.cons (t := 4) (Has.t rfl) (.cons (t := 5) (Has.t rfl) (.cons (t := 6) (Has.t rfl) .nil)))) ?_
      refine Tri.region ?_
      refine st (OK1.mv (Has.t rfl)) rfl ?_
      refine st (OK1.call (nat_normal) (.cons (Has.t rfl) .nil)) rfl ?_
      refine st (OK1.as (Has.t rfl)) rfl ?_
      refine st (OK1.as (Has.cB true)) rfl ?_
      refine nl ?_
      refine At.thn (hK18 _ _ ?_); clear hK18
      refine Tri.ret ?_
      refine rtN (.inl rfl) Try.results110 rfl rfl (.tmp (Has.t' rfl ?_) (.tmp (Has.t' rfl ?_) .nil))
      · exact SlM_eq (by rw [words_val_wordsN (sub_lt' (nw_lt _))])
      · exact isB_eq (by simp; omega)

set_option maxHeartbeats 2000000 in
theorem nat_row {N A x o n c m : Nat} (h1 : (List.length (words A)) + 1 ≤ n) (h2 : o + n ≤ m) (h3 : N / W ^ o < W ^ (List.length (words A))) : CtrM Try.prog 166 (fun b0 => [isWin b0 o n c, isWords (words A), isU x]) (cellM (List.map isU (wordsN m N))) (cellM (List.map isU (wordsN m (N + W ^ o * (A * x))))) (fun b0 => isTup []) := by
  refine CtrM.intro Try.func166 rfl (by kernel_rfl) Try.ntmps166 (fun _ => rfl) fun w0 F0 b0 => ?_
  refine Tri.cv (Cv.wk (.cons (t := 0) (Has.t rfl) (.cons (t := 1) (Has.t rfl) (.cons (t := 2) (Has.t rfl) .nil)))) ?_
  refine Tri.fact (Has.lenLt (Has.t (t := 0) rfl)) fun lt0 => ?_
  refine Tri.fact (Has.winLe (Has.t (t := 0) rfl)) fun lw0 => ?_
  refine Tri.fact (Has.lenLt (Has.t (t := 1) rfl)) fun lt1 => ?_
  refine Tri.fact (Has.okW (Has.t (t := 1) rfl)) fun ok1 => ?_
  refine Tri.fact (Has.ltU (Has.t (t := 2) rfl)) fun lt2 => ?_
  refine Tri.seq fun K1 hK1 => ?_
  refine Tri.region ?_
  refine st (OK1.as (Has.cU 0 rfl)) rfl ?_
  refine nl ?_
  refine At.thn (hK1 _ _ ?_); clear hK1
  refine Tri.seq fun K2 hK2 => ?_
  refine Tri.seq fun K3 hK3 => ?_
  refine Tri.region ?_
  refine st (OK1.mv (Has.t rfl)) rfl ?_
  refine st (OK1.len sl53 (Has.t rfl)) rfl ?_
  refine st (OK1.mv (Has.cI 0 rfl)) rfl ?_
  refine nl ?_
  refine At.thn (hK3 _ _ ?_); clear hK3
  refine Tri.block ?_
  refine Tri.loopF [0, 1, 2, 12, 13] (fun (z : { i : Nat // i ≤ (List.length (words A)) }) => match z with | ⟨i, hI⟩ => [(14, isI (i : Int)), (6, isU (mcar (N / W ^ o) A x i))]) (fun M => fun (z : { i : Nat // i ≤ (List.length (words A)) }) => match z with | ⟨i, hI⟩ => [(some b0, cellM (List.map isU (mix (o + i) (N + W ^ o * (A * x)) N m)))]) (fun (z : { i : Nat // i ≤ (List.length (words A)) }) => match z with | ⟨i, hI⟩ => (List.length (words A)) - i) (⟨0, Nat.zero_le _⟩) (Cv.mem (.cons (t := 14) (Has.t' rfl ?_) (.cons (t := 6) (Has.t' rfl ?_) (.cons (t := 0) (Has.t rfl) (.cons (t := 1) (Has.t rfl) (.cons (t := 2) (Has.t rfl) (.cons (t := 12) (Has.t rfl) (.cons (t := 13) (Has.t rfl) .nil))))))) ?_) ?_
  · rfl
  · exact isU_eq (mcar_zero _ _ _)
  · exact memL_eq (mix_start (by omega) (shifted_mod _ _ _))
  rintro ⟨i, hI⟩ K4 hK4
  refine Tri.cv (Cv.wk (.cons (t := 14) (Has.t rfl) (.cons (t := 6) (Has.t rfl) (.cons (t := 0) (Has.t rfl) (.cons (t := 1) (Has.t rfl) (.cons (t := 2) (Has.t rfl) (.cons (t := 12) (Has.t rfl) (.cons (t := 13) (Has.t rfl) .nil)))))))) ?_
  refine Tri.memEq (M' := [(some b0, cellM (List.map isU (mix (o + i) (N + W ^ o * (A * x)) N m)))]) rfl ?_
  have wl : (mix (o + i) (N + W ^ o * (A * x)) N m).length = m := mix_len (by omega)
  have hrow := row_word lt2 (dig_lt A i) (dig_lt (N / W ^ o) i) (Nat.lt_of_le_of_lt (mcar_le (N / W ^ o) A x i) lt2) (dig_lt _ _) (mul_step_eq (N / W ^ o) A x i)
  have hcl := Nat.lt_of_le_of_lt (mcar_le (N / W ^ o) A x i) lt2
  refine Tri.seq fun K5 hK5 => ?_
  refine Tri.region ?_
  refine st (OK1.ltI (Has.t rfl) (Has.t rfl)) rfl ?_
  refine nl ?_
  refine At.thn (hK5 _ _ ?_); clear hK5
  refine Tri.seq fun K6 hK6 => ?_
  refine Tri.cond (Has.t rfl) (fun hc1 => ?_) (fun hc1 => ?_)
  · have hc1 := BP.t hc1
    refine Tri.skip ?_
    refine At.thn (hK6 _ _ ?_); clear hK6
    refine Tri.seq fun K7 hK7 => ?_
    refine Tri.block ?_
    refine Tri.seq fun K8 hK8 => ?_
    refine Tri.region ?_
    refine st (OK1.mv (Has.t rfl)) rfl ?_
    refine st (OK1.ixP sl53 ty27 (Has.t rfl) (Has.t rfl) ⟨by omega, by omega⟩ (getD_some (d := 0) (by first | omega | (simp only [Int.toNat_natCast, List.length_set]; omega)))) rfl ?_
    refine st (OK1.eq (OK1.loadP1 (Has.t rfl) ty27) (isU_eq (getD_words _ i))) rfl ?_
    refine st (OK1.as (Has.t rfl)) rfl ?_
    refine st (OK1.as (Has.t rfl)) rfl ?_
    refine nl ?_
    refine At.thn (hK8 _ _ ?_); clear hK8
    refine Tri.seq fun K9 hK9 => ?_
    refine Tri.region ?_
    refine st (OK1.mv (Has.t rfl)) rfl ?_
    refine st (OK1.mv (Has.t rfl)) rfl ?_
    refine st (OK1.call (bits_Mul64) (.cons (Has.t rfl) (.cons (Has.t rfl) .nil))) rfl ?_
    refine st (OK1.mv (Has.t rfl)) rfl ?_
    refine st (OK1.ext (Has.t rfl) rfl) rfl ?_
    refine st (OK1.ext (Has.t rfl) rfl) rfl ?_
    refine st (OK1.as (Has.t rfl)) rfl ?_
    refine st (OK1.as (Has.t rfl)) rfl ?_
    refine nl ?_
    refine At.thn (hK9 _ _ ?_); clear hK9
    refine Tri.seq fun K10 hK10 => ?_
    refine Tri.region ?_
    refine st (OK1.as (Has.cU 0 rfl)) rfl ?_
    refine nl ?_
    refine At.thn (hK10 _ _ ?_); clear hK10
    refine Tri.seq fun K11 hK11 => ?_
    refine Tri.region ?_
    refine st (OK1.mv (Has.t rfl)) rfl ?_
    refine st (OK1.mv (Has.t rfl)) rfl ?_
    refine st (OK1.mv (Has.t rfl)) rfl ?_
    refine st (OK1.eq (OK1.ixWin sl53 ty27 (Has.t rfl) (Has.t rfl) ⟨by omega, by omega⟩) (isPtr_eq (by first | exact ixo0 | exact ixo2 | exact ixo1))) rfl ?_
    refine st (OK1.eq (OK1.load1 (Has.t rfl) (i := 0) rfl ty27 (map_some (getD_some (d := 0) (by first | omega | (simp only [Int.toNat_natCast, List.length_set]; omega))))) (isU_eq (rowGet (by omega)))) rfl ?_
    refine st (OK1.add64 ext_add64 (Has.t rfl) (Has.t rfl) (Has.cU 0 rfl) (by first | omega | assumption | exact True.intro | exact dig_lt _ _ | exact mcar_lt _ _ _ lt2) ⟨(by first | omega | assumption | exact True.intro | exact dig_lt _ _ | exact mcar_lt _ _ _ lt2), (by first | omega | assumption | exact True.intro | exact dig_lt _ _ | exact mcar_lt _ _ _ lt2)⟩) rfl ?_
    refine st (OK1.mv (Has.t rfl)) rfl ?_
    refine st (OK1.ext (Has.t rfl) rfl) rfl ?_
    refine st (OK1.ext (Has.t rfl) rfl) rfl ?_
    refine st (OK1.as (Has.t rfl)) rfl ?_
    refine st (OK1.as (Has.t rfl)) rfl ?_
    refine nl ?_
    refine At.thn (hK11 _ _ ?_); clear hK11
    refine Tri.seq fun K12 hK12 => ?_
    refine Tri.region ?_
    refine st (OK1.mv (Has.t rfl)) rfl ?_
    refine st (OK1.mv (Has.t rfl)) rfl ?_
    refine st (OK1.addU' (Has.t rfl) (Has.t rfl) (by first | omega | assumption | exact True.intro | exact dig_lt _ _ | exact mcar_lt _ _ _ lt2)) rfl ?_
    refine st (OK1.as (Has.t rfl)) rfl ?_
    refine nl ?_
    refine At.thn (hK12 _ _ ?_); clear hK12
    refine Tri.seq fun K13 hK13 => ?_
    refine Tri.region ?_
    refine st (OK1.mv (Has.t rfl)) rfl ?_
    refine st (OK1.mv (Has.t rfl)) rfl ?_
    refine st (OK1.add64 ext_add64 (Has.t rfl) (Has.t rfl) (Has.cU 0 rfl) (by first | omega | assumption | exact True.intro | exact dig_lt _ _ | exact mcar_lt _ _ _ lt2) ⟨(by first | omega | assumption | exact True.intro | exact dig_lt _ _ | exact mcar_lt _ _ _ lt2), (by first | omega | assumption | exact True.intro | exact dig_lt _ _ | exact mcar_lt _ _ _ lt2)⟩) rfl ?_
    refine st (OK1.mv (Has.t rfl)) rfl ?_
    refine st (OK1.ext (Has.t rfl) rfl) rfl ?_
    refine st (OK1.ext (Has.t rfl) rfl) rfl ?_
    refine st (OK1.as (Has.t rfl)) rfl ?_
    refine st (OK1.as (Has.t rfl)) rfl ?_
    refine nl ?_
    refine At.thn (hK13 _ _ ?_); clear hK13
    refine Tri.region ?_
    refine st (OK1.mv (Has.t rfl)) rfl ?_
    refine st (OK1.mv (Has.t rfl)) rfl ?_
    refine st (OK1.mv (Has.t rfl)) rfl ?_
    refine st (OK1.mv (Has.t rfl)) rfl ?_
    refine st (OK1.mv (Has.t rfl)) rfl ?_
    refine st (OK1.addU' (Has.t rfl) (Has.t rfl) (by first | omega | assumption | exact True.intro | exact dig_lt _ _ | exact mcar_lt _ _ _ lt2)) rfl ?_
    refine st (OK1.eq (OK1.ixWin sl53 ty27 (Has.t rfl) (Has.t rfl) ⟨by omega, by omega⟩) (isPtr_eq (by first | exact ixo0 | exact ixo2 | exact ixo1))) rfl ?_
    refine Ops.storeM (Has.t rfl) (Has.t rfl) (i := 0) rfl ty27 (by first | omega | (simp only [Int.toNat_natCast, List.length_set, List.length_replicate]; omega)) (M' := [(_, _)]) rfl ?_
    refine st (OK1.as (Has.t rfl)) rfl ?_
    refine nl ?_
    refine At.bln ?_
    refine At.thn (hK7 _ _ ?_); clear hK7
    refine Tri.region ?_
    refine st (OK1.addI (Has.t rfl) (Has.cI 1 rfl) (by first | omega | assumption | exact True.intro | exact dig_lt _ _ | exact mcar_lt _ _ _ lt2) (by first | omega | assumption | exact True.intro | exact dig_lt _ _ | exact mcar_lt _ _ _ lt2)) rfl ?_
    refine st (OK1.mv (Has.t rfl)) rfl ?_
    refine nl ?_
    refine At.thn ?_
    refine hK4 (⟨i + 1, by omega⟩) _ _ ?_ (Cv.mem (.cons (t := 14) (Has.t' rfl ?_) (.cons (t := 6) (Has.t' rfl ?_) (.cons (t := 0) (Has.t rfl) (.cons (t := 1) (Has.t rfl) (.cons (t := 2) (Has.t rfl) (.cons (t := 12) (Has.t rfl) (.cons (t := 13) (Has.t rfl) .nil))))))) ?_)
    · show (List.length (words A)) - (i + 1) < (List.length (words A)) - i; omega
    · rfl
    · exact isU_eq hrow.2.1
    · exact memL_eq (rowPut (by omega) hrow.1)
  · have hc1 := BP.f hc1
    refine Tri.exit ?_
    refine At.the ?_
    refine At.the ?_
    refine At.blh ?_
    refine At.thn (hK2 _ _ ?_); clear hK2
    refine Tri.cv (Cv.wk (.cons (t := 0) (Has.t rfl) (.cons (t := 1) (Has.t rfl) (.cons (t := 6) (Has.t rfl) .nil)))) ?_
    refine Tri.region ?_
    refine st (OK1.mv (Has.t rfl)) rfl ?_
    refine st (OK1.mv (Has.t rfl)) rfl ?_
    refine st (OK1.len sl53 (Has.t rfl)) rfl ?_
    refine st (OK1.mv (Has.t rfl)) rfl ?_
    refine st (OK1.eq (OK1.ixWin sl53 ty27 (Has.t rfl) (Has.t rfl) ⟨by omega, by omega⟩) (isPtr_eq (by first | exact ixo0 | exact ixo2 | exact ixo1))) rfl ?_
    refine Ops.storeM (Has.t rfl) (Has.t rfl) (i := 0) rfl ty27 (by first | omega | (simp only [Int.toNat_natCast, List.length_set, List.length_replicate]; omega)) (M' := [(_, _)]) rfl ?_
    refine nl ?_
    refine rtM0 (.inr rfl) Try.results166 rfl (i := 0) ?_
    all_goals (obtain rfl : i = (List.length (words A)) := (by omega); exact memU_eq (rowEnd rfl (by omega) h3 (nw_lt A) lt2))

set_option maxHeartbeats 4000000 in
theorem nat_Mul {xs ys : List Nat} (hx : (List.length (words (val xs))) + (List.length (words (val ys))) < 4294967296) : Ctr Try.prog 139 [isWords xs, isWords ys] (isWords (words (val xs * val ys))) := by
  refine Ctr.intro Try.func139 rfl (by kernel_rfl) Try.ntmps139 rfl fun w0 F0 => ?_
  refine Tri.cv (Cv.wk (.cons (t := 0) (Has.t rfl) (.cons (t := 1) (Has.t rfl) .nil))) ?_
  refine Tri.fact (Has.lenLt (Has.t (t := 0) rfl)) fun lt0 => ?_
  refine Tri.fact (Has.okW (Has.t (t := 0) rfl)) fun ok0 => ?_
  refine Tri.fact (Has.lenLt (Has.t (t := 1) rfl)) fun lt1 => ?_
  refine Tri.fact (Has.okW (Has.t (t := 1) rfl)) fun ok1 => ?_
  refine Tri.seq fun K1 hK1 => ?_
  refine Tri.region ?_
  refine st (OK1.as (Has.cW (f := isU))) rfl ?_
  refine nl ?_
  refine At.thn (hK1 _ _ ?_); clear hK1
  refine Tri.seq fun K2 hK2 => ?_
  refine Tri.region ?_
  refine st (OK1.mv (Has.t rfl)) rfl ?_
  refine st (OK1.call (nat_trim) (.cons (Has.t rfl) .nil)) rfl ?_
  refine st (OK1.mv (Has.t rfl)) rfl ?_
  refine st (OK1.call (nat_trim) (.cons (Has.t rfl) .nil)) rfl ?_
  refine st (OK1.as (Has.t rfl)) rfl ?_
  refine st (OK1.as (Has.t rfl)) rfl ?_
  refine nl ?_
  refine At.thn (hK2 _ _ ?_); clear hK2
  refine Tri.seq fun K3 hK3 => ?_
  refine Tri.region ?_
  refine st (OK1.mv (Has.t rfl)) rfl ?_
  refine st (OK1.len sl53 (Has.t rfl)) rfl ?_
  refine st (OK1.mv (Has.t rfl)) rfl ?_
  refine st (OK1.len sl53 (Has.t rfl)) rfl ?_
  refine st (OK1.addI (Has.t rfl) (Has.t rfl) (by first | omega | assumption | exact True.intro | exact dig_lt _ _ | exact car_le _ _ _ | exact bor_le _ _ _) (by first | omega | assumption | exact True.intro | exact dig_lt _ _ | exact car_le _ _ _ | exact bor_le _ _ _)) rfl ?_
  refine st (OK1.addI (Has.t rfl) (Has.cI 1 rfl) (by first | omega | assumption | exact True.intro | exact dig_lt _ _ | exact car_le _ _ _ | exact bor_le _ _ _) (by first | omega | assumption | exact True.intro | exact dig_lt _ _ | exact car_le _ _ _ | exact bor_le _ _ _)) rfl ?_
  refine Ops.make (f := isU) (u := 0) (n := (List.length (words (val xs))) + (List.length (words (val ys))) + 1) (c := (List.length (words (val xs))) + (List.length (words (val ys))) + 1) sl53 ty27 zero27 (fun _ _ => ⟨⟨rfl, by decide⟩, trivial⟩) by27 (Has.t' rfl rfl) (Has.t' rfl rfl) ⟨by omega, by omega⟩ rfl fun b1 => ?_
  refine st (OK1.as (Has.t rfl)) rfl ?_
  refine nl ?_
  refine At.thn (hK3 _ _ ?_); clear hK3
  refine Tri.cv (Cv.wk (.cons (t := 0) (Has.t rfl) (.cons (t := 1) (Has.t rfl) (.cons (t := 4) (Has.t rfl) (.cons (t := 5) (Has.t rfl) .nil))))) ?_
  refine Tri.seq fun K4 hK4 => ?_
  refine Tri.seq fun K5 hK5 => ?_
  refine Tri.region ?_
  refine st (OK1.mv (Has.t rfl)) rfl ?_
  refine st (OK1.len sl53 (Has.t rfl)) rfl ?_
  refine st (OK1.mv (Has.cI 0 rfl)) rfl ?_
  refine nl ?_
  refine At.thn (hK5 _ _ ?_); clear hK5
  refine Tri.block ?_
  refine Tri.loopF [0, 4, 5, 19, 20] (fun (z : { i : Nat // i ≤ (List.length (words (val ys))) }) => match z with | ⟨i, hI⟩ => [(21, isI (i : Int))]) (fun M => fun (z : { i : Nat // i ≤ (List.length (words (val ys))) }) => match z with | ⟨i, hI⟩ => [(some b1, cellM (List.map isU (wordsN ((List.length (words (val xs))) + (List.length (words (val ys))) + 1) (val xs * (val ys % W ^ i)))))]) (fun (z : { i : Nat // i ≤ (List.length (words (val ys))) }) => match z with | ⟨i, hI⟩ => (List.length (words (val ys))) - i) (⟨0, Nat.zero_le _⟩) (Cv.mem (.cons (t := 21) (Has.t' rfl ?_) (.cons (t := 0) (Has.t rfl) (.cons (t := 4) (Has.t rfl) (.cons (t := 5) (Has.t rfl) (.cons (t := 19) (Has.t rfl) (.cons (t := 20) (Has.t rfl) .nil)))))) ?_) ?_
  · rfl
  · exact memL_eq (mulStart' _ _ _)
  rintro ⟨i, hI⟩ K6 hK6
  refine Tri.cv (Cv.wk (.cons (t := 21) (Has.t rfl) (.cons (t := 0) (Has.t rfl) (.cons (t := 4) (Has.t rfl) (.cons (t := 5) (Has.t rfl) (.cons (t := 19) (Has.t rfl) (.cons (t := 20) (Has.t rfl) .nil))))))) ?_
  refine Tri.memEq (M' := [(some b1, cellM (List.map isU (wordsN ((List.length (words (val xs))) + (List.length (words (val ys))) + 1) (val xs * (val ys % W ^ i)))))]) rfl ?_
  have wl : (wordsN ((List.length (words (val xs))) + (List.length (words (val ys))) + 1) (val xs * (val ys % W ^ i))).length = (List.length (words (val xs))) + (List.length (words (val ys))) + 1 := wordsN_len _ _
  refine Tri.seq fun K7 hK7 => ?_
  refine Tri.region ?_
  refine st (OK1.ltI (Has.t rfl) (Has.t rfl)) rfl ?_
  refine nl ?_
  refine At.thn (hK7 _ _ ?_); clear hK7
  refine Tri.seq fun K8 hK8 => ?_
  refine Tri.cond (Has.t rfl) (fun hc1 => ?_) (fun hc1 => ?_)
  · have hc1 := BP.t hc1
    refine Tri.skip ?_
    refine At.thn (hK8 _ _ ?_); clear hK8
    refine Tri.seq fun K9 hK9 => ?_
    refine Tri.block ?_
    refine Tri.seq fun K10 hK10 => ?_
    refine Tri.region ?_
    refine st (OK1.mv (Has.t rfl)) rfl ?_
    refine st (OK1.ixP sl53 ty27 (Has.t rfl) (Has.t rfl) ⟨by omega, by omega⟩ (getD_some (d := 0) (by first | omega | (simp only [Int.toNat_natCast, List.length_set]; omega)))) rfl ?_
    refine st (OK1.eq (OK1.loadP1 (Has.t rfl) ty27) (isU_eq (getD_words _ i))) rfl ?_
    refine st (OK1.as (Has.t rfl)) rfl ?_
    refine st (OK1.as (Has.t rfl)) rfl ?_
    refine nl ?_
    refine At.thn (hK10 _ _ ?_); clear hK10
    refine Tri.region ?_
    refine st (OK1.mv (Has.t rfl)) rfl ?_
    refine st (OK1.mv (Has.t rfl)) rfl ?_
    refine st (OK1.eq (OK1.slLWin sl53 ty27 (Has.t rfl) (Has.t rfl) ⟨by omega, by omega, by omega⟩) (isWin_eq (by first | exact ixo0 | exact ixo1) rfl rfl)) rfl ?_
    refine st (OK1.mv (Has.t rfl)) rfl ?_
    refine st (OK1.mv (Has.t rfl)) rfl ?_
    refine Ops.callM (nat_row (m := (List.length (words (val xs))) + (List.length (words (val ys))) + 1) (N := val xs * (val ys % W ^ i)) (by simp only [Int.toNat_natCast]; omega) (by simp only [Int.toNat_natCast]; omega) (mulDiv (nw_lt _))) (i := 0) rfl (.cons (Has.t rfl) (.cons (Has.t rfl) (.cons (Has.t rfl) .nil))) rfl (M' := [(_, _)]) rfl ?_
    refine nl ?_
    refine At.bln ?_
    refine At.thn (hK9 _ _ ?_); clear hK9
    refine Tri.region ?_
    refine st (OK1.addI (Has.t rfl) (Has.cI 1 rfl) (by first | omega | assumption | exact True.intro | exact dig_lt _ _ | exact car_le _ _ _ | exact bor_le _ _ _) (by first | omega | assumption | exact True.intro | exact dig_lt _ _ | exact car_le _ _ _ | exact bor_le _ _ _)) rfl ?_
    refine st (OK1.mv (Has.t rfl)) rfl ?_
    refine nl ?_
    refine At.thn ?_
    refine hK6 (⟨i + 1, by omega⟩) _ _ ?_ (Cv.mem (.cons (t := 21) (Has.t' rfl ?_) (.cons (t := 0) (Has.t rfl) (.cons (t := 4) (Has.t rfl) (.cons (t := 5) (Has.t rfl) (.cons (t := 19) (Has.t rfl) (.cons (t := 20) (Has.t rfl) .nil)))))) ?_)
    · show (List.length (words (val ys))) - (i + 1) < (List.length (words (val ys))) - i; omega
    · rfl
    · exact memL_eq (by rw [mod_pow_succ_mul])
  · have hc1 := BP.f hc1
    refine Tri.exit ?_
    refine At.the ?_
    refine At.the ?_
    refine At.blh ?_
    refine At.thn (hK4 _ _ ?_); clear hK4
    refine Tri.cv (Cv.wk (.cons (t := 4) (Has.t rfl) (.cons (t := 5) (Has.t rfl) .nil))) ?_
    refine Tri.seq fun K11 hK11 => ?_
    refine Tri.cv (Cv.freeze' (t := 5) (i := 0) (ys := wordsN ((List.length (words (val xs))) + (List.length (words (val ys))) + 1) (val xs * (val ys % W ^ i))) rfl rfl rfl (by simp; omega) (freeze_all (wordsN_len _ _).symm)) ?_
    refine Tri.memEq (M' := []) rfl ?_
    refine Tri.cv (Cv.wk (.cons (t := 4) (Has.t rfl) (.cons (t := 5) (Has.t rfl) .nil))) ?_
    refine Tri.region ?_
    refine st (OK1.mv (Has.t rfl)) rfl ?_
    refine st (OK1.call (nat_normal) (.cons (Has.t rfl) .nil)) rfl ?_
    refine st (OK1.as (Has.t rfl)) rfl ?_
    refine nl ?_
    refine At.thn (hK11 _ _ ?_); clear hK11
    refine Tri.ret ?_
    refine rt1 (.inl rfl) Try.results139 rfl (.tmp (Has.t' rfl ?_) .nil)
    all_goals (obtain rfl : i = (List.length (words (val ys))) := (by omega); exact SlM_eq (mulEnd rfl))
end Go.Proofs.Ytokhpacdgoebpaa
