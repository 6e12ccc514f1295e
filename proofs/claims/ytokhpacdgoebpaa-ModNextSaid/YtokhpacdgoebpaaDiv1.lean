/- Contracts: quotients by a word. -/
import Derived.Test.YtokhpacdgoebpaaNat5
import Derived.Test.YtokhpacdgoebpaaNatL
namespace Go.Proofs.Ytokhpacdgoebpaa
open Go.En Go.RowKit
set_option linter.unusedVariables false
set_option maxRecDepth 10000
open Go.Nt
set_option maxHeartbeats 4000000 in
theorem div_Small {xs : List Nat} {x : Nat} (hx : (List.length (words (val xs))) < 4294900000) : Ctr Try.prog 171 [isWords xs, isU x] (isTup [isWords (words (val xs / x)), isU (if x = 0 then 0 else val xs % x), isB (decide (x ≠ 0))]) := by
  refine Ctr.intro Try.func171 rfl (by kernel_rfl) Try.ntmps171 rfl fun w0 F0 => ?_
  refine Tri.cv (Cv.wk (.cons (t := 0) (Has.t rfl) (.cons (t := 1) (Has.t rfl) .nil))) ?_
  refine Tri.fact (Has.lenLt (Has.t (t := 0) rfl)) fun lt0 => ?_
  refine Tri.fact (Has.okW (Has.t (t := 0) rfl)) fun ok0 => ?_
  refine Tri.fact (Has.ltU (Has.t (t := 1) rfl)) fun lt1 => ?_
  refine Tri.seq fun K1 hK1 => ?_
  refine Tri.region ?_
  refine st (OK1.as (Has.cW (f := isU))) rfl ?_
  refine st (OK1.as (Has.cU 0 rfl)) rfl ?_
  refine st (OK1.as (Has.cB false)) rfl ?_
  refine nl ?_
  refine At.thn (hK1 _ _ ?_); clear hK1
  refine Tri.seq fun K2 hK2 => ?_
  refine Tri.seq fun K3 hK3 => ?_
  refine Tri.region ?_
  refine st (OK1.mv (Has.t rfl)) rfl ?_
  refine st (OK1.eqU (Has.t rfl) (Has.cU 0 rfl)) rfl ?_
  refine nl ?_
  refine At.thn (hK3 _ _ ?_); clear hK3
  refine Tri.cond (Has.t rfl) (fun hc1 => ?_) (fun hc1 => ?_)
  · have hc1 := BP.t hc1
    refine Tri.seq fun K4 hK4 => ?_
    refine Tri.region ?_
    refine st (OK1.as (Has.cW (f := isU))) rfl ?_
    refine st (OK1.as (Has.cU 0 rfl)) rfl ?_
    refine st (OK1.as (Has.cB false)) rfl ?_
    refine nl ?_
    refine At.thn (hK4 _ _ ?_); clear hK4
    refine Tri.ret ?_
    refine At.thr ?_
    refine rtN (.inl rfl) Try.results171 rfl rfl (.tmp (Has.t' rfl ?_) (.tmp (Has.t' rfl ?_) (.tmp (Has.t' rfl ?_) .nil)))
    · exact SlM_eq (by rw [hc1, Nat.div_zero, words_zero])
    · exact isU_eq (by rw [if_pos hc1])
    · exact isB_eq (by simp [hc1])
  · have hc1 := BP.f hc1
    refine Tri.skip ?_
    refine At.thn (hK2 _ _ ?_); clear hK2
    refine Tri.seq fun K5 hK5 => ?_
    refine Tri.region ?_
    refine st (OK1.mv (Has.t rfl)) rfl ?_
    refine Ops.callO (nat_NormO (by omega)) (.cons (Has.t rfl) .nil) rfl (fun hO2 => ?_) (fun hO2 b1 cb1 jb1 => ?_)
    · skip
      refine st (OK1.as (Has.t rfl)) rfl ?_
      refine nl ?_
      refine At.thn (hK5 _ _ ?_); clear hK5
      refine Tri.seq fun K6 hK6 => ?_
      refine Tri.region ?_
      refine st (OK1.as (Has.cU 0 rfl)) rfl ?_
      refine nl ?_
      refine At.thn (hK6 _ _ ?_); clear hK6
      refine Tri.seq fun K7 hK7 => ?_
      refine Tri.seq fun K8 hK8 => ?_
      refine Tri.region ?_
      refine st (OK1.mv (Has.t rfl)) rfl ?_
      refine st (OK1.len sl53 (Has.t rfl)) rfl ?_
      refine st (OK1.subI (Has.t rfl) (Has.cI 1 rfl) (by first | omega | (simp only [List.length_nil]; omega)) (by first | omega | (simp only [List.length_nil]; omega))) rfl ?_
      refine st (OK1.as (Has.t rfl)) rfl ?_
      refine nl ?_
      refine At.thn (hK8 _ _ ?_); clear hK8
      refine Tri.cv (Cv.wk (.cons (t := 0) (Has.t rfl) (.cons (t := 1) (Has.t rfl) (.cons (t := 4) (Has.t rfl) (.cons (t := 5) (Has.t rfl) (.cons (t := 6) (Has.t rfl) (.cons (t := 7) (Has.t rfl) (.cons (t := 8) (Has.t rfl) .nil)))))))) ?_
      refine Tri.block ?_
      refine Tri.loopF [0, 1, 4, 5, 6] (fun (_ : Unit) => [(8, isI (-1)), (7, isU 0)]) (fun M => fun (_ : Unit) => M) (fun (_ : Unit) => 0) (()) (Cv.mem (.cons (t := 8) (Has.t' rfl ?_) (.cons (t := 7) (Has.t' rfl ?_) (.cons (t := 0) (Has.t rfl) (.cons (t := 1) (Has.t rfl) (.cons (t := 4) (Has.t rfl) (.cons (t := 5) (Has.t rfl) (.cons (t := 6) (Has.t rfl) .nil))))))) ?_) ?_
      · rfl
      · rfl
      · rfl
      rintro _ K9 hK9
      refine Tri.cv (Cv.wk (.cons (t := 8) (Has.t rfl) (.cons (t := 7) (Has.t rfl) (.cons (t := 0) (Has.t rfl) (.cons (t := 1) (Has.t rfl) (.cons (t := 4) (Has.t rfl) (.cons (t := 5) (Has.t rfl) (.cons (t := 6) (Has.t rfl) .nil)))))))) ?_
      refine Tri.seq fun K10 hK10 => ?_
      refine Tri.seq fun K11 hK11 => ?_
      refine Tri.region ?_
      refine st (OK1.mv (Has.t rfl)) rfl ?_
      refine st (OK1.geI (Has.t rfl) (Has.cI 0 rfl)) rfl ?_
      refine nl ?_
      refine At.thn (hK11 _ _ ?_); clear hK11
      refine Tri.cond (Has.t rfl) (fun hc3 => ?_) (fun hc3 => ?_)
      · have hc3 := BP.t hc3
        exfalso; first | omega | contradiction | (revert hc3; simp)
      · have hc3 := BP.f hc3
        refine Tri.exit ?_
        refine At.the ?_
        refine At.the ?_
        refine At.blh ?_
        refine At.thn (hK7 _ _ ?_); clear hK7
        refine Tri.seq fun K12 hK12 => ?_
        refine Tri.region ?_
        refine st (OK1.mv (Has.t rfl)) rfl ?_
        refine st (OK1.call (nat_Norm (by first | (rw [val_wordsN]; exact normLe (by omega)) | (show (words 0).length ≤ _; rw [words_zero]; exact Nat.zero_le _))) (.cons (Has.t rfl) .nil)) rfl ?_
        refine st (OK1.mv (Has.t rfl)) rfl ?_
        refine st (OK1.as (Has.t rfl)) rfl ?_
        refine st (OK1.as (Has.t rfl)) rfl ?_
        refine st (OK1.as (Has.cB true)) rfl ?_
        refine nl ?_
        refine At.thn (hK12 _ _ ?_); clear hK12
        refine Tri.cv (Cv.wk (.cons (t := 4) (Has.t rfl) (.cons (t := 5) (Has.t rfl) (.cons (t := 6) (Has.t rfl) .nil)))) ?_
        refine Tri.ret ?_
        refine rtN (.inl rfl) Try.results171 rfl rfl (.tmp (Has.t' rfl ?_) (.tmp (Has.t' rfl ?_) (.tmp (Has.t' rfl ?_) .nil)))
        · exact SlM_eq (by rw [of_words_nil hO2, Nat.zero_div]; rfl)
        · exact isU_eq (by rw [if_neg hc1, of_words_nil hO2, Nat.zero_mod])
        · exact isB_eq (by simp [hc1])
    · skip
      refine st (OK1.as (Has.t rfl)) rfl ?_
      refine nl ?_
      refine At.thn (hK5 _ _ ?_); clear hK5
      refine Tri.seq fun K13 hK13 => ?_
      refine Tri.region ?_
      refine st (OK1.as (Has.cU 0 rfl)) rfl ?_
      refine nl ?_
      refine At.thn (hK13 _ _ ?_); clear hK13
      refine Tri.seq fun K14 hK14 => ?_
      refine Tri.seq fun K15 hK15 => ?_
      refine Tri.region ?_
      refine st (OK1.mv (Has.t rfl)) rfl ?_
      refine st (OK1.len sl53 (Has.t rfl)) rfl ?_
      refine st (OK1.subI (Has.t rfl) (Has.cI 1 rfl) (by first | omega | (simp only [List.length_nil]; omega)) (by first | omega | (simp only [List.length_nil]; omega))) rfl ?_
      refine st (OK1.as (Has.t rfl)) rfl ?_
      refine nl ?_
      refine At.thn (hK15 _ _ ?_); clear hK15
      refine Tri.cv (Cv.wk (.cons (t := 0) (Has.t rfl) (.cons (t := 1) (Has.t rfl) (.cons (t := 4) (Has.t rfl) (.cons (t := 5) (Has.t rfl) (.cons (t := 6) (Has.t rfl) (.cons (t := 7) (Has.t rfl) (.cons (t := 8) (Has.t rfl) .nil)))))))) ?_
      refine Tri.block ?_
      refine Tri.loopF [0, 1, 4, 5, 6] (fun (z : { k : Nat // k ≤ (List.length (words (val xs))) }) => match z with | ⟨k, hI⟩ => [(8, isI ((k : Int) - 1)), (7, isU (val xs / W ^ k % x))]) (fun M => fun (z : { k : Nat // k ≤ (List.length (words (val xs))) }) => match z with | ⟨k, hI⟩ => [(some b1, cellM (List.map isU (mix k (val xs) (val xs / x) ((List.length (words (val xs)))) ++ List.replicate jb1 0)))]) (fun (z : { k : Nat // k ≤ (List.length (words (val xs))) }) => match z with | ⟨k, hI⟩ => k) (⟨(List.length (words (val xs))), Nat.le_refl _⟩) (Cv.mem (.cons (t := 8) (Has.t' rfl ?_) (.cons (t := 7) (Has.t' rfl ?_) (.cons (t := 0) (Has.t rfl) (.cons (t := 1) (Has.t rfl) (.cons (t := 4) (Has.t rfl) (.cons (t := 5) (Has.t rfl) (.cons (t := 6) (Has.t rfl) .nil))))))) ?_) ?_
      · rfl
      · exact isU_eq (by rw [Nat.div_eq_of_lt (nw_lt _), Nat.zero_mod])
      · exact memL_eq (smallStart _ _ _)
      rintro ⟨k, hI⟩ K16 hK16
      refine Tri.cv (Cv.wk (.cons (t := 8) (Has.t rfl) (.cons (t := 7) (Has.t rfl) (.cons (t := 0) (Has.t rfl) (.cons (t := 1) (Has.t rfl) (.cons (t := 4) (Has.t rfl) (.cons (t := 5) (Has.t rfl) (.cons (t := 6) (Has.t rfl) .nil)))))))) ?_
      refine Tri.memEq (M' := [(some b1, cellM (List.map isU (mix k (val xs) (val xs / x) ((List.length (words (val xs)))) ++ List.replicate jb1 0)))]) rfl ?_
      have wl : (mix k (val xs) (val xs / x) ((List.length (words (val xs)))) ++ List.replicate jb1 0).length = (List.length (words (val xs))) + jb1 := by rw [List.length_append, mix_len hI, List.length_replicate]
      have ek : ((k : Int) - 1).toNat = k - 1 := by omega
      refine Tri.seq fun K17 hK17 => ?_
      refine Tri.seq fun K18 hK18 => ?_
      refine Tri.region ?_
      refine st (OK1.mv (Has.t rfl)) rfl ?_
      refine st (OK1.geI (Has.t rfl) (Has.cI 0 rfl)) rfl ?_
      refine nl ?_
      refine At.thn (hK18 _ _ ?_); clear hK18
      refine Tri.cond (Has.t rfl) (fun hc4 => ?_) (fun hc4 => ?_)
      · have hc4 := BP.t hc4
        refine Tri.skip ?_
        refine At.thn (hK17 _ _ ?_); clear hK17
        refine Tri.seq fun K19 hK19 => ?_
        refine Tri.block ?_
        refine Tri.region ?_
        refine st (OK1.mv (Has.t rfl)) rfl ?_
        refine st (OK1.mv (Has.t rfl)) rfl ?_
        refine st (OK1.mv (Has.t rfl)) rfl ?_
        refine st (OK1.mv (Has.t rfl)) rfl ?_
        refine st (OK1.mv (Has.t rfl)) rfl ?_
        refine st (OK1.eq (OK1.ixWin sl53 ty27 (Has.t rfl) (Has.t rfl) ⟨by omega, by omega⟩) (isPtr_eq (by first | exact ixo0 | exact ixo2 | exact ixo1))) rfl ?_
        refine st (OK1.eq (OK1.load1 (Has.t rfl) (i := 0) rfl ty27 (map_some (getD_some (d := 0) (by omega)))) ((show isU _ = isU (dig (val xs) (k - 1)) from isU_eq (by rw [ek, getD_app (by rw [mix_len hI]; omega), mix_low (by omega)])))) rfl ?_
        refine st (OK1.mv (Has.t rfl)) rfl ?_
        refine st (OK1.call (bits_Div64 (Nat.mod_lt _ (by omega))) (.cons (Has.t rfl) (.cons (Has.t rfl) (.cons (Has.t rfl) .nil)))) rfl ?_
        refine st (OK1.mv (Has.t rfl)) rfl ?_
        refine st (OK1.ext (Has.t rfl) rfl) rfl ?_
        refine st (OK1.ext (Has.t rfl) rfl) rfl ?_
        refine st (OK1.eq (OK1.ixWin sl53 ty27 (Has.t rfl) (Has.t rfl) ⟨by omega, by omega⟩) (isPtr_eq (by first | exact ixo0 | exact ixo2 | exact ixo1))) rfl ?_
        refine Ops.storeM (Has.t rfl) (Has.t rfl) (i := 0) rfl ty27 (by omega) (M' := [(_, _)]) rfl ?_
        refine st (OK1.as (Has.t rfl)) rfl ?_
        refine nl ?_
        refine At.bln ?_
        refine At.thn (hK19 _ _ ?_); clear hK19
        refine Tri.region ?_
        refine st (OK1.mv (Has.t rfl)) rfl ?_
        refine st (OK1.subI (Has.t rfl) (Has.cI 1 rfl) (by first | omega | (simp only [List.length_nil]; omega)) (by first | omega | (simp only [List.length_nil]; omega))) rfl ?_
        refine st (OK1.as (Has.t rfl)) rfl ?_
        refine nl ?_
        refine At.thn ?_
        have hs := small_step (A := val xs) (x := x) (by omega) (by omega : 0 < k)
        refine hK16 (⟨k - 1, by omega⟩) _ _ ?_ (Cv.mem (.cons (t := 8) (Has.t' rfl ?_) (.cons (t := 7) (Has.t' rfl ?_) (.cons (t := 0) (Has.t rfl) (.cons (t := 1) (Has.t rfl) (.cons (t := 4) (Has.t rfl) (.cons (t := 5) (Has.t rfl) (.cons (t := 6) (Has.t rfl) .nil))))))) ?_)
        · show k - 1 < k; omega
        · exact isI_eq (by show _ = ((k - 1 : Nat) : Int) - 1; omega)
        · exact isU_eq hs.2
        · exact memL_eq (by rw [ek]; exact mix_down (by omega) hI hs.1)
      · have hc4 := BP.f hc4
        refine Tri.exit ?_
        refine At.the ?_
        refine At.the ?_
        refine At.blh ?_
        refine At.thn (hK14 _ _ ?_); clear hK14
        refine Tri.seq fun K20 hK20 => ?_
        refine Tri.cv (Cv.freeze' (t := 0) (i := 0) (ys := wordsN ((List.length (words (val xs)))) (val xs / x)) rfl rfl rfl (by omega) (by obtain rfl : k = 0 := (by omega); exact smallEnd rfl)) ?_
        refine Tri.memEq (M' := []) rfl ?_
        refine Tri.cv (Cv.wk (.cons (t := 0) (Has.t rfl) (.cons (t := 1) (Has.t rfl) (.cons (t := 4) (Has.t rfl) (.cons (t := 5) (Has.t rfl) (.cons (t := 6) (Has.t rfl) (.cons (t := 8) (Has.t rfl) (.cons (t := 7) (Has.t rfl) (.cons (t := 16) (Has.t rfl) (.cons (t := 17) (Has.t rfl) .nil)))))))))) ?_
        refine Tri.region ?_
        refine st (OK1.mv (Has.t rfl)) rfl ?_
        refine st (OK1.call (nat_Norm (by first | (rw [val_wordsN]; exact normLe (by omega)) | (show (words 0).length ≤ _; rw [words_zero]; exact Nat.zero_le _))) (.cons (Has.t rfl) .nil)) rfl ?_
        refine st (OK1.mv (Has.t rfl)) rfl ?_
        refine st (OK1.as (Has.t rfl)) rfl ?_
        refine st (OK1.as (Has.t rfl)) rfl ?_
        refine st (OK1.as (Has.cB true)) rfl ?_
        refine nl ?_
        refine At.thn (hK20 _ _ ?_); clear hK20
        refine Tri.cv (Cv.wk (.cons (t := 4) (Has.t rfl) (.cons (t := 5) (Has.t rfl) (.cons (t := 6) (Has.t rfl) .nil)))) ?_
        refine Tri.ret ?_
        refine rtN (.inl rfl) Try.results171 rfl rfl (.tmp (Has.t' rfl ?_) (.tmp (Has.t' rfl ?_) (.tmp (Has.t' rfl ?_) .nil)))
        · exact SlM_eq (words_quo _ _)
        · obtain rfl : k = 0 := (by omega); exact isU_eq (by rw [if_neg hc1, Nat.pow_zero, Nat.div_one])
        · exact isB_eq (by simp [hc1])

set_option maxHeartbeats 4000000 in
theorem div_guess {u2 u1 u0 v1 v0 : Nat} (h : 0 < v1) : Ctr Try.prog 182 [isU u2, isU u1, isU u0, isU v1, isU v0] (isU (gss u2 u1 u0 v1 v0)) := by
  refine Ctr.intro Try.func182 rfl (by kernel_rfl) Try.ntmps182 rfl fun w0 F0 => ?_
  refine Tri.cv (Cv.wk (.cons (t := 0) (Has.t rfl) (.cons (t := 1) (Has.t rfl) (.cons (t := 2) (Has.t rfl) (.cons (t := 3) (Has.t rfl) (.cons (t := 4) (Has.t rfl) .nil)))))) ?_
  refine Tri.fact (Has.ltU (Has.t (t := 0) rfl)) fun lt0 => ?_
  refine Tri.fact (Has.ltU (Has.t (t := 1) rfl)) fun lt1 => ?_
  refine Tri.fact (Has.ltU (Has.t (t := 2) rfl)) fun lt2 => ?_
  refine Tri.fact (Has.ltU (Has.t (t := 3) rfl)) fun lt3 => ?_
  refine Tri.fact (Has.ltU (Has.t (t := 4) rfl)) fun lt4 => ?_
  refine Tri.seq fun K1 hK1 => ?_
  refine Tri.region ?_
  refine st (OK1.as (Has.cU 0 rfl)) rfl ?_
  refine nl ?_
  refine At.thn (hK1 _ _ ?_); clear hK1
  refine Tri.seq fun K2 hK2 => ?_
  refine Tri.seq fun K3 hK3 => ?_
  refine Tri.region ?_
  refine st (OK1.mv (Has.t rfl)) rfl ?_
  refine st (OK1.mv (Has.t rfl)) rfl ?_
  refine st (OK1.gtU (Has.t rfl) (Has.t rfl)) rfl ?_
  refine nl ?_
  refine At.thn (hK3 _ _ ?_); clear hK3
  refine Tri.cond (Has.t rfl) (fun hc1 => ?_) (fun hc1 => ?_)
  · have hc1 := BP.t hc1
    refine Tri.seq fun K4 hK4 => ?_
    refine Tri.region ?_
    refine st (OK1.as (Has.cU 18446744073709551615 rfl)) rfl ?_
    refine nl ?_
    refine At.thn (hK4 _ _ ?_); clear hK4
    refine Tri.ret ?_
    refine At.thr ?_
    refine rt1 (.inl rfl) Try.results182 rfl (.tmp (Has.t' rfl ?_) .nil)
    all_goals (exact isU_eq (gss_max hc1 lt4 h))
  · have hc1 := BP.f hc1
    refine Tri.skip ?_
    refine At.thn (hK2 _ _ ?_); clear hK2
    refine Tri.seq fun K5 hK5 => ?_
    refine Tri.region ?_
    refine st (OK1.as (Has.cU 18446744073709551615 rfl)) rfl ?_
    refine st (OK1.as (Has.cU 0 rfl)) rfl ?_
    refine st (OK1.as (Has.cU 0 rfl)) rfl ?_
    refine nl ?_
    refine At.thn (hK5 _ _ ?_); clear hK5
    refine Tri.cutF [2, 3, 4, 10] (fun (z : { z : Nat × Nat // Gw u2 u1 u0 v1 v0 z.1 z.2 }) => match z with | ⟨(q, r), hI⟩ => [(11, isU q), (12, isU (r % 18446744073709551616)), (13, isU (r / 18446744073709551616))]) (fun M => fun (z : { z : Nat × Nat // Gw u2 u1 u0 v1 v0 z.1 z.2 }) => match z with | ⟨(q, r), hI⟩ => M) (fun K6 hK6 => ?_) ?_
    · skip
      refine Tri.seq fun K7 hK7 => ?_
      refine Tri.region ?_
      refine st (OK1.mv (Has.t rfl)) rfl ?_
      refine st (OK1.mv (Has.t rfl)) rfl ?_
      refine st (OK1.eqU (Has.t rfl) (Has.t rfl)) rfl ?_
      refine nl ?_
      refine At.thn (hK7 _ _ ?_); clear hK7
      refine Tri.cv (Cv.wk (.cons (t := 0) (Has.t rfl) (.cons (t := 1) (Has.t rfl) (.cons (t := 2) (Has.t rfl) (.cons (t := 3) (Has.t rfl) (.cons (t := 4) (Has.t rfl) (.cons (t := 10) (Has.t rfl) (.cons (t := 11) (Has.t rfl) (.cons (t := 12) (Has.t rfl) (.cons (t := 13) (Has.t rfl) (.cons (t := 21) (Has.t rfl) .nil))))))))))) ?_
      refine Tri.cond (Has.t rfl) (fun hc2 => ?_) (fun hc2 => ?_)
      · have hc2 := BP.t hc2
        refine Tri.region ?_
        refine st (OK1.mv (Has.t rfl)) rfl ?_
        refine st (OK1.mv (Has.t rfl)) rfl ?_
        refine st (OK1.add64 ext_add64 (Has.t rfl) (Has.t rfl) (Has.cU 0 rfl) (by first | with_reducible assumption | omega) ⟨(by first | with_reducible assumption | omega), (by first | with_reducible assumption | omega)⟩) rfl ?_
        refine st (OK1.mv (Has.t rfl)) rfl ?_
        refine st (OK1.ext (Has.t rfl) rfl) rfl ?_
        refine st (OK1.ext (Has.t rfl) rfl) rfl ?_
        refine st (OK1.as (Has.t rfl)) rfl ?_
        refine st (OK1.as (Has.t rfl)) rfl ?_
        refine nl ?_
        refine At.thn ?_
        refine hK6 (⟨(18446744073709551615, u1 + v1), Gw.same hc2 lt1 lt3⟩) _ _ (Cv.mem (.cons (t := 11) (Has.t' rfl ?_) (.cons (t := 12) (Has.t' rfl ?_) (.cons (t := 13) (Has.t' rfl ?_) (.cons (t := 2) (Has.t rfl) (.cons (t := 3) (Has.t rfl) (.cons (t := 4) (Has.t rfl) (.cons (t := 10) (Has.t rfl) .nil))))))) ?_)
        · rfl
        · rfl
        · rfl
        · rfl
      · have hc2 := BP.f hc2
        refine Tri.region ?_
        refine st (OK1.mv (Has.t rfl)) rfl ?_
        refine st (OK1.mv (Has.t rfl)) rfl ?_
        refine st (OK1.mv (Has.t rfl)) rfl ?_
        refine st (OK1.call (bits_Div64 (by omega)) (.cons (Has.t rfl) (.cons (Has.t rfl) (.cons (Has.t rfl) .nil)))) rfl ?_
        refine st (OK1.mv (Has.t rfl)) rfl ?_
        refine st (OK1.ext (Has.t rfl) rfl) rfl ?_
        refine st (OK1.ext (Has.t rfl) rfl) rfl ?_
        refine st (OK1.as (Has.t rfl)) rfl ?_
        refine st (OK1.as (Has.t rfl)) rfl ?_
        refine nl ?_
        refine At.thn ?_
        have hm := Nat.mod_lt (u2 * 18446744073709551616 + u1) h
        refine hK6 (⟨((u2 * 18446744073709551616 + u1) / v1, (u2 * 18446744073709551616 + u1) % v1), Gw.start (by omega) lt1 lt2 lt3⟩) _ _ (Cv.mem (.cons (t := 11) (Has.t' rfl ?_) (.cons (t := 12) (Has.t' rfl ?_) (.cons (t := 13) (Has.t' rfl ?_) (.cons (t := 2) (Has.t rfl) (.cons (t := 3) (Has.t rfl) (.cons (t := 4) (Has.t rfl) (.cons (t := 10) (Has.t rfl) .nil))))))) ?_)
        · rfl
        · exact isU_eq (Nat.mod_eq_of_lt (by omega)).symm
        · exact isU_eq (Nat.div_eq_of_lt (by omega)).symm
        · rfl
    rintro ⟨⟨q, r⟩, g⟩
    refine Tri.cv (Cv.wk (.cons (t := 11) (Has.t rfl) (.cons (t := 12) (Has.t rfl) (.cons (t := 13) (Has.t rfl) (.cons (t := 2) (Has.t rfl) (.cons (t := 3) (Has.t rfl) (.cons (t := 4) (Has.t rfl) (.cons (t := 10) (Has.t rfl) .nil)))))))) ?_
    simp only [] at g
    refine Tri.seq fun K8 hK8 => ?_
    refine Tri.block ?_
    refine Tri.loopF [2, 3, 4, 10] (fun (z : { z : Nat × Nat // Gw u2 u1 u0 v1 v0 z.1 z.2 }) => match z with | ⟨(q, r), hI⟩ => [(11, isU q), (12, isU (r % 18446744073709551616)), (13, isU (r / 18446744073709551616))]) (fun M => fun (z : { z : Nat × Nat // Gw u2 u1 u0 v1 v0 z.1 z.2 }) => match z with | ⟨(q, r), hI⟩ => M) (fun (z : { z : Nat × Nat // Gw u2 u1 u0 v1 v0 z.1 z.2 }) => match z with | ⟨(q, r), hI⟩ => q) (⟨(q, r), g⟩) (Cv.mem (.cons (t := 11) (Has.t' rfl ?_) (.cons (t := 12) (Has.t' rfl ?_) (.cons (t := 13) (Has.t' rfl ?_) (.cons (t := 2) (Has.t rfl) (.cons (t := 3) (Has.t rfl) (.cons (t := 4) (Has.t rfl) (.cons (t := 10) (Has.t rfl) .nil))))))) ?_) ?_
    · rfl
    · rfl
    · rfl
    · rfl
    rintro ⟨⟨q, r⟩, g⟩ K9 hK9
    refine Tri.cv (Cv.wk (.cons (t := 11) (Has.t rfl) (.cons (t := 12) (Has.t rfl) (.cons (t := 13) (Has.t rfl) (.cons (t := 2) (Has.t rfl) (.cons (t := 3) (Has.t rfl) (.cons (t := 4) (Has.t rfl) (.cons (t := 10) (Has.t rfl) .nil)))))))) ?_
    simp only [] at g
    have gq := g.q
    have gr := g.r
    refine Tri.seq fun K10 hK10 => ?_
    refine Tri.seq fun K11 hK11 => ?_
    refine Tri.region ?_
    refine st (OK1.mv (Has.t rfl)) rfl ?_
    refine st (OK1.eqU (Has.t rfl) (Has.cU 0 rfl)) rfl ?_
    refine nl ?_
    refine At.thn (hK11 _ _ ?_); clear hK11
    refine Tri.cond (Has.t rfl) (fun hc3 => ?_) (fun hc3 => ?_)
    · have hc3 := BP.t hc3
      refine Tri.skip ?_
      refine At.thn (hK10 _ _ ?_); clear hK10
      refine Tri.block ?_
      refine Tri.seq fun K12 hK12 => ?_
      refine Tri.region ?_
      refine st (OK1.mv (Has.t rfl)) rfl ?_
      refine st (OK1.mv (Has.t rfl)) rfl ?_
      refine st (OK1.call bits_Mul64 (.cons (Has.t rfl) (.cons (Has.t rfl) .nil))) rfl ?_
      refine st (OK1.mv (Has.t rfl)) rfl ?_
      refine st (OK1.ext (Has.t rfl) rfl) rfl ?_
      refine st (OK1.ext (Has.t rfl) rfl) rfl ?_
      refine st (OK1.as (Has.t rfl)) rfl ?_
      refine st (OK1.as (Has.t rfl)) rfl ?_
      refine nl ?_
      refine At.thn (hK12 _ _ ?_); clear hK12
      refine Tri.seq fun K13 hK13 => ?_
      refine Tri.seq fun K14 hK14 => ?_
      refine Tri.region ?_
      refine st (OK1.mv (Has.t rfl)) rfl ?_
      refine st (OK1.mv (Has.t rfl)) rfl ?_
      refine st (OK1.ltU (Has.t rfl) (Has.t rfl)) rfl ?_
      refine st (OK1.mv (Has.t rfl)) rfl ?_
      refine stF rfl rfl (fun hg => have hg' := BP.t hg; OK1.mv (Has.t rfl)) rfl ?_
      refine stF rfl rfl (fun hg => have hg' := BP.t hg; OK1.mv (Has.t rfl)) rfl ?_
      refine stF rfl rfl (fun hg => have hg' := BP.t hg; OK1.eqU (Has.g rfl hg) (Has.g rfl hg)) rfl ?_
      refine stF rfl rfl (fun hg => have hg' := BP.t hg; OK1.mv (Has.g rfl hg)) rfl ?_
      refine stGT rfl rfl (fun hg => have hg' := BP.t hg; OK1.mv (Has.t rfl)) rfl ?_
      refine stGT rfl rfl (fun hg => have hg' := BP.t hg; OK1.mv (Has.t rfl)) rfl ?_
      refine stGT rfl rfl (fun hg => have hg' := BP.t hg; OK1.leU (Has.g rfl hg) (Has.g rfl hg)) rfl ?_
      refine stF rfl rfl (fun hg => have hg' := BP.t hg; OK1.pickAnd (Has.g rfl hg) (fun h => Has.g rfl (ga hg h))) rfl ?_
      refine st (OK1.pickOr (Has.t rfl) (fun h => Has.g rfl (ng h))) rfl ?_
      refine nl ?_
      refine At.thn (hK14 _ _ ?_); clear hK14
      refine Tri.cond (Has.t rfl) (fun hc4 => ?_) (fun hc4 => ?_)
      · have hc4 := BP.t hc4
        have ht := (test_le (p := q * v0) (r := r % 18446744073709551616) (u0 := u0) (by omega) lt2).1 hc4
        rw [Nat.mod_eq_of_lt (show r < 18446744073709551616 by omega)] at ht
        refine Tri.exit ?_
        refine At.the ?_
        refine At.blm rfl ?_
        refine At.the ?_
        refine At.blh ?_
        refine At.thn (hK8 _ _ ?_); clear hK8
        refine Tri.cv (Cv.wk (.cons (t := 10) (Has.t rfl) (.cons (t := 11) (Has.t rfl) .nil))) ?_
        refine Tri.seq fun K15 hK15 => ?_
        refine Tri.region ?_
        refine st (OK1.mv (Has.t rfl)) rfl ?_
        refine st (OK1.as (Has.t rfl)) rfl ?_
        refine nl ?_
        refine At.thn (hK15 _ _ ?_); clear hK15
        refine Tri.ret ?_
        refine rt1 (.inl rfl) Try.results182 rfl (.tmp (Has.t' rfl ?_) .nil)
        all_goals (exact isU_eq (g.exit h ht))
      · have hc4 := BP.f hc4
        have ht : ¬ _ := fun hh => absurd ((test_le (p := q * v0) (r := r % 18446744073709551616) (u0 := u0) (by omega) lt2).2 hh) (by omega)
        have hn := Gw.next h lt3 g (by omega) (by omega)
        refine Tri.skip ?_
        refine At.thn (hK13 _ _ ?_); clear hK13
        refine Tri.seq fun K16 hK16 => ?_
        refine Tri.region ?_
        refine st (OK1.mv (Has.t rfl)) rfl ?_
        refine st (OK1.subU' (Has.t rfl) (Has.cU 1 rfl) (by first | with_reducible assumption | omega) (by first | with_reducible assumption | omega)) rfl ?_
        refine st (OK1.as (Has.t rfl)) rfl ?_
        refine nl ?_
        refine At.thn (hK16 _ _ ?_); clear hK16
        refine Tri.region ?_
        refine st (OK1.mv (Has.t rfl)) rfl ?_
        refine st (OK1.mv (Has.t rfl)) rfl ?_
        refine st (OK1.add64 ext_add64 (Has.t rfl) (Has.t rfl) (Has.cU 0 rfl) (by first | with_reducible assumption | omega) ⟨(by first | with_reducible assumption | omega), (by first | with_reducible assumption | omega)⟩) rfl ?_
        refine st (OK1.mv (Has.t rfl)) rfl ?_
        refine st (OK1.ext (Has.t rfl) rfl) rfl ?_
        refine st (OK1.ext (Has.t rfl) rfl) rfl ?_
        refine st (OK1.as (Has.t rfl)) rfl ?_
        refine st (OK1.as (Has.t rfl)) rfl ?_
        refine nl ?_
        refine At.bln ?_
        refine At.thn ?_
        refine hK9 (⟨(q - 1, r + v1), hn.1⟩) _ _ ?_ (Cv.mem (.cons (t := 11) (Has.t' rfl ?_) (.cons (t := 12) (Has.t' rfl ?_) (.cons (t := 13) (Has.t' rfl ?_) (.cons (t := 2) (Has.t rfl) (.cons (t := 3) (Has.t rfl) (.cons (t := 4) (Has.t rfl) (.cons (t := 10) (Has.t rfl) .nil))))))) ?_)
        · show q - 1 < q; have := hn.2; omega
        · rfl
        · exact isU_eq (by show (r % _ + v1 + 0) % _ = (r + v1) % _; omega)
        · exact isU_eq (by show (r % _ + v1 + 0) / _ = (r + v1) / _; omega)
        · rfl
    · have hc3 := BP.f hc3
      refine Tri.exit ?_
      refine At.the ?_
      refine At.the ?_
      refine At.blh ?_
      refine At.thn (hK8 _ _ ?_); clear hK8
      refine Tri.cv (Cv.wk (.cons (t := 10) (Has.t rfl) (.cons (t := 11) (Has.t rfl) .nil))) ?_
      refine Tri.seq fun K17 hK17 => ?_
      refine Tri.region ?_
      refine st (OK1.mv (Has.t rfl)) rfl ?_
      refine st (OK1.as (Has.t rfl)) rfl ?_
      refine nl ?_
      refine At.thn (hK17 _ _ ?_); clear hK17
      refine Tri.ret ?_
      refine rt1 (.inl rfl) Try.results182 rfl (.tmp (Has.t' rfl ?_) .nil)
      all_goals (exact isU_eq (g.exit2 h lt4 (by omega)))
end Go.Proofs.Ytokhpacdgoebpaa
