/- Rules and contracts, part 5 of 6. -/
import Derived.Test.YtfoclelageohiaaQFmatDets4
/- Contracts: quotients by a word. -/
namespace Go.Proofs.Ytfoclelageohiaa
open Go.En Go.RowKit
set_option linter.unusedVariables false
set_option maxRecDepth 10000
open Go.Nt
set_option maxHeartbeats 4000000 in
theorem div_Small {xs : List Nat} {x : Nat} (hx : (List.length (words (val xs))) < 4294900000) : Ctr Try.prog 153 [isWords xs, isU x] (isTup [isWords (words (val xs / x)), isU (if x = 0 then 0 else val xs % x), isB (decide (x ≠ 0))]) := by
  refine Ctr.intro Try.func153 rfl (by kernel_rfl) Try.ntmps153 rfl fun w0 F0 => ?_
  refine Tri.cv (Cv.wk (.cons (t := 0) (Has.t rfl) (.cons (t := 1) (Has.t rfl) .nil))) ?_
  refine Tri.fact (Has.lenLt (Has.t (t := 0) rfl)) fun lt0 => ?_
  refine Tri.fact (Has.okW (Has.t (t := 0) rfl)) fun ok0 => ?_
  refine Tri.fact (Has.ltU (Has.t (t := 1) rfl)) fun lt1 => ?_
  refine Tri.seq fun K1 hK1 => ?_
  refine Tri.region ?_
  refine st (OK1.as (Has.cW (f := isU))) rfl ?_
  refine st (OK1.as (Has.cU 0 rfl)) rfl ?_
  refine st (OK1.as (Has.cB false)) rfl ?_
  refine nl ?_
  refine At.thn (hK1 _ _ ?_); clear hK1
  refine Tri.seq fun K2 hK2 => ?_
  refine Tri.seq fun K3 hK3 => ?_
  refine Tri.region ?_
  refine st (OK1.mv (Has.t rfl)) rfl ?_
  refine st (OK1.eqU (Has.t rfl) (Has.cU 0 rfl)) rfl ?_
  refine nl ?_
  refine At.thn (hK3 _ _ ?_); clear hK3
  refine Tri.cond (Has.t rfl) (fun hc1 => ?_) (fun hc1 => ?_)
  · have hc1 := BP.t hc1
    refine Tri.seq fun K4 hK4 => ?_
    refine Tri.region ?_
    refine st (OK1.as (Has.cW (f := isU))) rfl ?_
    refine st (OK1.as (Has.cU 0 rfl)) rfl ?_
    refine st (OK1.as (Has.cB false)) rfl ?_
    refine nl ?_
    refine At.thn (hK4 _ _ ?_); clear hK4
    refine Tri.ret ?_
    refine At.thr ?_
    refine rtN (.inl rfl) Try.results153 rfl rfl (.tmp (Has.t' rfl ?_) (.tmp (Has.t' rfl ?_) (.tmp (Has.t' rfl ?_) .nil)))
    · exact SlM_eq (by rw [hc1, Nat.div_zero, words_zero])
    · exact isU_eq (by rw [if_pos hc1])
    · exact isB_eq (by simp [hc1])
  · have hc1 := BP.f hc1
    refine Tri.skip ?_
    refine At.thn (hK2 _ _ ?_); clear hK2
    refine Tri.seq fun K5 hK5 => ?_
    refine Tri.region ?_
    refine st (OK1.mv (Has.t rfl)) rfl ?_
    refine Ops.callO (nat_NormO (by omega)) (.cons (Has.t rfl) .nil) rfl (fun hO2 => ?_) (fun hO2 b1 cb1 jb1 => ?_)
    · skip
      refine st (OK1.as (Has.t rfl)) rfl ?_
      refine nl ?_
      refine At.thn (hK5 _ _ ?_); clear hK5
      refine Tri.seq fun K6 hK6 => ?_
      refine Tri.region ?_
      refine st (OK1.as (Has.cU 0 rfl)) rfl ?_
      refine nl ?_
      refine At.thn (hK6 _ _ ?_); clear hK6
      refine Tri.seq fun K7 hK7 => ?_
      refine Tri.seq fun K8 hK8 => ?_
      refine Tri.region ?_
      refine st (OK1.mv (Has.t rfl)) rfl ?_
      refine st (OK1.len sl57 (Has.t rfl)) rfl ?_
      refine st (OK1.subI (Has.t rfl) (Has.cI 1 rfl) (by first | omega | (simp only [List.length_nil]; omega)) (by first | omega | (simp only [List.length_nil]; omega))) rfl ?_
      refine st (OK1.as (Has.t rfl)) rfl ?_
      refine nl ?_
      refine At.thn (hK8 _ _ ?_); clear hK8
      refine Tri.cv (Cv.wk (.cons (t := 0) (Has.t rfl) (.cons (t := 1) (Has.t rfl) (.cons (t := 4) (Has.t rfl) (.cons (t := 5) (Has.t rfl) (.cons (t := 6) (Has.t rfl) (.cons (t := 7) (Has.t rfl) (.cons (t := 8) (Has.t rfl) .nil)))))))) ?_
      refine Tri.block ?_
      refine Tri.loopF [0, 1, 4, 5, 6] (fun (_ : Unit) => [(8, isI (-1)), (7, isU 0)]) (fun M => fun (_ : Unit) => M) (fun (_ : Unit) => 0) (()) (Cv.mem (.cons (t := 8) (Has.t' rfl ?_) (.cons (t := 7) (Has.t' rfl ?_) (.cons (t := 0) (Has.t rfl) (.cons (t := 1) (Has.t rfl) (.cons (t := 4) (Has.t rfl) (.cons (t := 5) (Has.t rfl) (.cons (t := 6) (Has.t rfl) .nil))))))) ?_) ?_
      · rfl
      · rfl
      · rfl
      rintro _ K9 hK9
      refine Tri.cv (Cv.wk (.cons (t := 8) (Has.t rfl) (.cons (t := 7) (Has.t rfl) (.cons (t := 0) (Has.t rfl) (.cons (t := 1) (Has.t rfl) (.cons (t := 4) (Has.t rfl) (.cons (t := 5) (Has.t rfl) (.cons (t := 6) (Has.t rfl) .nil)))))))) ?_
      refine Tri.seq fun K10 hK10 => ?_
      refine Tri.seq fun K11 hK11 => ?_
      refine Tri.region ?_
      refine st (OK1.mv (Has.t rfl)) rfl ?_
      refine st (OK1.geI (Has.t rfl) (Has.cI 0 rfl)) rfl ?_
      refine nl ?_
      refine At.thn (hK11 _ _ ?_); clear hK11
      refine Tri.cond (Has.t rfl) (fun hc3 => ?_) (fun hc3 => ?_)
      · have hc3 := BP.t hc3
        exfalso; first | omega | contradiction | (revert hc3; simp)
      · have hc3 := BP.f hc3
        refine Tri.exit ?_
        refine At.the ?_
        refine At.the ?_
        refine At.blh ?_
        refine At.thn (hK7 _ _ ?_); clear hK7
        refine Tri.seq fun K12 hK12 => ?_
        refine Tri.region ?_
        refine st (OK1.mv (Has.t rfl)) rfl ?_
        refine st (OK1.call (nat_Norm (by first | (rw [val_wordsN]; exact normLe (by omega)) | (show (words 0).length ≤ _; rw [words_zero]; exact Nat.zero_le _))) (.cons (Has.t rfl) .nil)) rfl ?_
        refine st (OK1.mv (Has.t rfl)) rfl ?_
        refine st (OK1.as (Has.t rfl)) rfl ?_
        refine st (OK1.as (Has.t rfl)) rfl ?_
        refine st (OK1.as (Has.cB true)) rfl ?_
        refine nl ?_
        refine At.thn (hK12 _ _ ?_); clear hK12
        refine Tri.cv (Cv.wk (.cons (t := 4) (Has.t rfl) (.cons (t := 5) (Has.t rfl) (.cons (t := 6) (Has.t rfl) .nil)))) ?_
        refine Tri.ret ?_
        refine rtN (.inl rfl) Try.results153 rfl rfl (.tmp (Has.t' rfl ?_) (.tmp (Has.t' rfl ?_) (.tmp (Has.t' rfl ?_) .nil)))
        · exact SlM_eq (by rw [of_words_nil hO2, Nat.zero_div]; rfl)
        · exact isU_eq (by rw [if_neg hc1, of_words_nil hO2, Nat.zero_mod])
        · exact isB_eq (by simp [hc1])
    · skip
      refine st (OK1.as (Has.t rfl)) rfl ?_
      refine nl ?_
      refine At.thn (hK5 _ _ ?_); clear hK5
      refine Tri.seq fun K13 hK13 => ?_
      refine Tri.region ?_
      refine st (OK1.as (Has.cU 0 rfl)) rfl ?_
      refine nl ?_
      refine At.thn (hK13 _ _ ?_); clear hK13
      refine Tri.seq fun K14 hK14 => ?_
      refine Tri.seq fun K15 hK15 => ?_
      refine Tri.region ?_
      refine st (OK1.mv (Has.t rfl)) rfl ?_
      refine st (OK1.len sl57 (Has.t rfl)) rfl ?_
      refine st (OK1.subI (Has.t rfl) (Has.cI 1 rfl) (by first | omega | (simp only [List.length_nil]; omega)) (by first | omega | (simp only [List.length_nil]; omega))) rfl ?_
      refine st (OK1.as (Has.t rfl)) rfl ?_
      refine nl ?_
      refine At.thn (hK15 _ _ ?_); clear hK15
      refine Tri.cv (Cv.wk (.cons (t := 0) (Has.t rfl) (.cons (t := 1) (Has.t rfl) (.cons (t := 4) (Has.t rfl) (.cons (t := 5) (Has.t rfl) (.cons (t := 6) (Has.t rfl) (.cons (t := 7) (Has.t rfl) (.cons (t := 8) (Has.t rfl) .nil)))))))) ?_
      refine Tri.block ?_
      refine Tri.loopF [0, 1, 4, 5, 6] (fun (z : { k : Nat // k ≤ (List.length (words (val xs))) }) => match z with | ⟨k, hI⟩ => [(8, isI ((k : Int) - 1)), (7, isU (val xs / W ^ k % x))]) (fun M => fun (z : { k : Nat // k ≤ (List.length (words (val xs))) }) => match z with | ⟨k, hI⟩ => [(some b1, cellM (List.map isU (mix k (val xs) (val xs / x) ((List.length (words (val xs)))) ++ List.replicate jb1 0)))]) (fun (z : { k : Nat // k ≤ (List.length (words (val xs))) }) => match z with | ⟨k, hI⟩ => k) (⟨(List.length (words (val xs))), Nat.le_refl _⟩) (Cv.mem (.cons (t := 8) (Has.t' rfl ?_) (.cons (t := 7) (Has.t' rfl ?_) (.cons (t := 0) (Has.t rfl) (.cons (t := 1) (Has.t rfl) (.cons (t := 4) (Has.t rfl) (.cons (t := 5) (Has.t rfl) (.cons (t := 6) (Has.t rfl) .nil))))))) ?_) ?_
      · rfl
      · exact isU_eq (by rw [Nat.div_eq_of_lt (nw_lt _), Nat.zero_mod])
      · exact memL_eq (smallStart _ _ _)
      rintro ⟨k, hI⟩ K16 hK16
      refine Tri.cv (Cv.wk (.cons (t := 8) (Has.t rfl) (.cons (t := 7) (Has.t rfl) (.cons (t := 0) (Has.t rfl) (.cons (t := 1) (Has.t rfl) (.cons (t := 4) (Has.t rfl) (.cons (t := 5) (Has.t rfl) (.cons (t := 6) (Has.t rfl) .nil)))))))) ?_
      refine Tri.memEq (M' := [(some b1, cellM (List.map isU (mix k (val xs) (val xs / x) ((List.length (words (val xs)))) ++ List.replicate jb1 0)))]) rfl ?_
      have wl : (mix k (val xs) (val xs / x) ((List.length (words (val xs)))) ++ List.replicate jb1 0).length = (List.length (words (val xs))) + jb1 := by rw [List.length_append, mix_len hI, List.length_replicate]
      have ek : ((k : Int) - 1).toNat = k - 1 := by omega
      refine Tri.seq fun K17 hK17 => ?_
      refine Tri.seq fun K18 hK18 => ?_
      refine Tri.region ?_
      refine st (OK1.mv (Has.t rfl)) rfl ?_
      refine st (OK1.geI (Has.t rfl) (Has.cI 0 rfl)) rfl ?_
      refine nl ?_
      refine At.thn (hK18 _ _ ?_); clear hK18
      refine Tri.cond (Has.t rfl) (fun hc4 => ?_) (fun hc4 => ?_)
      · have hc4 := BP.t hc4
        refine Tri.skip ?_
        refine At.thn (hK17 _ _ ?_); clear hK17
        refine Tri.seq fun K19 hK19 => ?_
        refine Tri.block ?_
        refine Tri.region ?_
        refine st (OK1.mv (Has.t rfl)) rfl ?_
        refine st (OK1.mv (Has.t rfl)) rfl ?_
        refine st (OK1.mv (Has.t rfl)) rfl ?_
        refine st (OK1.mv (Has.t rfl)) rfl ?_
        refine st (OK1.mv (Has.t rfl)) rfl ?_
        refine st (OK1.eq (OK1.ixWin sl57 ty27 (Has.t rfl) (Has.t rfl) ⟨by omega, by omega⟩) (isPtr_eq (by first | exact ixo0 | exact ixo2 | exact ixo1))) rfl ?_
        refine st (OK1.eq (OK1.load1 (Has.t rfl) (i := 0) rfl ty27 (map_some (getD_some (d := 0) (by omega)))) ((show isU _ = isU (dig (val xs) (k - 1)) from isU_eq (by rw [ek, getD_app (by rw [mix_len hI]; omega), mix_low (by omega)])))) rfl ?_
        refine st (OK1.mv (Has.t rfl)) rfl ?_
        refine st (OK1.call (bits_Div64 (Nat.mod_lt _ (by omega))) (.cons (Has.t rfl) (.cons (Has.t rfl) (.cons (Has.t rfl) .nil)))) rfl ?_
        refine st (OK1.mv (Has.t rfl)) rfl ?_
        refine st (OK1.ext (Has.t rfl) rfl) rfl ?_
        refine st (OK1.ext (Has.t rfl) rfl) rfl ?_
        refine st (OK1.eq (OK1.ixWin sl57 ty27 (Has.t rfl) (Has.t rfl) ⟨by omega, by omega⟩) (isPtr_eq (by first | exact ixo0 | exact ixo2 | exact ixo1))) rfl ?_
        refine Ops.storeM (Has.t rfl) (Has.t rfl) (i := 0) rfl ty27 (by omega) (M' := [(_, _)]) rfl ?_
        refine st (OK1.as (Has.t rfl)) rfl ?_
        refine nl ?_
        refine At.bln ?_
        refine At.thn (hK19 _ _ ?_); clear hK19
        refine Tri.region ?_
        refine st (OK1.mv (Has.t rfl)) rfl ?_
        refine st (OK1.subI (Has.t rfl) (Has.cI 1 rfl) (by first | omega | (simp only [List.length_nil]; omega)) (by first | omega | (simp only [List.length_nil]; omega))) rfl ?_
        refine st (OK1.as (Has.t rfl)) rfl ?_
        refine nl ?_
        refine At.thn ?_
        have hs := small_step (A := val xs) (x := x) (by omega) (by omega : 0 < k)
        refine hK16 (⟨k - 1, by omega⟩) _ _ ?_ (Cv.mem (.cons (t := 8) (Has.t' rfl ?_) (.cons (t := 7) (Has.t' rfl ?_) (.cons (t := 0) (Has.t rfl) (.cons (t := 1) (Has.t rfl) (.cons (t := 4) (Has.t rfl) (.cons (t := 5) (Has.t rfl) (.cons (t := 6) (Has.t rfl) .nil))))))) ?_)
        · show k - 1 < k; omega
        · exact isI_eq (by show _ = ((k - 1 : Nat) : Int) - 1; omega)
        · exact isU_eq hs.2
        · exact memL_eq (by rw [ek]; exact mix_down (by omega) hI hs.1)
      · have hc4 := BP.f hc4
        refine Tri.exit ?_
        refine At.the ?_
        refine At.the ?_
        refine At.blh ?_
        refine At.thn (hK14 _ _ ?_); clear hK14
        refine Tri.seq fun K20 hK20 => ?_
        refine Tri.cv (Cv.freeze' (t := 0) (i := 0) (ys := wordsN ((List.length (words (val xs)))) (val xs / x)) rfl rfl rfl (by omega) (by obtain rfl : k = 0 := (by omega); exact smallEnd rfl)) ?_
        refine Tri.memEq (M' := []) rfl ?_
        refine Tri.cv (Cv.wk (.cons (t := 0) (Has.t rfl) (.cons (t := 1) (Has.t rfl) (.cons (t := 4) (Has.t rfl) (.cons (t := 5) (Has.t rfl) (.cons (t := 6) (Has.t rfl) (.cons (t := 8) (Has.t rfl) (.cons (t := 7) (Has.t rfl) (.cons (t := 16) (Has.t rfl) (.cons (t := 17) (Has.t rfl) .nil)))))))))) ?_
        refine Tri.region ?_
        refine st (OK1.mv (Has.t rfl)) rfl ?_
        refine st (OK1.call (nat_Norm (by first | (rw [val_wordsN]; exact normLe (by omega)) | (show (words 0).length ≤ _; rw [words_zero]; exact Nat.zero_le _))) (.cons (Has.t rfl) .nil)) rfl ?_
        refine st (OK1.mv (Has.t rfl)) rfl ?_
        refine st (OK1.as (Has.t rfl)) rfl ?_
        refine st (OK1.as (Has.t rfl)) rfl ?_
        refine st (OK1.as (Has.cB true)) rfl ?_
        refine nl ?_
        refine At.thn (hK20 _ _ ?_); clear hK20
        refine Tri.cv (Cv.wk (.cons (t := 4) (Has.t rfl) (.cons (t := 5) (Has.t rfl) (.cons (t := 6) (Has.t rfl) .nil)))) ?_
        refine Tri.ret ?_
        refine rtN (.inl rfl) Try.results153 rfl rfl (.tmp (Has.t' rfl ?_) (.tmp (Has.t' rfl ?_) (.tmp (Has.t' rfl ?_) .nil)))
        · exact SlM_eq (words_quo _ _)
        · obtain rfl : k = 0 := (by omega); exact isU_eq (by rw [if_neg hc1, Nat.pow_zero, Nat.div_one])
        · exact isB_eq (by simp [hc1])
set_option maxHeartbeats 4000000 in
theorem div_guess {u2 u1 u0 v1 v0 : Nat} (h : 0 < v1) : Ctr Try.prog 164 [isU u2, isU u1, isU u0, isU v1, isU v0] (isU (gss u2 u1 u0 v1 v0)) := by
  refine Ctr.intro Try.func164 rfl (by kernel_rfl) Try.ntmps164 rfl fun w0 F0 => ?_
  refine Tri.cv (Cv.wk (.cons (t := 0) (Has.t rfl) (.cons (t := 1) (Has.t rfl) (.cons (t := 2) (Has.t rfl) (.cons (t := 3) (Has.t rfl) (.cons (t := 4) (Has.t rfl) .nil)))))) ?_
  refine Tri.fact (Has.ltU (Has.t (t := 0) rfl)) fun lt0 => ?_
  refine Tri.fact (Has.ltU (Has.t (t := 1) rfl)) fun lt1 => ?_
  refine Tri.fact (Has.ltU (Has.t (t := 2) rfl)) fun lt2 => ?_
  refine Tri.fact (Has.ltU (Has.t (t := 3) rfl)) fun lt3 => ?_
  refine Tri.fact (Has.ltU (Has.t (t := 4) rfl)) fun lt4 => ?_
  refine Tri.seq fun K1 hK1 => ?_
  refine Tri.region ?_
  refine st (OK1.as (Has.cU 0 rfl)) rfl ?_
  refine nl ?_
  refine At.thn (hK1 _ _ ?_); clear hK1
  refine Tri.seq fun K2 hK2 => ?_
  refine Tri.seq fun K3 hK3 => ?_
  refine Tri.region ?_
  refine st (OK1.mv (Has.t rfl)) rfl ?_
  refine st (OK1.mv (Has.t rfl)) rfl ?_
  refine st (OK1.gtU (Has.t rfl) (Has.t rfl)) rfl ?_
  refine nl ?_
  refine At.thn (hK3 _ _ ?_); clear hK3
  refine Tri.cond (Has.t rfl) (fun hc1 => ?_) (fun hc1 => ?_)
  · have hc1 := BP.t hc1
    refine Tri.seq fun K4 hK4 => ?_
    refine Tri.region ?_
    refine st (OK1.as (Has.cU 18446744073709551615 rfl)) rfl ?_
    refine nl ?_
    refine At.thn (hK4 _ _ ?_); clear hK4
    refine Tri.ret ?_
    refine At.thr ?_
    refine rt1 (.inl rfl) Try.results164 rfl (.tmp (Has.t' rfl ?_) .nil)
    all_goals (exact isU_eq (gss_max hc1 lt4 h))
  · have hc1 := BP.f hc1
    refine Tri.skip ?_
    refine At.thn (hK2 _ _ ?_); clear hK2
    refine Tri.seq fun K5 hK5 => ?_
    refine Tri.region ?_
    refine st (OK1.as (Has.cU 18446744073709551615 rfl)) rfl ?_
    refine st (OK1.as (Has.cU 0 rfl)) rfl ?_
    refine st (OK1.as (Has.cU 0 rfl)) rfl ?_
    refine nl ?_
    refine At.thn (hK5 _ _ ?_); clear hK5
    refine Tri.cutF [2, 3, 4, 10] (fun (z : { z : Nat × Nat // Gw u2 u1 u0 v1 v0 z.1 z.2 }) => match z with | ⟨(q, r), hI⟩ => [(11, isU q), (12, isU (r % 18446744073709551616)), (13, isU (r / 18446744073709551616))]) (fun M => fun (z : { z : Nat × Nat // Gw u2 u1 u0 v1 v0 z.1 z.2 }) => match z with | ⟨(q, r), hI⟩ => M) (fun K6 hK6 => ?_) ?_
    · skip
      refine Tri.seq fun K7 hK7 => ?_
      refine Tri.region ?_
      refine st (OK1.mv (Has.t rfl)) rfl ?_
      refine st (OK1.mv (Has.t rfl)) rfl ?_
      refine st (OK1.eqU (Has.t rfl) (Has.t rfl)) rfl ?_
      refine nl ?_
      refine At.thn (hK7 _ _ ?_); clear hK7
      refine Tri.cv (Cv.wk (.cons (t := 0) (Has.t rfl) (.cons (t := 1) (Has.t rfl) (.cons (t := 2) (Has.t rfl) (.cons (t := 3) (Has.t rfl) (.cons (t := 4) (Has.t rfl) (.cons (t := 10) (Has.t rfl) (.cons (t := 11) (Has.t rfl) (.cons (t := 12) (Has.t rfl) (.cons (t := 13) (Has.t rfl) (.cons (t := 21) (Has.t rfl) .nil))))))))))) ?_
      refine Tri.cond (Has.t rfl) (fun hc2 => ?_) (fun hc2 => ?_)
      · have hc2 := BP.t hc2
        refine Tri.region ?_
        refine st (OK1.mv (Has.t rfl)) rfl ?_
        refine st (OK1.mv (Has.t rfl)) rfl ?_
        refine st (OK1.add64 ext_add64 (Has.t rfl) (Has.t rfl) (Has.cU 0 rfl) (by first | with_reducible assumption | omega) ⟨(by first | with_reducible assumption | omega), (by first | with_reducible assumption | omega)⟩) rfl ?_
        refine st (OK1.mv (Has.t rfl)) rfl ?_
        refine st (OK1.ext (Has.t rfl) rfl) rfl ?_
        refine st (OK1.ext (Has.t rfl) rfl) rfl ?_
        refine st (OK1.as (Has.t rfl)) rfl ?_
        refine st (OK1.as (Has.t rfl)) rfl ?_
        refine nl ?_
        refine At.thn ?_
        refine hK6 (⟨(18446744073709551615, u1 + v1), Gw.same hc2 lt1 lt3⟩) _ _ (Cv.mem (.cons (t := 11) (Has.t' rfl ?_) (.cons (t := 12) (Has.t' rfl ?_) (.cons (t := 13) (Has.t' rfl ?_) (.cons (t := 2) (Has.t rfl) (.cons (t := 3) (Has.t rfl) (.cons (t := 4) (Has.t rfl) (.cons (t := 10) (Has.t rfl) .nil))))))) ?_)
        · rfl
        · rfl
        · rfl
        · rfl
      · have hc2 := BP.f hc2
        refine Tri.region ?_
        refine st (OK1.mv (Has.t rfl)) rfl ?_
        refine st (OK1.mv (Has.t rfl)) rfl ?_
        refine st (OK1.mv (Has.t rfl)) rfl ?_
        refine st (OK1.call (bits_Div64 (by omega)) (.cons (Has.t rfl) (.cons (Has.t rfl) (.cons (Has.t rfl) .nil)))) rfl ?_
        refine st (OK1.mv (Has.t rfl)) rfl ?_
        refine st (OK1.ext (Has.t rfl) rfl) rfl ?_
        refine st (OK1.ext (Has.t rfl) rfl) rfl ?_
        refine st (OK1.as (Has.t rfl)) rfl ?_
        refine st (OK1.as (Has.t rfl)) rfl ?_
        refine nl ?_
        refine At.thn ?_
        have hm := Nat.mod_lt (u2 * 18446744073709551616 + u1) h
        refine hK6 (⟨((u2 * 18446744073709551616 + u1) / v1, (u2 * 18446744073709551616 + u1) % v1), Gw.start (by omega) lt1 lt2 lt3⟩) _ _ (Cv.mem (.cons (t := 11) (Has.t' rfl ?_) (.cons (t := 12) (Has.t' rfl ?_) (.cons (t := 13) (Has.t' rfl ?_) (.cons (t := 2) (Has.t rfl) (.cons (t := 3) (Has.t rfl) (.cons (t := 4) (Has.t rfl) (.cons (t := 10) (Has.t rfl) .nil))))))) ?_)
        · rfl
        · exact isU_eq (Nat.mod_eq_of_lt (by omega)).symm
        · exact isU_eq (Nat.div_eq_of_lt (by omega)).symm
        · rfl
    rintro ⟨⟨q, r⟩, g⟩
    refine Tri.cv (Cv.wk (.cons (t := 11) (Has.t rfl) (.cons (t := 12) (Has.t rfl) (.cons (t := 13) (Has.t rfl) (.cons (t := 2) (Has.t rfl) (.cons (t := 3) (Has.t rfl) (.cons (t := 4) (Has.t rfl) (.cons (t := 10) (Has.t rfl) .nil)))))))) ?_
    simp only [] at g
    refine Tri.seq fun K8 hK8 => ?_
    refine Tri.block ?_
    refine Tri.loopF [2, 3, 4, 10] (fun (z : { z : Nat × Nat // Gw u2 u1 u0 v1 v0 z.1 z.2 }) => match z with | ⟨(q, r), hI⟩ => [(11, isU q), (12, isU (r % 18446744073709551616)), (13, isU (r / 18446744073709551616))]) (fun M => fun (z : { z : Nat × Nat // Gw u2 u1 u0 v1 v0 z.1 z.2 }) => match z with | ⟨(q, r), hI⟩ => M) (fun (z : { z : Nat × Nat // Gw u2 u1 u0 v1 v0 z.1 z.2 }) => match z with | ⟨(q, r), hI⟩ => q) (⟨(q, r), g⟩) (Cv.mem (.cons (t := 11) (Has.t' rfl ?_) (.cons (t := 12) (Has.t' rfl ?_) (.cons (t := 13) (Has.t' rfl ?_) (.cons (t := 2) (Has.t rfl) (.cons (t := 3) (Has.t rfl) (.cons (t := 4) (Has.t rfl) (.cons (t := 10) (Has.t rfl) .nil))))))) ?_) ?_
    · rfl
    · rfl
    · rfl
    · rfl
    rintro ⟨⟨q, r⟩, g⟩ K9 hK9
    refine Tri.cv (Cv.wk (.cons (t := 11) (Has.t rfl) (.cons (t := 12) (Has.t rfl) (.cons (t := 13) (Has.t rfl) (.cons (t := 2) (Has.t rfl) (.cons (t := 3) (Has.t rfl) (.cons (t := 4) (Has.t rfl) (.cons (t := 10) (Has.t rfl) .nil)))))))) ?_
    simp only [] at g
    have gq := g.q
    have gr := g.r
    refine Tri.seq fun K10 hK10 => ?_
    refine Tri.seq fun K11 hK11 => ?_
    refine Tri.region ?_
    refine st (OK1.mv (Has.t rfl)) rfl ?_
    refine st (OK1.eqU (Has.t rfl) (Has.cU 0 rfl)) rfl ?_
    refine nl ?_
    refine At.thn (hK11 _ _ ?_); clear hK11
    refine Tri.cond (Has.t rfl) (fun hc3 => ?_) (fun hc3 => ?_)
    · have hc3 := BP.t hc3
      refine Tri.skip ?_
      refine At.thn (hK10 _ _ ?_); clear hK10
      refine Tri.block ?_
      refine Tri.seq fun K12 hK12 => ?_
      refine Tri.region ?_
      refine st (OK1.mv (Has.t rfl)) rfl ?_
      refine st (OK1.mv (Has.t rfl)) rfl ?_
      refine st (OK1.call bits_Mul64 (.cons (Has.t rfl) (.cons (Has.t rfl) .nil))) rfl ?_
      refine st (OK1.mv (Has.t rfl)) rfl ?_
      refine st (OK1.ext (Has.t rfl) rfl) rfl ?_
      refine st (OK1.ext (Has.t rfl) rfl) rfl ?_
      refine st (OK1.as (Has.t rfl)) rfl ?_
      refine st (OK1.as (Has.t rfl)) rfl ?_
      refine nl ?_
      refine At.thn (hK12 _ _ ?_); clear hK12
      refine Tri.seq fun K13 hK13 => ?_
      refine Tri.seq fun K14 hK14 => ?_
      refine Tri.region ?_
      refine st (OK1.mv (Has.t rfl)) rfl ?_
      refine st (OK1.mv (Has.t rfl)) rfl ?_
      refine st (OK1.ltU (Has.t rfl) (Has.t rfl)) rfl ?_
      refine st (OK1.mv (Has.t rfl)) rfl ?_
      refine stF rfl rfl (fun hg => have hg' := BP.t hg; OK1.mv (Has.t rfl)) rfl ?_
      refine stF rfl rfl (fun hg => have hg' := BP.t hg; OK1.mv (Has.t rfl)) rfl ?_
      refine stF rfl rfl (fun hg => have hg' := BP.t hg; OK1.eqU (Has.g rfl hg) (Has.g rfl hg)) rfl ?_
      refine stF rfl rfl (fun hg => have hg' := BP.t hg; OK1.mv (Has.g rfl hg)) rfl ?_
      refine stGT rfl rfl (fun hg => have hg' := BP.t hg; OK1.mv (Has.t rfl)) rfl ?_
      refine stGT rfl rfl (fun hg => have hg' := BP.t hg; OK1.mv (Has.t rfl)) rfl ?_
      refine stGT rfl rfl (fun hg => have hg' := BP.t hg; OK1.leU (Has.g rfl hg) (Has.g rfl hg)) rfl ?_
      refine stF rfl rfl (fun hg => have hg' := BP.t hg; OK1.pickAnd (Has.g rfl hg) (fun h => Has.g rfl (ga hg h))) rfl ?_
      refine st (OK1.pickOr (Has.t rfl) (fun h => Has.g rfl (ng h))) rfl ?_
      refine nl ?_
      refine At.thn (hK14 _ _ ?_); clear hK14
      refine Tri.cond (Has.t rfl) (fun hc4 => ?_) (fun hc4 => ?_)
      · have hc4 := BP.t hc4
        have ht := (test_le (p := q * v0) (r := r % 18446744073709551616) (u0 := u0) (by omega) lt2).1 hc4
        rw [Nat.mod_eq_of_lt (show r < 18446744073709551616 by omega)] at ht
        refine Tri.exit ?_
        refine At.the ?_
        refine At.blm rfl ?_
        refine At.the ?_
        refine At.blh ?_
        refine At.thn (hK8 _ _ ?_); clear hK8
        refine Tri.cv (Cv.wk (.cons (t := 10) (Has.t rfl) (.cons (t := 11) (Has.t rfl) .nil))) ?_
        refine Tri.seq fun K15 hK15 => ?_
        refine Tri.region ?_
        refine st (OK1.mv (Has.t rfl)) rfl ?_
        refine st (OK1.as (Has.t rfl)) rfl ?_
        refine nl ?_
        refine At.thn (hK15 _ _ ?_); clear hK15
        refine Tri.ret ?_
        refine rt1 (.inl rfl) Try.results164 rfl (.tmp (Has.t' rfl ?_) .nil)
        all_goals (exact isU_eq (g.exit h ht))
      · have hc4 := BP.f hc4
        have ht : ¬ _ := fun hh => absurd ((test_le (p := q * v0) (r := r % 18446744073709551616) (u0 := u0) (by omega) lt2).2 hh) (by omega)
        have hn := Gw.next h lt3 g (by omega) (by omega)
        refine Tri.skip ?_
        refine At.thn (hK13 _ _ ?_); clear hK13
        refine Tri.seq fun K16 hK16 => ?_
        refine Tri.region ?_
        refine st (OK1.mv (Has.t rfl)) rfl ?_
        refine st (OK1.subU' (Has.t rfl) (Has.cU 1 rfl) (by first | with_reducible assumption | omega) (by first | with_reducible assumption | omega)) rfl ?_
        refine st (OK1.as (Has.t rfl)) rfl ?_
        refine nl ?_
        refine At.thn (hK16 _ _ ?_); clear hK16
        refine Tri.region ?_
        refine st (OK1.mv (Has.t rfl)) rfl ?_
        refine st (OK1.mv (Has.t rfl)) rfl ?_
        refine st (OK1.add64 ext_add64 (Has.t rfl) (Has.t rfl) (Has.cU 0 rfl) (by first | with_reducible assumption | omega) ⟨(by first | with_reducible assumption | omega), (by first | with_reducible assumption | omega)⟩) rfl ?_
        refine st (OK1.mv (Has.t rfl)) rfl ?_
        refine st (OK1.ext (Has.t rfl) rfl) rfl ?_
        refine st (OK1.ext (Has.t rfl) rfl) rfl ?_
        refine st (OK1.as (Has.t rfl)) rfl ?_
        refine st (OK1.as (Has.t rfl)) rfl ?_
        refine nl ?_
        refine At.bln ?_
        refine At.thn ?_
        refine hK9 (⟨(q - 1, r + v1), hn.1⟩) _ _ ?_ (Cv.mem (.cons (t := 11) (Has.t' rfl ?_) (.cons (t := 12) (Has.t' rfl ?_) (.cons (t := 13) (Has.t' rfl ?_) (.cons (t := 2) (Has.t rfl) (.cons (t := 3) (Has.t rfl) (.cons (t := 4) (Has.t rfl) (.cons (t := 10) (Has.t rfl) .nil))))))) ?_)
        · show q - 1 < q; have := hn.2; omega
        · rfl
        · exact isU_eq (by show (r % _ + v1 + 0) % _ = (r + v1) % _; omega)
        · exact isU_eq (by show (r % _ + v1 + 0) / _ = (r + v1) / _; omega)
        · rfl
    · have hc3 := BP.f hc3
      refine Tri.exit ?_
      refine At.the ?_
      refine At.the ?_
      refine At.blh ?_
      refine At.thn (hK8 _ _ ?_); clear hK8
      refine Tri.cv (Cv.wk (.cons (t := 10) (Has.t rfl) (.cons (t := 11) (Has.t rfl) .nil))) ?_
      refine Tri.seq fun K17 hK17 => ?_
      refine Tri.region ?_
      refine st (OK1.mv (Has.t rfl)) rfl ?_
      refine st (OK1.as (Has.t rfl)) rfl ?_
      refine nl ?_
      refine At.thn (hK17 _ _ ?_); clear hK17
      refine Tri.ret ?_
      refine rt1 (.inl rfl) Try.results164 rfl (.tmp (Has.t' rfl ?_) .nil)
      all_goals (exact isU_eq (g.exit2 h lt4 (by omega)))
end Go.Proofs.Ytfoclelageohiaa
/- Contracts: a multiple taken away, in place. -/
namespace Go.Proofs.Ytfoclelageohiaa
open Go.En Go.RowKit
set_option linter.unusedVariables false
set_option maxRecDepth 10000
open Go.Nt
set_option maxHeartbeats 2000000 in
theorem div_take {N v q o c m : Nat} (h2 : o + ((List.length (words v)) + 1) ≤ m) (h3 : N / W ^ o < W ^ ((List.length (words v)) + 1)) : CtrM Try.prog 165 (fun b0 => [isWin b0 o ((List.length (words v)) + 1) c, isWords (words v), isU q]) (cellM (List.map isU (wordsN m N))) (cellM (List.map isU (wordsN m (N % W ^ o + W ^ o * (wdiff (N / W ^ o) (v * q) ((List.length (words v)) + 1)))))) (fun b0 => isB (decide (N / W ^ o < v * q))) := by
  refine CtrM.intro Try.func165 rfl (by kernel_rfl) Try.ntmps165 (fun _ => rfl) fun w0 F0 b0 => ?_
  refine Tri.cv (Cv.wk (.cons (t := 0) (Has.t rfl) (.cons (t := 1) (Has.t rfl) (.cons (t := 2) (Has.t rfl) .nil)))) ?_
  refine Tri.fact (Has.lenLt (Has.t (t := 0) rfl)) fun lt0 => ?_
  refine Tri.fact (Has.winLe (Has.t (t := 0) rfl)) fun lw0 => ?_
  refine Tri.fact (Has.lenLt (Has.t (t := 1) rfl)) fun lt1 => ?_
  refine Tri.fact (Has.okW (Has.t (t := 1) rfl)) fun ok1 => ?_
  refine Tri.fact (Has.ltU (Has.t (t := 2) rfl)) fun lt2 => ?_
  refine Tri.seq fun K1 hK1 => ?_
  refine Tri.region ?_
  refine st (OK1.as (Has.cB false)) rfl ?_
  refine nl ?_
  refine At.thn (hK1 _ _ ?_); clear hK1
  refine Tri.seq fun K2 hK2 => ?_
  refine Tri.region ?_
  refine st (OK1.as (Has.cU 0 rfl)) rfl ?_
  refine st (OK1.as (Has.cU 0 rfl)) rfl ?_
  refine nl ?_
  refine At.thn (hK2 _ _ ?_); clear hK2
  refine Tri.seq fun K3 hK3 => ?_
  refine Tri.seq fun K4 hK4 => ?_
  refine Tri.region ?_
  refine st (OK1.mv (Has.t rfl)) rfl ?_
  refine st (OK1.len sl57 (Has.t rfl)) rfl ?_
  refine st (OK1.mv (Has.cI 0 rfl)) rfl ?_
  refine nl ?_
  refine At.thn (hK4 _ _ ?_); clear hK4
  refine Tri.block ?_
  refine Tri.loopF [0, 1, 2, 6, 14, 15] (fun (z : { i : Nat // i ≤ (List.length (words v)) }) => match z with | ⟨i, hI⟩ => [(16, isI (i : Int)), (7, isU (mcar 0 v q i)), (8, isU (bor (N / W ^ o) (v * q) i))]) (fun M => fun (z : { i : Nat // i ≤ (List.length (words v)) }) => match z with | ⟨i, hI⟩ => [(some b0, cellM (List.map isU (mix (o + i) (N % W ^ o + W ^ o * (wdiff (N / W ^ o) (v * q) ((List.length (words v)) + 1))) N m)))]) (fun (z : { i : Nat // i ≤ (List.length (words v)) }) => match z with | ⟨i, hI⟩ => (List.length (words v)) - i) (⟨0, Nat.zero_le _⟩) (Cv.mem (.cons (t := 16) (Has.t' rfl ?_) (.cons (t := 7) (Has.t' rfl ?_) (.cons (t := 8) (Has.t' rfl ?_) (.cons (t := 0) (Has.t rfl) (.cons (t := 1) (Has.t rfl) (.cons (t := 2) (Has.t rfl) (.cons (t := 6) (Has.t rfl) (.cons (t := 14) (Has.t rfl) (.cons (t := 15) (Has.t rfl) .nil))))))))) ?_) ?_
  · rfl
  · exact isU_eq (mcar_zero _ _ _)
  · exact isU_eq (bor_zero _ _)
  · exact memL_eq (mix_start (by omega) (win_mod _ _ _))
  rintro ⟨i, hI⟩ K5 hK5
  refine Tri.cv (Cv.wk (.cons (t := 16) (Has.t rfl) (.cons (t := 7) (Has.t rfl) (.cons (t := 8) (Has.t rfl) (.cons (t := 0) (Has.t rfl) (.cons (t := 1) (Has.t rfl) (.cons (t := 2) (Has.t rfl) (.cons (t := 6) (Has.t rfl) (.cons (t := 14) (Has.t rfl) (.cons (t := 15) (Has.t rfl) .nil)))))))))) ?_
  refine Tri.memEq (M' := [(some b0, cellM (List.map isU (mix (o + i) (N % W ^ o + W ^ o * (wdiff (N / W ^ o) (v * q) ((List.length (words v)) + 1))) N m)))]) rfl ?_
  have wl : (mix (o + i) (N % W ^ o + W ^ o * (wdiff (N / W ^ o) (v * q) ((List.length (words v)) + 1))) N m).length = m := mix_len (by omega)
  have hcl := Nat.lt_of_le_of_lt (mcar_le 0 v q i) lt2
  have hrow := take_word lt2 (dig_lt v i) hcl (dig_lt _ _) (mul_step0 v q i)
  refine Tri.seq fun K6 hK6 => ?_
  refine Tri.region ?_
  refine st (OK1.ltI (Has.t rfl) (Has.t rfl)) rfl ?_
  refine nl ?_
  refine At.thn (hK6 _ _ ?_); clear hK6
  refine Tri.seq fun K7 hK7 => ?_
  refine Tri.cond (Has.t rfl) (fun hc1 => ?_) (fun hc1 => ?_)
  · have hc1 := BP.t hc1
    refine Tri.skip ?_
    refine At.thn (hK7 _ _ ?_); clear hK7
    refine Tri.seq fun K8 hK8 => ?_
    refine Tri.block ?_
    refine Tri.seq fun K9 hK9 => ?_
    refine Tri.region ?_
    refine st (OK1.mv (Has.t rfl)) rfl ?_
    refine st (OK1.ixP sl57 ty27 (Has.t rfl) (Has.t rfl) ⟨by omega, by omega⟩ (getD_some (d := 0) (by first | omega | (simp only [Int.toNat_natCast, List.length_set]; omega)))) rfl ?_
    refine st (OK1.eq (OK1.loadP1 (Has.t rfl) ty27) (isU_eq (getD_words _ i))) rfl ?_
    refine st (OK1.as (Has.t rfl)) rfl ?_
    refine st (OK1.as (Has.t rfl)) rfl ?_
    refine nl ?_
    refine At.thn (hK9 _ _ ?_); clear hK9
    refine Tri.seq fun K10 hK10 => ?_
    refine Tri.region ?_
    refine st (OK1.mv (Has.t rfl)) rfl ?_
    refine st (OK1.mv (Has.t rfl)) rfl ?_
    refine st (OK1.call (bits_Mul64) (.cons (Has.t rfl) (.cons (Has.t rfl) .nil))) rfl ?_
    refine st (OK1.mv (Has.t rfl)) rfl ?_
    refine st (OK1.ext (Has.t rfl) rfl) rfl ?_
    refine st (OK1.ext (Has.t rfl) rfl) rfl ?_
    refine st (OK1.as (Has.t rfl)) rfl ?_
    refine st (OK1.as (Has.t rfl)) rfl ?_
    refine nl ?_
    refine At.thn (hK10 _ _ ?_); clear hK10
    refine Tri.seq fun K11 hK11 => ?_
    refine Tri.region ?_
    refine st (OK1.as (Has.cU 0 rfl)) rfl ?_
    refine nl ?_
    refine At.thn (hK11 _ _ ?_); clear hK11
    refine Tri.seq fun K12 hK12 => ?_
    refine Tri.region ?_
    refine st (OK1.mv (Has.t rfl)) rfl ?_
    refine st (OK1.mv (Has.t rfl)) rfl ?_
    refine st (OK1.add64 ext_add64 (Has.t rfl) (Has.t rfl) (Has.cU 0 rfl) (by first | with_reducible assumption | with_reducible exact bor_le _ _ _ | with_reducible exact dig_lt _ _ | omega) ⟨(by first | with_reducible assumption | with_reducible exact bor_le _ _ _ | with_reducible exact dig_lt _ _ | omega), (by first | with_reducible assumption | with_reducible exact bor_le _ _ _ | with_reducible exact dig_lt _ _ | omega)⟩) rfl ?_
    refine st (OK1.mv (Has.t rfl)) rfl ?_
    refine st (OK1.ext (Has.t rfl) rfl) rfl ?_
    refine st (OK1.ext (Has.t rfl) rfl) rfl ?_
    refine st (OK1.as (Has.t rfl)) rfl ?_
    refine st (OK1.as (Has.t rfl)) rfl ?_
    refine nl ?_
    refine At.thn (hK12 _ _ ?_); clear hK12
    refine Tri.seq fun K13 hK13 => ?_
    refine Tri.region ?_
    refine st (OK1.mv (Has.t rfl)) rfl ?_
    refine st (OK1.mv (Has.t rfl)) rfl ?_
    refine st (OK1.addU' (Has.t rfl) (Has.t rfl) (by first | with_reducible assumption | with_reducible exact bor_le _ _ _ | with_reducible exact dig_lt _ _ | omega)) rfl ?_
    refine st (OK1.as (Has.t rfl)) rfl ?_
    refine nl ?_
    refine At.thn (hK13 _ _ ?_); clear hK13
    refine Tri.region ?_
    refine st (OK1.mv (Has.t rfl)) rfl ?_
    refine st (OK1.mv (Has.t rfl)) rfl ?_
    refine st (OK1.mv (Has.t rfl)) rfl ?_
    refine st (OK1.mv (Has.t rfl)) rfl ?_
    refine st (OK1.eq (OK1.ixWin sl57 ty27 (Has.t rfl) (Has.t rfl) ⟨by omega, by omega⟩) (isPtr_eq (by first | exact ixo0 | exact ixo2 | exact ixo1))) rfl ?_
    refine st (OK1.eq (OK1.load1 (Has.t rfl) (i := 0) rfl ty27 (map_some (getD_some (d := 0) (by first | omega | (simp only [Int.toNat_natCast, List.length_set]; omega))))) (isU_eq (rowGet (by omega)))) rfl ?_
    refine st (OK1.mv (Has.t rfl)) rfl ?_
    refine st (OK1.mv (Has.t rfl)) rfl ?_
    refine st (OK1.sub64 ext_sub64 (Has.t rfl) (Has.t rfl) (Has.t rfl) (by first | with_reducible assumption | with_reducible exact bor_le _ _ _ | with_reducible exact dig_lt _ _ | omega) ⟨(by first | with_reducible assumption | with_reducible exact bor_le _ _ _ | with_reducible exact dig_lt _ _ | omega), (by first | with_reducible assumption | with_reducible exact bor_le _ _ _ | with_reducible exact dig_lt _ _ | omega)⟩) rfl ?_
    refine st (OK1.mv (Has.t rfl)) rfl ?_
    refine st (OK1.ext (Has.t rfl) rfl) rfl ?_
    refine st (OK1.ext (Has.t rfl) rfl) rfl ?_
    refine st (OK1.eq (OK1.ixWin sl57 ty27 (Has.t rfl) (Has.t rfl) ⟨by omega, by omega⟩) (isPtr_eq (by first | exact ixo0 | exact ixo2 | exact ixo1))) rfl ?_
    refine Ops.storeM (Has.t rfl) (Has.t rfl) (i := 0) rfl ty27 (by first | omega | (simp only [Int.toNat_natCast, List.length_set, List.length_replicate]; omega)) (M' := [(_, _)]) rfl ?_
    refine st (OK1.as (Has.t rfl)) rfl ?_
    refine nl ?_
    refine At.bln ?_
    refine At.thn (hK8 _ _ ?_); clear hK8
    refine Tri.region ?_
    refine st (OK1.addI (Has.t rfl) (Has.cI 1 rfl) (by first | with_reducible assumption | with_reducible exact bor_le _ _ _ | with_reducible exact dig_lt _ _ | omega) (by first | with_reducible assumption | with_reducible exact bor_le _ _ _ | with_reducible exact dig_lt _ _ | omega)) rfl ?_
    refine st (OK1.mv (Has.t rfl)) rfl ?_
    refine nl ?_
    refine At.thn ?_
    refine hK5 (⟨i + 1, by omega⟩) _ _ ?_ (Cv.mem (.cons (t := 16) (Has.t' rfl ?_) (.cons (t := 7) (Has.t' rfl ?_) (.cons (t := 8) (Has.t' rfl ?_) (.cons (t := 0) (Has.t rfl) (.cons (t := 1) (Has.t rfl) (.cons (t := 2) (Has.t rfl) (.cons (t := 6) (Has.t rfl) (.cons (t := 14) (Has.t rfl) (.cons (t := 15) (Has.t rfl) .nil))))))))) ?_)
    · show (List.length (words v)) - (i + 1) < (List.length (words v)) - i; omega
    · rfl
    · exact isU_eq hrow.2.1
    · exact isU_eq (by rw [hrow.1]; exact bor_succ _ _ _)
    · exact memL_eq (winPut (by omega) (by rw [hrow.1]; exact wd_dig (vq_lt (nw_lt v) lt2) (by omega)))
  · have hc1 := BP.f hc1
    refine Tri.exit ?_
    refine At.the ?_
    refine At.the ?_
    refine At.blh ?_
    refine At.thn (hK3 _ _ ?_); clear hK3
    refine Tri.cv (Cv.wk (.cons (t := 0) (Has.t rfl) (.cons (t := 1) (Has.t rfl) (.cons (t := 6) (Has.t rfl) (.cons (t := 7) (Has.t rfl) (.cons (t := 8) (Has.t rfl) .nil)))))) ?_
    refine Tri.seq fun K14 hK14 => ?_
    refine Tri.region ?_
    refine st (OK1.mv (Has.t rfl)) rfl ?_
    refine st (OK1.mv (Has.t rfl)) rfl ?_
    refine st (OK1.len sl57 (Has.t rfl)) rfl ?_
    refine st (OK1.mv (Has.t rfl)) rfl ?_
    refine st (OK1.mv (Has.t rfl)) rfl ?_
    refine st (OK1.len sl57 (Has.t rfl)) rfl ?_
    refine st (OK1.eq (OK1.ixWin sl57 ty27 (Has.t rfl) (Has.t rfl) ⟨by omega, by omega⟩) (isPtr_eq (by first | exact ixo0 | exact ixo2 | exact ixo1))) rfl ?_
    refine st (OK1.eq (OK1.load1 (Has.t rfl) (i := 0) rfl ty27 (map_some (getD_some (d := 0) (by first | omega | (simp only [Int.toNat_natCast, List.length_set]; omega))))) ((isU_eq (rowGet' (j := (List.length (words v))) (by omega) (by omega))))) rfl ?_
    refine st (OK1.mv (Has.t rfl)) rfl ?_
    refine st (OK1.mv (Has.t rfl)) rfl ?_
    refine st (OK1.sub64 (l := dig (N / W ^ o) ((List.length (words v)))) (m := mcar 0 v q i) (c := bor (N / W ^ o) (v * q) i) ext_sub64 (Has.t rfl) (Has.t rfl) (Has.t rfl) (bor_le _ _ _) ⟨dig_lt _ _, hcl⟩) rfl ?_
    refine st (OK1.mv (Has.t rfl)) rfl ?_
    refine st (OK1.ext (Has.t rfl) rfl) rfl ?_
    refine st (OK1.ext (Has.t rfl) rfl) rfl ?_
    refine st (OK1.eq (OK1.ixWin sl57 ty27 (Has.t rfl) (Has.t rfl) ⟨by omega, by omega⟩) (isPtr_eq (by first | exact ixo0 | exact ixo2 | exact ixo1))) rfl ?_
    refine Ops.storeM (Has.t rfl) (Has.t rfl) (i := 0) rfl ty27 (by first | omega | (simp only [Int.toNat_natCast, List.length_set, List.length_replicate]; omega)) (M' := [(_, _)]) rfl ?_
    refine st (OK1.as (Has.t rfl)) rfl ?_
    refine nl ?_
    refine At.thn (hK14 _ _ ?_); clear hK14
    refine Tri.cv (Cv.wk (.cons (t := 6) (Has.t rfl) (.cons (t := 8) (Has.t rfl) .nil))) ?_
    refine Tri.seq fun K15 hK15 => ?_
    refine Tri.region ?_
    refine st (OK1.mv (Has.t rfl)) rfl ?_
    refine st (OK1.neU (Has.t rfl) (Has.cU 0 rfl)) rfl ?_
    refine st (OK1.as (Has.t rfl)) rfl ?_
    refine nl ?_
    refine At.thn (hK15 _ _ ?_); clear hK15
    refine Tri.ret ?_
    refine rtM1 (.inl rfl) Try.results165 rfl (i := 0) ?_ (.tmp (Has.t' rfl ?_) .nil)
    · obtain rfl : i = (List.length (words v)) := (by omega); exact memU_eq ((winPut (by omega) (takeTop (nw_lt v) lt2)).trans (winEnd (by omega) h3 (wdiff_lt _ _ _)))
    · obtain rfl : i = (List.length (words v)) := (by omega); exact isB_eq (takeBor (nw_lt v) lt2 h3)
set_option maxHeartbeats 2000000 in
theorem div_back {N v o c m : Nat} (h2 : o + ((List.length (words v)) + 1) ≤ m) (h3 : N / W ^ o < W ^ ((List.length (words v)) + 1)) : CtrM Try.prog 166 (fun b0 => [isWin b0 o ((List.length (words v)) + 1) c, isWords (words v)]) (cellM (List.map isU (wordsN m N))) (cellM (List.map isU (wordsN m (N % W ^ o + W ^ o * (wsum (N / W ^ o) v ((List.length (words v)) + 1)))))) (fun b0 => isTup []) := by
  refine CtrM.intro Try.func166 rfl (by kernel_rfl) Try.ntmps166 (fun _ => rfl) fun w0 F0 b0 => ?_
  refine Tri.cv (Cv.wk (.cons (t := 0) (Has.t rfl) (.cons (t := 1) (Has.t rfl) .nil))) ?_
  refine Tri.fact (Has.lenLt (Has.t (t := 0) rfl)) fun lt0 => ?_
  refine Tri.fact (Has.winLe (Has.t (t := 0) rfl)) fun lw0 => ?_
  refine Tri.fact (Has.lenLt (Has.t (t := 1) rfl)) fun lt1 => ?_
  refine Tri.fact (Has.okW (Has.t (t := 1) rfl)) fun ok1 => ?_
  refine Tri.seq fun K1 hK1 => ?_
  refine Tri.region ?_
  refine st (OK1.as (Has.cU 0 rfl)) rfl ?_
  refine nl ?_
  refine At.thn (hK1 _ _ ?_); clear hK1
  refine Tri.seq fun K2 hK2 => ?_
  refine Tri.seq fun K3 hK3 => ?_
  refine Tri.region ?_
  refine st (OK1.mv (Has.t rfl)) rfl ?_
  refine st (OK1.len sl57 (Has.t rfl)) rfl ?_
  refine st (OK1.mv (Has.cI 0 rfl)) rfl ?_
  refine nl ?_
  refine At.thn (hK3 _ _ ?_); clear hK3
  refine Tri.block ?_
  refine Tri.loopF [0, 1, 7, 8] (fun (z : { i : Nat // i ≤ (List.length (words v)) }) => match z with | ⟨i, hI⟩ => [(9, isI (i : Int)), (4, isU (car (N / W ^ o) v i))]) (fun M => fun (z : { i : Nat // i ≤ (List.length (words v)) }) => match z with | ⟨i, hI⟩ => [(some b0, cellM (List.map isU (mix (o + i) (N % W ^ o + W ^ o * (wsum (N / W ^ o) v ((List.length (words v)) + 1))) N m)))]) (fun (z : { i : Nat // i ≤ (List.length (words v)) }) => match z with | ⟨i, hI⟩ => (List.length (words v)) - i) (⟨0, Nat.zero_le _⟩) (Cv.mem (.cons (t := 9) (Has.t' rfl ?_) (.cons (t := 4) (Has.t' rfl ?_) (.cons (t := 0) (Has.t rfl) (.cons (t := 1) (Has.t rfl) (.cons (t := 7) (Has.t rfl) (.cons (t := 8) (Has.t rfl) .nil)))))) ?_) ?_
  · rfl
  · exact isU_eq (car_zero _ _)
  · exact memL_eq (mix_start (by omega) (win_mod _ _ _))
  rintro ⟨i, hI⟩ K4 hK4
  refine Tri.cv (Cv.wk (.cons (t := 9) (Has.t rfl) (.cons (t := 4) (Has.t rfl) (.cons (t := 0) (Has.t rfl) (.cons (t := 1) (Has.t rfl) (.cons (t := 7) (Has.t rfl) (.cons (t := 8) (Has.t rfl) .nil))))))) ?_
  refine Tri.memEq (M' := [(some b0, cellM (List.map isU (mix (o + i) (N % W ^ o + W ^ o * (wsum (N / W ^ o) v ((List.length (words v)) + 1))) N m)))]) rfl ?_
  have wl : (mix (o + i) (N % W ^ o + W ^ o * (wsum (N / W ^ o) v ((List.length (words v)) + 1))) N m).length = m := mix_len (by omega)
  refine Tri.seq fun K5 hK5 => ?_
  refine Tri.region ?_
  refine st (OK1.ltI (Has.t rfl) (Has.t rfl)) rfl ?_
  refine nl ?_
  refine At.thn (hK5 _ _ ?_); clear hK5
  refine Tri.seq fun K6 hK6 => ?_
  refine Tri.cond (Has.t rfl) (fun hc1 => ?_) (fun hc1 => ?_)
  · have hc1 := BP.t hc1
    refine Tri.skip ?_
    refine At.thn (hK6 _ _ ?_); clear hK6
    refine Tri.seq fun K7 hK7 => ?_
    refine Tri.block ?_
    refine Tri.seq fun K8 hK8 => ?_
    refine Tri.region ?_
    refine st (OK1.mv (Has.t rfl)) rfl ?_
    refine st (OK1.ixP sl57 ty27 (Has.t rfl) (Has.t rfl) ⟨by omega, by omega⟩ (getD_some (d := 0) (by first | omega | (simp only [Int.toNat_natCast, List.length_set]; omega)))) rfl ?_
    refine st (OK1.eq (OK1.loadP1 (Has.t rfl) ty27) (isU_eq (getD_words _ i))) rfl ?_
    refine st (OK1.as (Has.t rfl)) rfl ?_
    refine st (OK1.as (Has.t rfl)) rfl ?_
    refine nl ?_
    refine At.thn (hK8 _ _ ?_); clear hK8
    refine Tri.region ?_
    refine st (OK1.mv (Has.t rfl)) rfl ?_
    refine st (OK1.mv (Has.t rfl)) rfl ?_
    refine st (OK1.mv (Has.t rfl)) rfl ?_
    refine st (OK1.mv (Has.t rfl)) rfl ?_
    refine st (OK1.eq (OK1.ixWin sl57 ty27 (Has.t rfl) (Has.t rfl) ⟨by omega, by omega⟩) (isPtr_eq (by first | exact ixo0 | exact ixo2 | exact ixo1))) rfl ?_
    refine st (OK1.eq (OK1.load1 (Has.t rfl) (i := 0) rfl ty27 (map_some (getD_some (d := 0) (by first | omega | (simp only [Int.toNat_natCast, List.length_set]; omega))))) (isU_eq (rowGet (by omega)))) rfl ?_
    refine st (OK1.mv (Has.t rfl)) rfl ?_
    refine st (OK1.mv (Has.t rfl)) rfl ?_
    refine st (OK1.add64 ext_add64 (Has.t rfl) (Has.t rfl) (Has.t rfl) (by first | with_reducible assumption | with_reducible exact car_le _ _ _ | with_reducible exact dig_lt _ _ | omega) ⟨(by first | with_reducible assumption | with_reducible exact car_le _ _ _ | with_reducible exact dig_lt _ _ | omega), (by first | with_reducible assumption | with_reducible exact car_le _ _ _ | with_reducible exact dig_lt _ _ | omega)⟩) rfl ?_
    refine st (OK1.mv (Has.t rfl)) rfl ?_
    refine st (OK1.ext (Has.t rfl) rfl) rfl ?_
    refine st (OK1.ext (Has.t rfl) rfl) rfl ?_
    refine st (OK1.eq (OK1.ixWin sl57 ty27 (Has.t rfl) (Has.t rfl) ⟨by omega, by omega⟩) (isPtr_eq (by first | exact ixo0 | exact ixo2 | exact ixo1))) rfl ?_
    refine Ops.storeM (Has.t rfl) (Has.t rfl) (i := 0) rfl ty27 (by first | omega | (simp only [Int.toNat_natCast, List.length_set, List.length_replicate]; omega)) (M' := [(_, _)]) rfl ?_
    refine st (OK1.as (Has.t rfl)) rfl ?_
    refine nl ?_
    refine At.bln ?_
    refine At.thn (hK7 _ _ ?_); clear hK7
    refine Tri.region ?_
    refine st (OK1.addI (Has.t rfl) (Has.cI 1 rfl) (by first | with_reducible assumption | with_reducible exact car_le _ _ _ | with_reducible exact dig_lt _ _ | omega) (by first | with_reducible assumption | with_reducible exact car_le _ _ _ | with_reducible exact dig_lt _ _ | omega)) rfl ?_
    refine st (OK1.mv (Has.t rfl)) rfl ?_
    refine nl ?_
    refine At.thn ?_
    refine hK4 (⟨i + 1, by omega⟩) _ _ ?_ (Cv.mem (.cons (t := 9) (Has.t' rfl ?_) (.cons (t := 4) (Has.t' rfl ?_) (.cons (t := 0) (Has.t rfl) (.cons (t := 1) (Has.t rfl) (.cons (t := 7) (Has.t rfl) (.cons (t := 8) (Has.t rfl) .nil)))))) ?_)
    · show (List.length (words v)) - (i + 1) < (List.length (words v)) - i; omega
    · rfl
    · exact isU_eq (add_car _ _ _)
    · exact memL_eq (winPut (by omega) (ws_dig (by omega)))
  · have hc1 := BP.f hc1
    refine Tri.exit ?_
    refine At.the ?_
    refine At.the ?_
    refine At.blh ?_
    refine At.thn (hK2 _ _ ?_); clear hK2
    refine Tri.region ?_
    refine st (OK1.mv (Has.t rfl)) rfl ?_
    refine st (OK1.mv (Has.t rfl)) rfl ?_
    refine st (OK1.len sl57 (Has.t rfl)) rfl ?_
    refine st (OK1.eq (OK1.ixWin sl57 ty27 (Has.t rfl) (Has.t rfl) ⟨by omega, by omega⟩) (isPtr_eq (by first | exact ixo0 | exact ixo2 | exact ixo1))) rfl ?_
    refine st (OK1.eq (OK1.load1 (Has.t rfl) (i := 0) rfl ty27 (map_some (getD_some (d := 0) (by first | omega | (simp only [Int.toNat_natCast, List.length_set]; omega))))) ((isU_eq (rowGet' (j := (List.length (words v))) (by omega) (by omega))))) rfl ?_
    refine st (OK1.mv (Has.t rfl)) rfl ?_
    refine st (OK1.addU (Has.t rfl) (Has.t rfl)) rfl ?_
    refine st (OK1.eq (OK1.ixWin sl57 ty27 (Has.t rfl) (Has.t rfl) ⟨by omega, by omega⟩) (isPtr_eq (by first | exact ixo0 | exact ixo2 | exact ixo1))) rfl ?_
    refine Ops.storeM (Has.t rfl) (Has.t rfl) (i := 0) rfl ty27 (by first | omega | (simp only [Int.toNat_natCast, List.length_set, List.length_replicate]; omega)) (M' := [(_, _)]) rfl ?_
    refine nl ?_
    refine rtM0 (.inr rfl) Try.results166 rfl (i := 0) ?_
    all_goals (obtain rfl : i = (List.length (words v)) := (by omega); exact memU_eq ((winPut (by omega) (backTop (nw_lt v))).trans (winEnd (by omega) h3 (wsum_lt _ _ _))))
end Go.Proofs.Ytfoclelageohiaa
/- Contracts: long division. -/
namespace Go.Proofs.Ytfoclelageohiaa
open Go.En Go.RowKit
set_option linter.unusedVariables false
set_option maxRecDepth 10000
open Go.Nt
set_option maxHeartbeats 4000000 in
theorem div_long {N v c m : Nat} (hn : 2 ≤ (List.length (words v))) (hm : (List.length (words v)) < m) (hM : m ≤ 4294967296) (hN : N < v * W ^ (m - (List.length (words v)))) : CtrM Try.prog 156 (fun b0 => [isWin b0 0 m c, isWords (words v)]) (cellM (List.map isU (wordsN m N))) (cellM (List.map isU (wordsN m (left N v 0)))) (fun b0 => isWords (wordsN (m - (List.length (words v))) (N / v))) := by
  refine CtrM.intro Try.func156 rfl (by kernel_rfl) Try.ntmps156 (fun _ => rfl) fun w0 F0 b0 => ?_
  refine Tri.cv (Cv.wk (.cons (t := 0) (Has.t rfl) (.cons (t := 1) (Has.t rfl) .nil))) ?_
  refine Tri.fact (Has.lenLt (Has.t (t := 0) rfl)) fun lt0 => ?_
  refine Tri.fact (Has.winLe (Has.t (t := 0) rfl)) fun lw0 => ?_
  refine Tri.fact (Has.lenLt (Has.t (t := 1) rfl)) fun lt1 => ?_
  refine Tri.fact (Has.okW (Has.t (t := 1) rfl)) fun ok1 => ?_
  refine Tri.seq fun K1 hK1 => ?_
  refine Tri.region ?_
  refine st (OK1.as (Has.cW (f := isU))) rfl ?_
  refine nl ?_
  refine At.thn (hK1 _ _ ?_); clear hK1
  refine Tri.seq fun K2 hK2 => ?_
  refine Tri.region ?_
  refine st (OK1.mv (Has.t rfl)) rfl ?_
  refine st (OK1.len sl57 (Has.t rfl)) rfl ?_
  refine st (OK1.as (Has.t rfl)) rfl ?_
  refine nl ?_
  refine At.thn (hK2 _ _ ?_); clear hK2
  refine Tri.seq fun K3 hK3 => ?_
  refine Tri.region ?_
  refine st (OK1.mv (Has.t rfl)) rfl ?_
  refine st (OK1.len sl57 (Has.t rfl)) rfl ?_
  refine st (OK1.mv (Has.t rfl)) rfl ?_
  refine st (OK1.eq (OK1.subI (Has.t rfl) (Has.t rfl) (by first | with_reducible assumption | omega | with_reducible exact dig_lt _ _) (by first | with_reducible assumption | omega | with_reducible exact dig_lt _ _)) ((show isI _ = isI ((m - (List.length (words v)) : Nat) : Int) from isI_eq (by omega)))) rfl ?_
  refine Ops.make (f := isU) (u := 0) (n := m - (List.length (words v))) (c := m - (List.length (words v))) sl57 ty27 zero27 (fun _ _ => ⟨⟨rfl, by decide⟩, trivial⟩) by27 (Has.t' rfl rfl) (Has.t' rfl rfl) ⟨by omega, by omega⟩ rfl fun b1 => ?_
  refine st (OK1.as (Has.t rfl)) rfl ?_
  refine nl ?_
  refine At.thn (hK3 _ _ ?_); clear hK3
  refine Tri.cv (Cv.wk (.cons (t := 0) (Has.t rfl) (.cons (t := 1) (Has.t rfl) (.cons (t := 4) (Has.t rfl) (.cons (t := 5) (Has.t rfl) (.cons (t := 6) (Has.t rfl) .nil)))))) ?_
  refine Tri.seq fun K4 hK4 => ?_
  refine Tri.seq fun K5 hK5 => ?_
  refine Tri.region ?_
  refine st (OK1.mv (Has.t rfl)) rfl ?_
  refine st (OK1.len sl57 (Has.t rfl)) rfl ?_
  refine st (OK1.subI (Has.t rfl) (Has.cI 1 rfl) (by first | with_reducible assumption | omega | with_reducible exact dig_lt _ _) (by first | with_reducible assumption | omega | with_reducible exact dig_lt _ _)) rfl ?_
  refine st (OK1.as (Has.t rfl)) rfl ?_
  refine nl ?_
  refine At.thn (hK5 _ _ ?_); clear hK5
  refine Tri.block ?_
  refine Tri.loopF [0, 1, 4, 5, 6] (fun (z : { k : Nat // k ≤ m - (List.length (words v)) }) => match z with | ⟨k, hI⟩ => [(7, isI ((k : Int) - 1))]) (fun M => fun (z : { k : Nat // k ≤ m - (List.length (words v)) }) => match z with | ⟨k, hI⟩ => [(some b1, cellM (List.map isU (mix k 0 (N / v) (m - (List.length (words v)))))), (some b0, cellM (List.map isU (wordsN m (left N v k))))]) (fun (z : { k : Nat // k ≤ m - (List.length (words v)) }) => match z with | ⟨k, hI⟩ => k) (⟨m - (List.length (words v)), Nat.le_refl _⟩) (Cv.mem (.cons (t := 7) (Has.t' rfl ?_) (.cons (t := 0) (Has.t rfl) (.cons (t := 1) (Has.t rfl) (.cons (t := 4) (Has.t rfl) (.cons (t := 5) (Has.t rfl) (.cons (t := 6) (Has.t rfl) .nil)))))) ?_) ?_
  · rfl
  · exact mem2_eq (outStart _ _) (by rw [left_top hN])
  rintro ⟨k, hI⟩ K6 hK6
  refine Tri.cv (Cv.wk (.cons (t := 7) (Has.t rfl) (.cons (t := 0) (Has.t rfl) (.cons (t := 1) (Has.t rfl) (.cons (t := 4) (Has.t rfl) (.cons (t := 5) (Has.t rfl) (.cons (t := 6) (Has.t rfl) .nil))))))) ?_
  refine Tri.memEq (M' := [(some b1, cellM (List.map isU (mix k 0 (N / v) (m - (List.length (words v)))))), (some b0, cellM (List.map isU (wordsN m (left N v k))))]) rfl ?_
  have wl : (wordsN m (left N v k)).length = m := wordsN_len _ _
  have wl2 : (mix k 0 (N / v) (m - (List.length (words v)))).length = m - (List.length (words v)) := mix_len hI
  refine Tri.seq fun K7 hK7 => ?_
  refine Tri.seq fun K8 hK8 => ?_
  refine Tri.region ?_
  refine st (OK1.mv (Has.t rfl)) rfl ?_
  refine st (OK1.geI (Has.t rfl) (Has.cI 0 rfl)) rfl ?_
  refine nl ?_
  refine At.thn (hK8 _ _ ?_); clear hK8
  refine Tri.cond (Has.t rfl) (fun hc1 => ?_) (fun hc1 => ?_)
  · have hc1 := BP.t hc1
    obtain ⟨j, rfl⟩ : ∃ j, k = j + 1 := ⟨k - 1, by omega⟩
    obtain ⟨k2, hk2⟩ : ∃ k2, (List.length (words v)) = k2 + 2 := ⟨(List.length (words v)) - 2, by omega⟩
    have ej : (((j + 1 : Nat) : Int) - 1) = (j : Int) := by omega
    obtain ⟨g, hg⟩ : ∃ g, g = gss (dig (left N v (j + 1) / W ^ j) (k2 + 2)) (dig (left N v (j + 1) / W ^ j) (k2 + 1)) (dig (left N v (j + 1) / W ^ j) k2) (dig v (k2 + 1)) (dig v k2) := ⟨_, rfl⟩
    have hgl : g < 18446744073709551616 := hg ▸ gss_lt _ _ _ _ _
    have R := round hk2 hg hgl
    refine Tri.skip ?_
    refine At.thn (hK7 _ _ ?_); clear hK7
    refine Tri.seq fun K9 hK9 => ?_
    refine Tri.block ?_
    refine Tri.seq fun K10 hK10 => ?_
    refine Tri.dr ?_
    refine DrG.st (i := 0) [] rfl rfl rfl (by kernel_rfl) (OKG.o rfl (OK1.mv (Has.t rfl))) ?_
    refine DrG.st (i := 1) [] rfl rfl rfl (by kernel_rfl) (OKG.o rfl (OK1.eq (OK1.mv (Has.t rfl)) ((isI_eq ej)))) ?_
    refine DrG.st (i := 2) [] rfl rfl rfl (by kernel_rfl) (OKG.o rfl (OK1.mv (Has.t rfl))) ?_
    refine DrG.st (i := 3) [25, 26] rfl rfl rfl (by kernel_rfl) (OKG.o rfl (OK1.addI (Has.t rfl) (Has.t rfl) (by first | with_reducible assumption | omega | with_reducible exact dig_lt _ _) (by first | with_reducible assumption | omega | with_reducible exact dig_lt _ _))) ?_
    refine DrG.st (i := 4) [24, 27] rfl rfl rfl (by kernel_rfl) (OKG.o rfl (OK1.eq (OK1.ixWin sl57 ty27 (Has.t rfl) (Has.t rfl) ⟨by omega, by omega⟩) (isPtr_eq (by first | exact ixo0 | exact ixo2 | exact ixo1)))) ?_
    refine DrG.st (i := 5) [28] rfl rfl rfl (by kernel_rfl) (OKG.o rfl (OK1.eq (OK1.load1 (Has.t rfl) (i := 1) rfl ty27 (map_some (getD_some (d := 0) (by first | omega | (simp only [Int.toNat_natCast, List.length_set]; omega))))) ((show isU _ = isU (dig (left N v (j + 1) / W ^ j) (k2 + 2)) from isU_eq (getW (by omega) (by omega)))))) ?_
    refine DrG.st (i := 6) [] rfl rfl rfl (by kernel_rfl) (OKG.o rfl (OK1.mv (Has.t rfl))) ?_
    refine DrG.st (i := 7) [] rfl rfl rfl (by kernel_rfl) (OKG.o rfl (OK1.eq (OK1.mv (Has.t rfl)) ((isI_eq ej)))) ?_
    refine DrG.st (i := 8) [] rfl rfl rfl (by kernel_rfl) (OKG.o rfl (OK1.mv (Has.t rfl))) ?_
    refine DrG.st (i := 9) [31, 32] rfl rfl rfl (by kernel_rfl) (OKG.o rfl (OK1.addI (Has.t rfl) (Has.t rfl) (by first | with_reducible assumption | omega | with_reducible exact dig_lt _ _) (by first | with_reducible assumption | omega | with_reducible exact dig_lt _ _))) ?_
    refine DrG.st (i := 10) [33] rfl rfl rfl (by kernel_rfl) (OKG.o rfl (OK1.subI (Has.t rfl) (Has.cI 1 rfl) (by first | with_reducible assumption | omega | with_reducible exact dig_lt _ _) (by first | with_reducible assumption | omega | with_reducible exact dig_lt _ _))) ?_
    refine DrG.st (i := 11) [30, 34] rfl rfl rfl (by kernel_rfl) (OKG.o rfl (OK1.eq (OK1.ixWin sl57 ty27 (Has.t rfl) (Has.t rfl) ⟨by omega, by omega⟩) (isPtr_eq (by first | exact ixo0 | exact ixo2 | exact ixo1)))) ?_
    refine DrG.st (i := 12) [35] rfl rfl rfl (by kernel_rfl) (OKG.o rfl (OK1.eq (OK1.load1 (Has.t rfl) (i := 1) rfl ty27 (map_some (getD_some (d := 0) (by first | omega | (simp only [Int.toNat_natCast, List.length_set]; omega))))) ((show isU _ = isU (dig (left N v (j + 1) / W ^ j) (k2 + 1)) from isU_eq (getW (by omega) (by omega)))))) ?_
    refine DrG.st (i := 13) [] rfl rfl rfl (by kernel_rfl) (OKG.o rfl (OK1.mv (Has.t rfl))) ?_
    refine DrG.st (i := 14) [] rfl rfl rfl (by kernel_rfl) (OKG.o rfl (OK1.eq (OK1.mv (Has.t rfl)) ((isI_eq ej)))) ?_
    refine DrG.st (i := 15) [] rfl rfl rfl (by kernel_rfl) (OKG.o rfl (OK1.mv (Has.t rfl))) ?_
    refine DrG.st (i := 16) [38, 39] rfl rfl rfl (by kernel_rfl) (OKG.o rfl (OK1.addI (Has.t rfl) (Has.t rfl) (by first | with_reducible assumption | omega | with_reducible exact dig_lt _ _) (by first | with_reducible assumption | omega | with_reducible exact dig_lt _ _))) ?_
    refine DrG.st (i := 17) [40] rfl rfl rfl (by kernel_rfl) (OKG.o rfl (OK1.subI (Has.t rfl) (Has.cI 2 rfl) (by first | with_reducible assumption | omega | with_reducible exact dig_lt _ _) (by first | with_reducible assumption | omega | with_reducible exact dig_lt _ _))) ?_
    refine DrG.st (i := 18) [37, 41] rfl rfl rfl (by kernel_rfl) (OKG.o rfl (OK1.eq (OK1.ixWin sl57 ty27 (Has.t rfl) (Has.t rfl) ⟨by omega, by omega⟩) (isPtr_eq (by first | exact ixo0 | exact ixo2 | exact ixo1)))) ?_
    refine DrG.st (i := 19) [42] rfl rfl rfl (by kernel_rfl) (OKG.o rfl (OK1.eq (OK1.load1 (Has.t rfl) (i := 1) rfl ty27 (map_some (getD_some (d := 0) (by first | omega | (simp only [Int.toNat_natCast, List.length_set]; omega))))) ((show isU _ = isU (dig (left N v (j + 1) / W ^ j) (k2)) from isU_eq (getW (by omega) (by omega)))))) ?_
    refine DrG.st (i := 20) [] rfl rfl rfl (by kernel_rfl) (OKG.o rfl (OK1.mv (Has.t rfl))) ?_
    refine DrG.st (i := 21) [] rfl rfl rfl (by kernel_rfl) (OKG.o rfl (OK1.mv (Has.t rfl))) ?_
    refine DrG.st (i := 22) [45] rfl rfl rfl (by kernel_rfl) (OKG.o rfl (OK1.subI (Has.t rfl) (Has.cI 1 rfl) (by first | with_reducible assumption | omega | with_reducible exact dig_lt _ _) (by first | with_reducible assumption | omega | with_reducible exact dig_lt _ _))) ?_
    refine DrG.st (i := 23) [44, 46] rfl rfl rfl (by kernel_rfl) (OKG.o rfl (OK1.ixP sl57 ty27 (Has.t rfl) (Has.t rfl) ⟨by omega, by omega⟩ (getD_some (d := 0) (by first | omega | (simp only [Int.toNat_natCast, List.length_set]; omega))))) ?_
    refine DrG.st (i := 24) [47] rfl rfl rfl (by kernel_rfl) (OKG.o rfl (OK1.eq (OK1.loadP1 (Has.t rfl) ty27) ((show isU _ = isU (dig v (k2 + 1)) from isU_eq (getV (by omega)))))) ?_
    refine DrG.st (i := 25) [] rfl rfl rfl (by kernel_rfl) (OKG.o rfl (OK1.mv (Has.t rfl))) ?_
    refine DrG.st (i := 26) [] rfl rfl rfl (by kernel_rfl) (OKG.o rfl (OK1.mv (Has.t rfl))) ?_
    refine DrG.st (i := 27) [50] rfl rfl rfl (by kernel_rfl) (OKG.o rfl (OK1.subI (Has.t rfl) (Has.cI 2 rfl) (by first | with_reducible assumption | omega | with_reducible exact dig_lt _ _) (by first | with_reducible assumption | omega | with_reducible exact dig_lt _ _))) ?_
    refine DrG.st (i := 28) [49, 51] rfl rfl rfl (by kernel_rfl) (OKG.o rfl (OK1.ixP sl57 ty27 (Has.t rfl) (Has.t rfl) ⟨by omega, by omega⟩ (getD_some (d := 0) (by first | omega | (simp only [Int.toNat_natCast, List.length_set]; omega))))) ?_
    refine DrG.st (i := 29) [52] rfl rfl rfl (by kernel_rfl) (OKG.o rfl (OK1.eq (OK1.loadP1 (Has.t rfl) ty27) ((show isU _ = isU (dig v k2) from isU_eq (getV (by omega)))))) ?_
    refine DrG.fin (n := 30) mixed (by kernel_rfl) (by kernel_rfl) (by kernel_rfl) ?_
    refine Ops.cv (Cv.wk (.cons (t := 0) (Has.t rfl) (.cons (t := 1) (Has.t rfl) (.cons (t := 4) (Has.t rfl) (.cons (t := 5) (Has.t rfl) (.cons (t := 6) (Has.t rfl) (.cons (t := 7) (Has.t rfl) (.cons (t := 20) (Has.t rfl) (.cons (t := 21) (Has.t rfl) (.cons (t := 24) (Has.t rfl) (.cons (t := 25) (Has.t rfl) (.cons (t := 26) (Has.t rfl) (.cons (t := 27) (Has.t rfl) (.cons (t := 28) (Has.t rfl) (.cons (t := 29) (Has.t rfl) (.cons (t := 30) (Has.t rfl) (.cons (t := 31) (Has.t rfl) (.cons (t := 32) (Has.t rfl) (.cons (t := 33) (Has.t rfl) (.cons (t := 34) (Has.t rfl) (.cons (t := 35) (Has.t rfl) (.cons (t := 36) (Has.t rfl) (.cons (t := 37) (Has.t rfl) (.cons (t := 38) (Has.t rfl) (.cons (t := 39) (Has.t rfl) (.cons (t := 40) (Has.t rfl) (.cons (t := 41) (Has.t rfl) (.cons (t := 42) (Has.t rfl) (.cons (t := 43) (Has.t rfl) (.cons (t := 44) (Has.t rfl) (.cons (t := 45) (Has.t rfl) (.cons (t := 46) (Has.t rfl) (.cons (t := 47) (Has.t rfl) (.cons (t := 48) (Has.t rfl) (.cons (t := 49) (Has.t rfl) (.cons (t := 50) (Has.t rfl) (.cons (t := 51) (Has.t rfl) (.cons (t := 52) (Has.t rfl) (.cons (t := 53) (Has.t rfl) .nil))))))))))))))))))))))))))))))))))))))) ?_
    refine st (OK1.eq (OK1.call (div_guess R.hd) (.cons (Has.t rfl) (.cons (Has.t rfl) (.cons (Has.t rfl) (.cons (Has.t rfl) (.cons (Has.t rfl) .nil)))))) ((show isU _ = isU g from isU_eq hg.symm))) rfl ?_
    refine st (OK1.as (Has.t rfl)) rfl ?_
    refine nl ?_
    refine At.thn (hK10 _ _ ?_); clear hK10
    refine Tri.seq fun K11 hK11 => ?_
    refine Tri.region ?_
    refine st (OK1.mv (Has.t rfl)) rfl ?_
    refine st (OK1.eq (OK1.mv (Has.t rfl)) ((isI_eq ej))) rfl ?_
    refine st (OK1.eq (OK1.mv (Has.t rfl)) ((isI_eq ej))) rfl ?_
    refine st (OK1.mv (Has.t rfl)) rfl ?_
    refine st (OK1.addI (Has.t rfl) (Has.t rfl) (by first | with_reducible assumption | omega | with_reducible exact dig_lt _ _) (by first | with_reducible assumption | omega | with_reducible exact dig_lt _ _)) rfl ?_
    refine st (OK1.addI (Has.t rfl) (Has.cI 1 rfl) (by first | with_reducible assumption | omega | with_reducible exact dig_lt _ _) (by first | with_reducible assumption | omega | with_reducible exact dig_lt _ _)) rfl ?_
    refine st (OK1.eq (OK1.eq (OK1.slLHWin sl57 ty27 (Has.t rfl) (Has.t rfl) (Has.t rfl) ⟨by omega, by omega, by omega, by omega⟩) (isWin_eq (by first | exact ixo0 | exact ixo1) rfl rfl)) ((show isWin _ _ _ _ = isWin b0 j ((List.length (words v)) + 1) (c - j) from isWin_eq (by omega) (by omega) (by omega)))) rfl ?_
    refine st (OK1.as (Has.t rfl)) rfl ?_
    refine nl ?_
    refine At.thn (hK11 _ _ ?_); clear hK11
    refine Tri.seq fun K12 hK12 => ?_
    refine Tri.seq fun K13 hK13 => ?_
    refine Tri.region ?_
    refine st (OK1.mv (Has.t rfl)) rfl ?_
    refine st (OK1.mv (Has.t rfl)) rfl ?_
    refine st (OK1.mv (Has.t rfl)) rfl ?_
    refine Ops.callM (div_take (N := left N v (j + 1)) (o := j) (v := v) (q := g) (m := m) (by omega) R.hw) (i := 1) rfl (.cons (Has.t rfl) (.cons (Has.t rfl) (.cons (Has.t rfl) .nil))) rfl (M' := [_, (_, _)]) rfl ?_
    refine nl ?_
    refine At.thn (hK13 _ _ ?_); clear hK13
    refine Tri.cond (Has.t rfl) (fun hc2 => ?_) (fun hc2 => ?_)
    · have hc2 := BP.t hc2
      have hbk := R.bk hc2
      have hg1 := hbk.2.1
      refine Tri.seq fun K14 hK14 => ?_
      refine Tri.region ?_
      refine st (OK1.mv (Has.t rfl)) rfl ?_
      refine st (OK1.subU' (Has.t rfl) (Has.cU 1 rfl) (by first | with_reducible assumption | omega | with_reducible exact dig_lt _ _) (by first | with_reducible assumption | omega | with_reducible exact dig_lt _ _)) rfl ?_
      refine st (OK1.as (Has.t rfl)) rfl ?_
      refine nl ?_
      refine At.thn (hK14 _ _ ?_); clear hK14
      refine Tri.region ?_
      refine st (OK1.mv (Has.t rfl)) rfl ?_
      refine st (OK1.mv (Has.t rfl)) rfl ?_
      refine Ops.callM (div_back (N := left N v (j + 1) % W ^ j + W ^ j * wdiff (left N v (j + 1) / W ^ j) (v * g) ((List.length (words v)) + 1)) (o := j) (m := m) (by omega) (by rw [win_div]; exact wdiff_lt _ _ _)) (i := 1) rfl (.cons (Has.t rfl) (.cons (Has.t rfl) .nil)) rfl (M' := [_, (_, _)]) rfl ?_
      refine nl ?_
      refine At.thn (hK12 _ _ ?_); clear hK12
      refine Tri.region ?_
      refine st (OK1.mv (Has.t rfl)) rfl ?_
      refine st (OK1.eq (OK1.mv (Has.t rfl)) ((isI_eq ej))) rfl ?_
      refine st (OK1.mv (Has.t rfl)) rfl ?_
      refine st (OK1.eq (OK1.ixWin sl57 ty27 (Has.t rfl) (Has.t rfl) ⟨by omega, by omega⟩) (isPtr_eq (by first | exact ixo0 | exact ixo2 | exact ixo1))) rfl ?_
      refine Ops.storeM (Has.t rfl) (Has.t rfl) (i := 0) rfl ty27 (by first | omega | (simp only [Int.toNat_natCast, List.length_set, List.length_replicate]; omega)) (M' := [(_, _), _]) rfl ?_
      refine nl ?_
      refine At.bln ?_
      refine At.thn (hK9 _ _ ?_); clear hK9
      refine Tri.region ?_
      refine st (OK1.mv (Has.t rfl)) rfl ?_
      refine st (OK1.subI (Has.t rfl) (Has.cI 1 rfl) (by first | with_reducible assumption | omega | with_reducible exact dig_lt _ _) (by first | with_reducible assumption | omega | with_reducible exact dig_lt _ _)) rfl ?_
      refine st (OK1.as (Has.t rfl)) rfl ?_
      refine nl ?_
      refine At.thn ?_
      refine hK6 (⟨j, by omega⟩) _ _ ?_ (Cv.mem (.cons (t := 7) (Has.t' rfl ?_) (.cons (t := 0) (Has.t rfl) (.cons (t := 1) (Has.t rfl) (.cons (t := 4) (Has.t rfl) (.cons (t := 5) (Has.t rfl) (.cons (t := 6) (Has.t rfl) .nil)))))) ?_)
      · show j < j + 1; omega
      · exact isI_eq (by show (((j + 1 : Nat) : Int) - 1) - 1 = (j : Int) - 1; omega)
      · exact mem2_eq (mix_down' (k := j + 1) (by omega) hI hbk.1) (wordsN_eq hbk.2.2)
    · have hc2 := BP.f hc2
      have hfi := R.fine (by omega)
      refine Tri.skip ?_
      refine At.thn (hK12 _ _ ?_); clear hK12
      refine Tri.region ?_
      refine st (OK1.mv (Has.t rfl)) rfl ?_
      refine st (OK1.eq (OK1.mv (Has.t rfl)) ((isI_eq ej))) rfl ?_
      refine st (OK1.mv (Has.t rfl)) rfl ?_
      refine st (OK1.eq (OK1.ixWin sl57 ty27 (Has.t rfl) (Has.t rfl) ⟨by omega, by omega⟩) (isPtr_eq (by first | exact ixo0 | exact ixo2 | exact ixo1))) rfl ?_
      refine Ops.storeM (Has.t rfl) (Has.t rfl) (i := 0) rfl ty27 (by first | omega | (simp only [Int.toNat_natCast, List.length_set, List.length_replicate]; omega)) (M' := [(_, _), _]) rfl ?_
      refine nl ?_
      refine At.bln ?_
      refine At.thn (hK9 _ _ ?_); clear hK9
      refine Tri.region ?_
      refine st (OK1.mv (Has.t rfl)) rfl ?_
      refine st (OK1.subI (Has.t rfl) (Has.cI 1 rfl) (by first | with_reducible assumption | omega | with_reducible exact dig_lt _ _) (by first | with_reducible assumption | omega | with_reducible exact dig_lt _ _)) rfl ?_
      refine st (OK1.as (Has.t rfl)) rfl ?_
      refine nl ?_
      refine At.thn ?_
      refine hK6 (⟨j, by omega⟩) _ _ ?_ (Cv.mem (.cons (t := 7) (Has.t' rfl ?_) (.cons (t := 0) (Has.t rfl) (.cons (t := 1) (Has.t rfl) (.cons (t := 4) (Has.t rfl) (.cons (t := 5) (Has.t rfl) (.cons (t := 6) (Has.t rfl) .nil)))))) ?_)
      · show j < j + 1; omega
      · exact isI_eq (by show (((j + 1 : Nat) : Int) - 1) - 1 = (j : Int) - 1; omega)
      · exact mem2_eq (mix_down' (k := j + 1) (by omega) hI hfi.1) (wordsN_eq hfi.2)
  · have hc1 := BP.f hc1
    refine Tri.exit ?_
    refine At.the ?_
    refine At.the ?_
    refine At.blh ?_
    refine At.thn (hK4 _ _ ?_); clear hK4
    refine Tri.cv (Cv.wk (.cons (t := 4) (Has.t rfl) (.cons (t := 6) (Has.t rfl) .nil))) ?_
    refine Tri.seq fun K15 hK15 => ?_
    refine Tri.cv (Cv.freezeM (t := 6) (i := 0) (j := 1) (ys := wordsN (m - (List.length (words v))) (N / v)) rfl rfl rfl rfl rfl (by omega) (by obtain rfl : k = 0 := (by omega); rw [outEnd]; exact freeze_all (wordsN_len _ _).symm)) ?_
    refine Tri.memEq (M' := [_]) rfl ?_
    refine Tri.cv (Cv.wk (.cons (t := 4) (Has.t rfl) (.cons (t := 6) (Has.t rfl) .nil))) ?_
    refine Tri.region ?_
    refine st (OK1.mv (Has.t rfl)) rfl ?_
    refine st (OK1.as (Has.t rfl)) rfl ?_
    refine nl ?_
    refine At.thn (hK15 _ _ ?_); clear hK15
    refine Tri.ret ?_
    refine rtM1 (.inl rfl) Try.results156 rfl (i := 0) ?_ (.tmp (Has.t' rfl ?_) .nil)
    · obtain rfl : k = 0 := (by omega); rfl
    · rfl
end Go.Proofs.Ytfoclelageohiaa
/- Contracts: quotients and rests. -/
namespace Go.Proofs.Ytfoclelageohiaa
open Go.En Go.RowKit
set_option linter.unusedVariables false
set_option maxRecDepth 10000
open Go.Nt
theorem one_word {B : Nat} (h : (List.length (words B)) = 1) : (words B).getD 0 0 = B := by
  rw [getD_words, dig_def, Nat.pow_zero, Nat.div_one, Nat.mod_eq_of_lt (lt_of_nw_le_one (by omega))]
theorem bits_int {A : Nat} (h : (List.length (words A)) ≠ 0) : 64 * (((List.length (words A)) : Int) - 1) + ((bitLen (dig A ((List.length (words A)) - 1)) : Nat) : Int) = ((bitLen A : Nat) : Int) := by
  have hA : A ≠ 0 := fun e => h (by rw [e, words_zero]; rfl)
  have := bits_words hA
  omega
set_option maxHeartbeats 4000000 in
theorem div_DivMod {xs ys : List Nat} (hx : (List.length (words (val xs))) < 4294800000) (hy : (List.length (words (val ys))) < 4294800000) : Ctr Try.prog 137 [isWords xs, isWords ys] (isTup [isWords (words (val xs / val ys)), isWords (words (if val ys = 0 then 0 else val xs % val ys)), isB (decide (val ys ≠ 0))]) := by
  refine Ctr.intro Try.func137 rfl (by kernel_rfl) Try.ntmps137 rfl fun w0 F0 => ?_
  refine Tri.cv (Cv.wk (.cons (t := 0) (Has.t rfl) (.cons (t := 1) (Has.t rfl) .nil))) ?_
  refine Tri.fact (Has.lenLt (Has.t (t := 0) rfl)) fun lt0 => ?_
  refine Tri.fact (Has.okW (Has.t (t := 0) rfl)) fun ok0 => ?_
  refine Tri.fact (Has.lenLt (Has.t (t := 1) rfl)) fun lt1 => ?_
  refine Tri.fact (Has.okW (Has.t (t := 1) rfl)) fun ok1 => ?_
  refine Tri.seq fun K1 hK1 => ?_
  refine Tri.region ?_
  refine st (OK1.as (Has.cW (f := isU))) rfl ?_
  refine st (OK1.as (Has.cW (f := isU))) rfl ?_
  refine st (OK1.as (Has.cB false)) rfl ?_
  refine nl ?_
  refine At.thn (hK1 _ _ ?_); clear hK1
  refine Tri.seq fun K2 hK2 => ?_
  refine Tri.region ?_
  refine st (OK1.mv (Has.t rfl)) rfl ?_
  refine st (OK1.eq (OK1.call (nat_Norm (by first | with_reducible assumption | omega | (simp only [val_words]; omega))) (.cons (Has.t rfl) .nil)) (by first | (simp only [val_words]; rfl) | rfl)) rfl ?_
  refine st (OK1.mv (Has.t rfl)) rfl ?_
  refine st (OK1.eq (OK1.call (nat_Norm (by first | with_reducible assumption | omega | (simp only [val_words]; omega))) (.cons (Has.t rfl) .nil)) (by first | (simp only [val_words]; rfl) | rfl)) rfl ?_
  refine st (OK1.as (Has.t rfl)) rfl ?_
  refine st (OK1.as (Has.t rfl)) rfl ?_
  refine nl ?_
  refine At.thn (hK2 _ _ ?_); clear hK2
  refine Tri.seq fun K3 hK3 => ?_
  refine Tri.block ?_
  refine Tri.seq fun K4 hK4 => ?_
  refine Tri.region ?_
  refine st (OK1.mv (Has.t rfl)) rfl ?_
  refine st (OK1.len sl57 (Has.t rfl)) rfl ?_
  refine st (OK1.eqI (Has.t rfl) (Has.cI 0 rfl)) rfl ?_
  refine st (OK1.as (Has.t rfl)) rfl ?_
  refine nl ?_
  refine At.thn (hK4 _ _ ?_); clear hK4
  refine Tri.cv (Cv.wk (.cons (t := 0) (Has.t rfl) (.cons (t := 1) (Has.t rfl) (.cons (t := 4) (Has.t rfl) (.cons (t := 5) (Has.t rfl) (.cons (t := 6) (Has.t rfl) (.cons (t := 23) (Has.t rfl) .nil))))))) ?_
  refine Tri.cond (Has.t rfl) (fun hc1 => ?_) (fun hc1 => ?_)
  · have hc1 := BP.t hc1
    refine Tri.seq fun K5 hK5 => ?_
    refine Tri.region ?_
    refine st (OK1.as (Has.cW (f := isU))) rfl ?_
    refine st (OK1.as (Has.cW (f := isU))) rfl ?_
    refine st (OK1.as (Has.cB false)) rfl ?_
    refine nl ?_
    refine At.thn (hK5 _ _ ?_); clear hK5
    refine Tri.ret ?_
    refine At.blr ?_
    refine At.thr ?_
    refine rtN (.inl rfl) Try.results137 rfl rfl (.tmp (Has.t' rfl ?_) (.tmp (Has.t' rfl ?_) (.tmp (Has.t' rfl ?_) .nil)))
    · exact SlM_eq (by rw [bits_zero (A := val ys) (by omega), Nat.div_zero, words_zero])
    · exact SlM_eq (by rw [if_pos (bits_zero (A := val ys) (by omega)), words_zero])
    · exact isB_eq (by simp [bits_zero (show (List.length (words (val ys))) = 0 by omega)])
  · have hc1 := BP.f hc1
    refine Tri.seq fun K6 hK6 => ?_
    refine Tri.region ?_
    refine st (OK1.mv (Has.t rfl)) rfl ?_
    refine st (OK1.mv (Has.t rfl)) rfl ?_
    refine st (OK1.eq (OK1.call (nat_Cmp) (.cons (Has.t rfl) (.cons (Has.t rfl) .nil))) (by first | (simp only [val_words]; rfl) | rfl)) rfl ?_
    refine st (OK1.ltI (Has.t rfl) (Has.cI 0 rfl)) rfl ?_
    refine st (OK1.as (Has.t rfl)) rfl ?_
    refine nl ?_
    refine At.thn (hK6 _ _ ?_); clear hK6
    refine Tri.cv (Cv.wk (.cons (t := 0) (Has.t rfl) (.cons (t := 1) (Has.t rfl) (.cons (t := 4) (Has.t rfl) (.cons (t := 5) (Has.t rfl) (.cons (t := 6) (Has.t rfl) (.cons (t := 27) (Has.t rfl) .nil))))))) ?_
    refine Tri.cond (Has.t rfl) (fun hc2 => ?_) (fun hc2 => ?_)
    · have hc2 := BP.t hc2
      have hlt := cmpN_neg.1 hc2
      refine Tri.seq fun K7 hK7 => ?_
      refine Tri.region ?_
      refine st (OK1.mv (Has.t rfl)) rfl ?_
      refine st (OK1.as (Has.cW (f := isU))) rfl ?_
      refine st (OK1.as (Has.t rfl)) rfl ?_
      refine st (OK1.as (Has.cB true)) rfl ?_
      refine nl ?_
      refine At.thn (hK7 _ _ ?_); clear hK7
      refine Tri.ret ?_
      refine At.blr ?_
      refine At.thr ?_
      refine rtN (.inl rfl) Try.results137 rfl rfl (.tmp (Has.t' rfl ?_) (.tmp (Has.t' rfl ?_) (.tmp (Has.t' rfl ?_) .nil)))
      · exact SlM_eq (by rw [Nat.div_eq_of_lt hlt, words_zero])
      · exact SlM_eq (by rw [if_neg (by omega), Nat.mod_eq_of_lt hlt])
      · exact isB_eq (by simp; omega)
    · have hc2 := BP.f hc2
      have hle : val ys ≤ val xs := Nat.le_of_not_lt (fun h => by have := cmpN_neg.2 h; omega)
      refine Tri.seq fun K8 hK8 => ?_
      refine Tri.region ?_
      refine st (OK1.mv (Has.t rfl)) rfl ?_
      refine st (OK1.len sl57 (Has.t rfl)) rfl ?_
      refine st (OK1.eqI (Has.t rfl) (Has.cI 1 rfl)) rfl ?_
      refine st (OK1.as (Has.t rfl)) rfl ?_
      refine nl ?_
      refine At.thn (hK8 _ _ ?_); clear hK8
      refine Tri.cond (Has.t rfl) (fun hc3 => ?_) (fun hc3 => ?_)
      · have hc3 := BP.t hc3
        have hB : val ys ≠ 0 := fun e => by rw [e, words_zero] at hc1; simp at hc1
        refine Tri.seq fun K9 hK9 => ?_
        refine Tri.region ?_
        refine st (OK1.mv (Has.t rfl)) rfl ?_
        refine st (OK1.mv (Has.t rfl)) rfl ?_
        refine st (OK1.ixP sl57 ty27 (Has.t rfl) (Has.cI 0 rfl) ⟨by omega, by omega⟩ (getD_some (d := 0) (by first | omega | (simp only [Int.toNat_natCast, List.length_set]; omega)))) rfl ?_
        refine st (OK1.eq (OK1.loadP1 (Has.t rfl) ty27) ((show isU _ = isU (val ys) from isU_eq (one_word (by omega))))) rfl ?_
        refine st (OK1.eq (OK1.call (div_Small (by first | with_reducible assumption | omega | (simp only [val_words]; omega))) (.cons (Has.t rfl) (.cons (Has.t rfl) .nil))) (by first | (simp only [val_words]; rfl) | rfl)) rfl ?_
        refine st (OK1.mv (Has.t rfl)) rfl ?_
        refine st (OK1.ext (Has.t rfl) rfl) rfl ?_
        refine st (OK1.ext (Has.t rfl) rfl) rfl ?_
        refine st (OK1.ext (Has.t rfl) rfl) rfl ?_
        refine st (OK1.as (Has.t rfl)) rfl ?_
        refine st (OK1.as (Has.t rfl)) rfl ?_
        refine st (OK1.as (Has.t rfl)) rfl ?_
        refine nl ?_
        refine At.thn (hK9 _ _ ?_); clear hK9
        refine Tri.cv (Cv.wk (.cons (t := 0) (Has.t rfl) (.cons (t := 1) (Has.t rfl) (.cons (t := 4) (Has.t rfl) (.cons (t := 5) (Has.t rfl) (.cons (t := 6) (Has.t rfl) (.cons (t := 7) (Has.t rfl) (.cons (t := 8) (Has.t rfl) .nil)))))))) ?_
        refine Tri.seq fun K10 hK10 => ?_
        refine Tri.region ?_
        refine st (OK1.mv (Has.t rfl)) rfl ?_
        refine st (OK1.mv (Has.t rfl)) rfl ?_
        refine st (OK1.call (nat_Of) (.cons (Has.t rfl) .nil)) rfl ?_
        refine st (OK1.as (Has.t rfl)) rfl ?_
        refine st (OK1.as (Has.t rfl)) rfl ?_
        refine st (OK1.as (Has.cB true)) rfl ?_
        refine nl ?_
        refine At.thn (hK10 _ _ ?_); clear hK10
        refine Tri.cv (Cv.wk (.cons (t := 0) (Has.t rfl) (.cons (t := 1) (Has.t rfl) (.cons (t := 4) (Has.t rfl) (.cons (t := 5) (Has.t rfl) (.cons (t := 6) (Has.t rfl) .nil)))))) ?_
        refine Tri.ret ?_
        refine At.blr ?_
        refine At.thr ?_
        refine rtN (.inl rfl) Try.results137 rfl rfl (.tmp (Has.t' rfl ?_) (.tmp (Has.t' rfl ?_) (.tmp (Has.t' rfl ?_) .nil)))
        · rfl
        · rfl
        · exact isB_eq (by simp [hB])
      · have hc3 := BP.f hc3
        have hB : val ys ≠ 0 := fun e => by rw [e, words_zero] at hc1; simp at hc1
        obtain ⟨k, hk⟩ : ∃ k, k = 64 - bitLen (dig (val ys) ((List.length (words (val ys))) - 1)) := ⟨_, rfl⟩
        have D := dm hB hle hk
        have Dk := D.k64
        have Dv := D.v
        have Dw := D.w
        have Dl := D.le
        refine Tri.skip ?_
        refine At.bln ?_
        refine At.thn (hK3 _ _ ?_); clear hK3
        refine Tri.cv (Cv.wk (.cons (t := 0) (Has.t rfl) (.cons (t := 1) (Has.t rfl) (.cons (t := 4) (Has.t rfl) (.cons (t := 5) (Has.t rfl) (.cons (t := 6) (Has.t rfl) .nil)))))) ?_
        refine Tri.seq fun K11 hK11 => ?_
        refine Tri.region ?_
        refine st (OK1.mv (Has.t rfl)) rfl ?_
        refine st (OK1.mv (Has.t rfl)) rfl ?_
        refine st (OK1.len sl57 (Has.t rfl)) rfl ?_
        refine st (OK1.subI (Has.t rfl) (Has.cI 1 rfl) (by first | with_reducible assumption | omega | (simp only [val_words]; omega)) (by first | with_reducible assumption | omega | (simp only [val_words]; omega))) rfl ?_
        refine st (OK1.ixP sl57 ty27 (Has.t rfl) (Has.t rfl) ⟨by omega, by omega⟩ (getD_some (d := 0) (by first | omega | (simp only [Int.toNat_natCast, List.length_set]; omega)))) rfl ?_
        refine st (OK1.eq (OK1.loadP1 (Has.t rfl) ty27) ((show isU _ = isU (dig (val ys) ((List.length (words (val ys))) - 1)) from isU_eq (getV (by omega))))) rfl ?_
        refine st (OK1.eq (OK1.call (bits_LZ64) (.cons (Has.t rfl) .nil)) ((show isI _ = isI ((k : Nat) : Int) from isI_eq (by rw [hk])))) rfl ?_
        refine st (OK1.as (Has.t rfl)) rfl ?_
        refine nl ?_
        refine At.thn (hK11 _ _ ?_); clear hK11
        refine Tri.cv (Cv.wk (.cons (t := 0) (Has.t rfl) (.cons (t := 1) (Has.t rfl) (.cons (t := 4) (Has.t rfl) (.cons (t := 5) (Has.t rfl) (.cons (t := 6) (Has.t rfl) (.cons (t := 10) (Has.t rfl) .nil))))))) ?_
        refine Tri.seq fun K12 hK12 => ?_
        refine Tri.region ?_
        refine st (OK1.mv (Has.t rfl)) rfl ?_
        refine st (OK1.mv (Has.t rfl)) rfl ?_
        refine st (OK1.eq (OK1.call (nat_Shl (by omega) (by rw [val_words]; omega)) (.cons (Has.t rfl) (.cons (Has.t rfl) .nil))) (by first | (simp only [val_words]; rfl) | rfl)) rfl ?_
        refine st (OK1.mv (Has.t rfl)) rfl ?_
        refine st (OK1.ext (Has.t rfl) rfl) rfl ?_
        refine st (OK1.ext (Has.t rfl) rfl) rfl ?_
        refine st (OK1.as (Has.t rfl)) rfl ?_
        refine st (OK1.as (Has.t rfl)) rfl ?_
        refine nl ?_
        refine At.thn (hK12 _ _ ?_); clear hK12
        refine Tri.cv (Cv.wk (.cons (t := 0) (Has.t rfl) (.cons (t := 4) (Has.t rfl) (.cons (t := 5) (Has.t rfl) (.cons (t := 6) (Has.t rfl) (.cons (t := 10) (Has.t rfl) (.cons (t := 11) (Has.t rfl) .nil))))))) ?_
        refine Tri.seq fun K13 hK13 => ?_
        refine Tri.region ?_
        refine st (OK1.mv (Has.t rfl)) rfl ?_
        refine st (OK1.mv (Has.t rfl)) rfl ?_
        refine st (OK1.eq (OK1.call (nat_Shl (by omega) (by rw [val_words]; omega)) (.cons (Has.t rfl) (.cons (Has.t rfl) .nil))) (by first | (simp only [val_words]; rfl) | rfl)) rfl ?_
        refine st (OK1.mv (Has.t rfl)) rfl ?_
        refine st (OK1.ext (Has.t rfl) rfl) rfl ?_
        refine st (OK1.ext (Has.t rfl) rfl) rfl ?_
        refine st (OK1.as (Has.t rfl)) rfl ?_
        refine st (OK1.as (Has.t rfl)) rfl ?_
        refine nl ?_
        refine At.thn (hK13 _ _ ?_); clear hK13
        refine Tri.cv (Cv.wk (.cons (t := 0) (Has.t rfl) (.cons (t := 4) (Has.t rfl) (.cons (t := 5) (Has.t rfl) (.cons (t := 6) (Has.t rfl) (.cons (t := 10) (Has.t rfl) (.cons (t := 11) (Has.t rfl) (.cons (t := 13) (Has.t rfl) .nil)))))))) ?_
        refine Tri.seq fun K14 hK14 => ?_
        refine Tri.region ?_
        refine st (OK1.mv (Has.t rfl)) rfl ?_
        refine st (OK1.len sl57 (Has.t rfl)) rfl ?_
        refine st (OK1.addI (Has.t rfl) (Has.cI 1 rfl) (by first | with_reducible assumption | omega | (simp only [val_words]; omega)) (by first | with_reducible assumption | omega | (simp only [val_words]; omega))) rfl ?_
        refine Ops.make (f := isU) (u := 0) (n := (List.length (words (val xs))) + 1) (c := (List.length (words (val xs))) + 1) sl57 ty27 zero27 (fun _ _ => ⟨⟨rfl, by decide⟩, trivial⟩) by27 (Has.t' rfl rfl) (Has.t' rfl rfl) ⟨by omega, by omega⟩ rfl fun b1 => ?_
        refine st (OK1.as (Has.t rfl)) rfl ?_
        refine nl ?_
        refine At.thn (hK14 _ _ ?_); clear hK14
        refine Tri.cv (Cv.wk (.cons (t := 4) (Has.t rfl) (.cons (t := 5) (Has.t rfl) (.cons (t := 6) (Has.t rfl) (.cons (t := 10) (Has.t rfl) (.cons (t := 11) (Has.t rfl) (.cons (t := 13) (Has.t rfl) (.cons (t := 15) (Has.t rfl) .nil)))))))) ?_
        refine Tri.seq fun K15 hK15 => ?_
        refine Tri.region ?_
        refine st (OK1.mv (Has.t rfl)) rfl ?_
        refine st (OK1.mv (Has.t rfl)) rfl ?_
        refine Ops.copyW sl57 ty27 (fun _ => inferInstance) (Has.t rfl) (Has.t rfl) (i := 0) rfl ⟨Dw, by simp⟩ rfl (M' := [(some b1, cellM (List.map isU (wordsN ((List.length (words (val xs))) + 1) (val xs * 2 ^ k))))]) (memL_eq (copy_words Dw)) ?_
        refine nl ?_
        refine At.thn (hK15 _ _ ?_); clear hK15
        refine Tri.seq fun K16 hK16 => ?_
        refine Tri.region ?_
        refine st (OK1.mv (Has.t rfl)) rfl ?_
        refine st (OK1.mv (Has.t rfl)) rfl ?_
        refine Ops.callM (div_long (N := val xs * 2 ^ k) (v := val ys * 2 ^ k) (m := (List.length (words (val xs))) + 1) (by omega) (by omega) (by omega) D.lt) (i := 0) rfl (.cons (Has.t rfl) (.cons (Has.t rfl) .nil)) rfl (M' := [(_, _)]) rfl ?_
        refine st (OK1.as (Has.t rfl)) rfl ?_
        refine nl ?_
        refine At.thn (hK16 _ _ ?_); clear hK16
        refine Tri.cv (Cv.wk (.cons (t := 4) (Has.t rfl) (.cons (t := 5) (Has.t rfl) (.cons (t := 6) (Has.t rfl) (.cons (t := 10) (Has.t rfl) (.cons (t := 15) (Has.t rfl) (.cons (t := 16) (Has.t rfl) .nil))))))) ?_
        refine Tri.seq fun K17 hK17 => ?_
        refine Tri.cv (Cv.freeze' (t := 15) (i := 0) (ys := wordsN ((List.length (words (val xs))) + 1) (left (val xs * 2 ^ k) (val ys * 2 ^ k) 0)) rfl rfl rfl (by simp [wordsN_len]) (freeze_all (wordsN_len _ _).symm)) ?_
        refine Tri.memEq (M' := []) rfl ?_
        refine Tri.cv (Cv.wk (.cons (t := 4) (Has.t rfl) (.cons (t := 5) (Has.t rfl) (.cons (t := 6) (Has.t rfl) (.cons (t := 10) (Has.t rfl) (.cons (t := 15) (Has.t rfl) (.cons (t := 16) (Has.t rfl) .nil))))))) ?_
        refine Tri.region ?_
        refine st (OK1.mv (Has.t rfl)) rfl ?_
        refine st (OK1.mv (Has.t rfl)) rfl ?_
        refine st (OK1.call (nat_Shr (by omega) (by have := nw_val_wordsN ((List.length (words (val xs))) + 1) (left (val xs * 2 ^ k) (val ys * 2 ^ k) 0); omega)) (.cons (Has.t rfl) (.cons (Has.t rfl) .nil))) rfl ?_
        refine st (OK1.mv (Has.t rfl)) rfl ?_
        refine st (OK1.ext (Has.t rfl) rfl) rfl ?_
        refine st (OK1.ext (Has.t rfl) rfl) rfl ?_
        refine st (OK1.as (Has.t rfl)) rfl ?_
        refine st (OK1.as (Has.t rfl)) rfl ?_
        refine nl ?_
        refine At.thn (hK17 _ _ ?_); clear hK17
        refine Tri.cv (Cv.wk (.cons (t := 4) (Has.t rfl) (.cons (t := 5) (Has.t rfl) (.cons (t := 6) (Has.t rfl) (.cons (t := 16) (Has.t rfl) (.cons (t := 17) (Has.t rfl) .nil)))))) ?_
        refine Tri.seq fun K18 hK18 => ?_
        refine Tri.region ?_
        refine st (OK1.mv (Has.t rfl)) rfl ?_
        refine st (OK1.call (nat_Norm (by have := nw_val_wordsN ((List.length (words (val xs))) + 1 - (List.length (words (val ys * 2 ^ k)))) (val xs * 2 ^ k / (val ys * 2 ^ k)); omega)) (.cons (Has.t rfl) .nil)) rfl ?_
        refine st (OK1.mv (Has.t rfl)) rfl ?_
        refine st (OK1.as (Has.t rfl)) rfl ?_
        refine st (OK1.as (Has.t rfl)) rfl ?_
        refine st (OK1.as (Has.cB true)) rfl ?_
        refine nl ?_
        refine At.thn (hK18 _ _ ?_); clear hK18
        refine Tri.cv (Cv.wk (.cons (t := 4) (Has.t rfl) (.cons (t := 5) (Has.t rfl) (.cons (t := 6) (Has.t rfl) .nil)))) ?_
        refine Tri.ret ?_
        refine rtN (.inl rfl) Try.results137 rfl rfl (.tmp (Has.t' rfl ?_) (.tmp (Has.t' rfl ?_) (.tmp (Has.t' rfl ?_) .nil)))
        · exact SlM_eq (dm_quo hB D rfl rfl)
        · exact SlM_eq (by rw [if_neg hB, dm_rest hB D rfl])
        · exact isB_eq (by simp [hB])
set_option maxHeartbeats 4000000 in
theorem nat_Bits {xs : List Nat} (hx : (List.length (words (val xs))) < 4294967296) : Ctr Try.prog 94 [isWords xs] (isI ((bitLen (val xs) : Nat) : Int)) := by
  refine Ctr.intro Try.func94 rfl (by kernel_rfl) Try.ntmps94 rfl fun w0 F0 => ?_
  refine Tri.cv (Cv.wk (.cons (t := 0) (Has.t rfl) .nil)) ?_
  refine Tri.fact (Has.lenLt (Has.t (t := 0) rfl)) fun lt0 => ?_
  refine Tri.fact (Has.okW (Has.t (t := 0) rfl)) fun ok0 => ?_
  refine Tri.seq fun K1 hK1 => ?_
  refine Tri.region ?_
  refine st (OK1.as (Has.cI 0 rfl)) rfl ?_
  refine nl ?_
  refine At.thn (hK1 _ _ ?_); clear hK1
  refine Tri.seq fun K2 hK2 => ?_
  refine Tri.region ?_
  refine st (OK1.mv (Has.t rfl)) rfl ?_
  refine st (OK1.call (nat_trim) (.cons (Has.t rfl) .nil)) rfl ?_
  refine st (OK1.as (Has.t rfl)) rfl ?_
  refine nl ?_
  refine At.thn (hK2 _ _ ?_); clear hK2
  refine Tri.seq fun K3 hK3 => ?_
  refine Tri.seq fun K4 hK4 => ?_
  refine Tri.region ?_
  refine st (OK1.mv (Has.t rfl)) rfl ?_
  refine st (OK1.len sl57 (Has.t rfl)) rfl ?_
  refine st (OK1.eqI (Has.t rfl) (Has.cI 0 rfl)) rfl ?_
  refine nl ?_
  refine At.thn (hK4 _ _ ?_); clear hK4
  refine Tri.cond (Has.t rfl) (fun hc1 => ?_) (fun hc1 => ?_)
  · have hc1 := BP.t hc1
    refine Tri.seq fun K5 hK5 => ?_
    refine Tri.region ?_
    refine st (OK1.as (Has.cI 0 rfl)) rfl ?_
    refine nl ?_
    refine At.thn (hK5 _ _ ?_); clear hK5
    refine Tri.cv (Cv.wk (.cons (t := 0) (Has.t rfl) (.cons (t := 2) (Has.t rfl) .nil))) ?_
    refine Tri.ret ?_
    refine At.thr ?_
    refine rt1 (.inl rfl) Try.results94 rfl (.tmp (Has.t' rfl ?_) .nil)
    all_goals (exact isI_eq (by rw [bits_zero (A := val xs) (by omega)]; rfl))
  · have hc1 := BP.f hc1
    have hb := bits_int (A := val xs) (by omega)
    have hd := bitLen_le64 (dig_lt (val xs) ((List.length (words (val xs))) - 1))
    refine Tri.skip ?_
    refine At.thn (hK3 _ _ ?_); clear hK3
    refine Tri.cv (Cv.wk (.cons (t := 0) (Has.t rfl) (.cons (t := 2) (Has.t rfl) .nil))) ?_
    refine Tri.seq fun K6 hK6 => ?_
    refine Tri.region ?_
    refine st (OK1.mv (Has.t rfl)) rfl ?_
    refine st (OK1.len sl57 (Has.t rfl)) rfl ?_
    refine st (OK1.subI (Has.t rfl) (Has.cI 1 rfl) (by first | with_reducible assumption | omega | (simp only [val_words]; omega)) (by first | with_reducible assumption | omega | (simp only [val_words]; omega))) rfl ?_
    refine st (OK1.mulI (Has.cI 64 rfl) (Has.t rfl) (by first | with_reducible assumption | omega | (simp only [val_words]; omega)) (by first | with_reducible assumption | omega | (simp only [val_words]; omega))) rfl ?_
    refine st (OK1.mv (Has.t rfl)) rfl ?_
    refine st (OK1.mv (Has.t rfl)) rfl ?_
    refine st (OK1.len sl57 (Has.t rfl)) rfl ?_
    refine st (OK1.subI (Has.t rfl) (Has.cI 1 rfl) (by first | with_reducible assumption | omega | (simp only [val_words]; omega)) (by first | with_reducible assumption | omega | (simp only [val_words]; omega))) rfl ?_
    refine st (OK1.ixP sl57 ty27 (Has.t rfl) (Has.t rfl) ⟨by omega, by omega⟩ (getD_some (d := 0) (by first | omega | (simp only [Int.toNat_natCast, List.length_set]; omega)))) rfl ?_
    refine st (OK1.eq (OK1.loadP1 (Has.t rfl) ty27) ((show isU _ = isU (dig (val xs) ((List.length (words (val xs))) - 1)) from isU_eq (getV (by omega))))) rfl ?_
    refine st (OK1.call (bits_Len64) (.cons (Has.t rfl) .nil)) rfl ?_
    refine st (OK1.addI (Has.t rfl) (Has.t rfl) (by first | with_reducible assumption | omega | (simp only [val_words]; omega)) (by first | with_reducible assumption | omega | (simp only [val_words]; omega))) rfl ?_
    refine st (OK1.as (Has.t rfl)) rfl ?_
    refine nl ?_
    refine At.thn (hK6 _ _ ?_); clear hK6
    refine Tri.cv (Cv.wk (.cons (t := 2) (Has.t rfl) .nil)) ?_
    refine Tri.ret ?_
    refine rt1 (.inl rfl) Try.results94 rfl (.tmp (Has.t' rfl ?_) .nil)
    all_goals (exact isI_eq (by omega))
end Go.Proofs.Ytfoclelageohiaa
/- Contracts: products of any size. -/
namespace Go.Proofs.Ytfoclelageohiaa
open Go.En Go.RowKit
set_option linter.unusedVariables false
set_option maxRecDepth 10000
open Go.Nt
/-- words put up by a number of words -/
def upW (n : Nat) (xs : List Nat) : List Nat := if xs.length = 0 then [] else List.replicate n 0 ++ xs
theorem upW_nil {n : Nat} {xs : List Nat} (h : xs.length = 0) : [] = upW n xs := by unfold upW; rw [if_pos h]
theorem upW_app {n : Nat} {xs : List Nat} (h : xs.length ≠ 0) : List.replicate n 0 ++ xs = upW n xs := by unfold upW; rw [if_neg h]
theorem upW_val (n : Nat) (xs : List Nat) : val (upW n xs) = W ^ n * val xs := by
  unfold upW
  split
  · rename_i h; rw [List.eq_nil_of_length_eq_zero h]; rfl
  · rw [val_append, val_replicate, List.length_replicate, Nat.zero_add]
theorem upW_nw {n : Nat} {xs : List Nat} (h : Ok xs) : (List.length (words (val (upW n xs)))) ≤ n + xs.length := by
  rw [upW_val]
  refine nw_le ?_
  rw [Nat.pow_add]
  exact Nat.mul_lt_mul_of_pos_left (val_lt h) (pow_pos' n)
theorem ok_take {xs : List Nat} (h : Ok xs) (n : Nat) : Ok (xs.take n) := fun x hx => h x (List.mem_of_mem_take hx)
theorem ok_drop {xs : List Nat} (h : Ok xs) (n : Nat) : Ok (xs.drop n) := fun x hx => h x (List.mem_of_mem_drop hx)
theorem lowW_nw (a n : Nat) : (List.length (words (val ((words a).take n)))) ≤ min n ((List.length (words a))) := by
  have := nw_val (ok_take (words_ok a) n)
  rwa [List.length_take] at this
theorem highW_nw (a n : Nat) : (List.length (words (val ((words a).drop n)))) ≤ (List.length (words a)) - n := by
  have := nw_val (ok_drop (words_ok a) n)
  rwa [List.length_drop] at this
theorem halves (a n : Nat) : val ((words a).take n) + W ^ n * val ((words a).drop n) = a := by
  rcases Nat.lt_or_ge n (words a).length with h | h
  · have e := val_append ((words a).take n) ((words a).drop n)
    rw [List.take_append_drop, val_words, List.length_take, Nat.min_eq_left (Nat.le_of_lt h)] at e
    exact e.symm
  · rw [List.take_of_length_le h, List.drop_eq_nil_of_le h, val_words]; exact Nat.add_zero _
theorem kara (p q r s n : Nat) : p * r + W ^ n * ((p + q) * (r + s) - p * r - q * s) + W ^ (2 * n) * (q * s) = (p + W ^ n * q) * (r + W ^ n * s) := by
  have e : (p + q) * (r + s) - p * r - q * s = p * s + q * r := by
    rw [Nat.add_mul, Nat.mul_add, Nat.mul_add]; omega
  rw [e, Nat.two_mul, Nat.pow_add]
  generalize W ^ n = w
  simp only [Nat.add_mul, Nat.mul_add, Nat.mul_assoc, Nat.mul_left_comm, Nat.mul_comm, Nat.add_assoc, Nat.add_left_comm, Nat.add_comm]
set_option maxHeartbeats 4000000 in
theorem mul_low {xs : List Nat} {n : Nat} : Ctr Try.prog 130 [isWords xs, isI (n : Int)] (isWords (xs.take n)) := by
  refine Ctr.intro Try.func130 rfl (by kernel_rfl) Try.ntmps130 rfl fun w0 F0 => ?_
  refine Tri.cv (Cv.wk (.cons (t := 0) (Has.t rfl) (.cons (t := 1) (Has.t rfl) .nil))) ?_
  refine Tri.fact (Has.lenLt (Has.t (t := 0) rfl)) fun lt0 => ?_
  refine Tri.fact (Has.okW (Has.t (t := 0) rfl)) fun ok0 => ?_
  refine Tri.fact (Has.rngI (Has.t (t := 1) rfl)) fun lt1 => ?_
  refine Tri.seq fun K1 hK1 => ?_
  refine Tri.region ?_
  refine st (OK1.as (Has.cW (f := isU))) rfl ?_
  refine nl ?_
  refine At.thn (hK1 _ _ ?_); clear hK1
  refine Tri.seq fun K2 hK2 => ?_
  refine Tri.seq fun K3 hK3 => ?_
  refine Tri.region ?_
  refine st (OK1.mv (Has.t rfl)) rfl ?_
  refine st (OK1.len sl57 (Has.t rfl)) rfl ?_
  refine st (OK1.mv (Has.t rfl)) rfl ?_
  refine st (OK1.leI (Has.t rfl) (Has.t rfl)) rfl ?_
  refine nl ?_
  refine At.thn (hK3 _ _ ?_); clear hK3
  refine Tri.cond (Has.t rfl) (fun hc1 => ?_) (fun hc1 => ?_)
  · have hc1 := BP.t hc1
    refine Tri.seq fun K4 hK4 => ?_
    refine Tri.region ?_
    refine st (OK1.mv (Has.t rfl)) rfl ?_
    refine st (OK1.as (Has.t rfl)) rfl ?_
    refine nl ?_
    refine At.thn (hK4 _ _ ?_); clear hK4
    refine Tri.cv (Cv.wk (.cons (t := 0) (Has.t rfl) (.cons (t := 1) (Has.t rfl) (.cons (t := 4) (Has.t rfl) .nil)))) ?_
    refine Tri.ret ?_
    refine At.thr ?_
    refine rt1 (.inl rfl) Try.results130 rfl (.tmp (Has.t' rfl ?_) .nil)
    all_goals (exact SlM_eq (List.take_of_length_le (by omega)).symm)
  · have hc1 := BP.f hc1
    refine Tri.skip ?_
    refine At.thn (hK2 _ _ ?_); clear hK2
    refine Tri.seq fun K5 hK5 => ?_
    refine Tri.region ?_
    refine st (OK1.mv (Has.t rfl)) rfl ?_
    refine st (OK1.mv (Has.t rfl)) rfl ?_
    refine st (OK1.slHM sl57 ty27 (Has.t rfl) (Has.t rfl) ⟨by omega, by omega⟩) rfl ?_
    refine st (OK1.as (Has.t rfl)) rfl ?_
    refine nl ?_
    refine At.thn (hK5 _ _ ?_); clear hK5
    refine Tri.cv (Cv.wk (.cons (t := 4) (Has.t rfl) .nil)) ?_
    refine Tri.ret ?_
    refine rt1 (.inl rfl) Try.results130 rfl (.tmp (Has.t' rfl ?_) .nil)
    all_goals (exact SlM_eq (by rw [Int.toNat_natCast]))
set_option maxHeartbeats 4000000 in
theorem mul_high {xs : List Nat} {n : Nat} : Ctr Try.prog 131 [isWords xs, isI (n : Int)] (isWords (xs.drop n)) := by
  refine Ctr.intro Try.func131 rfl (by kernel_rfl) Try.ntmps131 rfl fun w0 F0 => ?_
  refine Tri.cv (Cv.wk (.cons (t := 0) (Has.t rfl) (.cons (t := 1) (Has.t rfl) .nil))) ?_
  refine Tri.fact (Has.lenLt (Has.t (t := 0) rfl)) fun lt0 => ?_
  refine Tri.fact (Has.okW (Has.t (t := 0) rfl)) fun ok0 => ?_
  refine Tri.fact (Has.rngI (Has.t (t := 1) rfl)) fun lt1 => ?_
  refine Tri.seq fun K1 hK1 => ?_
  refine Tri.region ?_
  refine st (OK1.as (Has.cW (f := isU))) rfl ?_
  refine nl ?_
  refine At.thn (hK1 _ _ ?_); clear hK1
  refine Tri.seq fun K2 hK2 => ?_
  refine Tri.seq fun K3 hK3 => ?_
  refine Tri.region ?_
  refine st (OK1.mv (Has.t rfl)) rfl ?_
  refine st (OK1.len sl57 (Has.t rfl)) rfl ?_
  refine st (OK1.mv (Has.t rfl)) rfl ?_
  refine st (OK1.leI (Has.t rfl) (Has.t rfl)) rfl ?_
  refine nl ?_
  refine At.thn (hK3 _ _ ?_); clear hK3
  refine Tri.cond (Has.t rfl) (fun hc1 => ?_) (fun hc1 => ?_)
  · have hc1 := BP.t hc1
    refine Tri.seq fun K4 hK4 => ?_
    refine Tri.region ?_
    refine st (OK1.as (Has.cW (f := isU))) rfl ?_
    refine nl ?_
    refine At.thn (hK4 _ _ ?_); clear hK4
    refine Tri.ret ?_
    refine At.thr ?_
    refine rt1 (.inl rfl) Try.results131 rfl (.tmp (Has.t' rfl ?_) .nil)
    all_goals (exact SlM_eq (List.drop_eq_nil_of_le (by omega)).symm)
  · have hc1 := BP.f hc1
    refine Tri.skip ?_
    refine At.thn (hK2 _ _ ?_); clear hK2
    refine Tri.seq fun K5 hK5 => ?_
    refine Tri.region ?_
    refine st (OK1.mv (Has.t rfl)) rfl ?_
    refine st (OK1.mv (Has.t rfl)) rfl ?_
    refine st (OK1.slLM sl57 ty27 (Has.t rfl) (Has.t rfl) ⟨by omega, by omega⟩) rfl ?_
    refine st (OK1.as (Has.t rfl)) rfl ?_
    refine nl ?_
    refine At.thn (hK5 _ _ ?_); clear hK5
    refine Tri.cv (Cv.wk (.cons (t := 4) (Has.t rfl) .nil)) ?_
    refine Tri.ret ?_
    refine rt1 (.inl rfl) Try.results131 rfl (.tmp (Has.t' rfl ?_) .nil)
    all_goals (exact SlM_eq (by rw [Int.toNat_natCast]))
set_option maxHeartbeats 4000000 in
theorem mul_less {xs ys : List Nat} (hx : (List.length (words (val xs))) < 4294967296) : Ctr Try.prog 132 [isWords xs, isWords ys] (isWords (words (val xs - val ys))) := by
  refine Ctr.intro Try.func132 rfl (by kernel_rfl) Try.ntmps132 rfl fun w0 F0 => ?_
  refine Tri.cv (Cv.wk (.cons (t := 0) (Has.t rfl) (.cons (t := 1) (Has.t rfl) .nil))) ?_
  refine Tri.fact (Has.lenLt (Has.t (t := 0) rfl)) fun lt0 => ?_
  refine Tri.fact (Has.okW (Has.t (t := 0) rfl)) fun ok0 => ?_
  refine Tri.fact (Has.lenLt (Has.t (t := 1) rfl)) fun lt1 => ?_
  refine Tri.fact (Has.okW (Has.t (t := 1) rfl)) fun ok1 => ?_
  refine Tri.seq fun K1 hK1 => ?_
  refine Tri.region ?_
  refine st (OK1.as (Has.cW (f := isU))) rfl ?_
  refine nl ?_
  refine At.thn (hK1 _ _ ?_); clear hK1
  refine Tri.seq fun K2 hK2 => ?_
  refine Tri.region ?_
  refine st (OK1.mv (Has.t rfl)) rfl ?_
  refine st (OK1.mv (Has.t rfl)) rfl ?_
  refine st (OK1.call (nat_Sub (by first | with_reducible assumption | omega | (simp only [val_words]; omega))) (.cons (Has.t rfl) (.cons (Has.t rfl) .nil))) rfl ?_
  refine st (OK1.mv (Has.t rfl)) rfl ?_
  refine st (OK1.ext (Has.t rfl) rfl) rfl ?_
  refine st (OK1.ext (Has.t rfl) rfl) rfl ?_
  refine st (OK1.as (Has.t rfl)) rfl ?_
  refine st (OK1.as (Has.t rfl)) rfl ?_
  refine nl ?_
  refine At.thn (hK2 _ _ ?_); clear hK2
  refine Tri.cv (Cv.wk (.cons (t := 4) (Has.t rfl) (.cons (t := 5) (Has.t rfl) .nil))) ?_
  refine Tri.seq fun K3 hK3 => ?_
  refine Tri.region ?_
  refine st (OK1.mv (Has.t rfl)) rfl ?_
  refine st (OK1.as (Has.t rfl)) rfl ?_
  refine nl ?_
  refine At.thn (hK3 _ _ ?_); clear hK3
  refine Tri.ret ?_
  refine rt1 (.inl rfl) Try.results132 rfl (.tmp (Has.t' rfl ?_) .nil)
  all_goals (rfl)
set_option maxHeartbeats 4000000 in
theorem mul_up {xs : List Nat} {n : Nat} (hn : n + xs.length ≤ 4294967296) : Ctr Try.prog 152 [isWords xs, isI (n : Int)] (isWords (upW n xs)) := by
  refine Ctr.intro Try.func152 rfl (by kernel_rfl) Try.ntmps152 rfl fun w0 F0 => ?_
  refine Tri.cv (Cv.wk (.cons (t := 0) (Has.t rfl) (.cons (t := 1) (Has.t rfl) .nil))) ?_
  refine Tri.fact (Has.lenLt (Has.t (t := 0) rfl)) fun lt0 => ?_
  refine Tri.fact (Has.okW (Has.t (t := 0) rfl)) fun ok0 => ?_
  refine Tri.fact (Has.rngI (Has.t (t := 1) rfl)) fun lt1 => ?_
  refine Tri.seq fun K1 hK1 => ?_
  refine Tri.region ?_
  refine st (OK1.as (Has.cW (f := isU))) rfl ?_
  refine nl ?_
  refine At.thn (hK1 _ _ ?_); clear hK1
  refine Tri.seq fun K2 hK2 => ?_
  refine Tri.seq fun K3 hK3 => ?_
  refine Tri.region ?_
  refine st (OK1.mv (Has.t rfl)) rfl ?_
  refine st (OK1.len sl57 (Has.t rfl)) rfl ?_
  refine st (OK1.eqI (Has.t rfl) (Has.cI 0 rfl)) rfl ?_
  refine nl ?_
  refine At.thn (hK3 _ _ ?_); clear hK3
  refine Tri.cond (Has.t rfl) (fun hc1 => ?_) (fun hc1 => ?_)
  · have hc1 := BP.t hc1
    refine Tri.seq fun K4 hK4 => ?_
    refine Tri.region ?_
    refine st (OK1.as (Has.cW (f := isU))) rfl ?_
    refine nl ?_
    refine At.thn (hK4 _ _ ?_); clear hK4
    refine Tri.ret ?_
    refine At.thr ?_
    refine rt1 (.inl rfl) Try.results152 rfl (.tmp (Has.t' rfl ?_) .nil)
    all_goals (exact SlM_eq (upW_nil (by omega)))
  · have hc1 := BP.f hc1
    refine Tri.skip ?_
    refine At.thn (hK2 _ _ ?_); clear hK2
    refine Tri.seq fun K5 hK5 => ?_
    refine Tri.region ?_
    refine st (OK1.mv (Has.t rfl)) rfl ?_
    refine st (OK1.mv (Has.t rfl)) rfl ?_
    refine st (OK1.mv (Has.t rfl)) rfl ?_
    refine st (OK1.len sl57 (Has.t rfl)) rfl ?_
    refine st (OK1.eq (OK1.addI (Has.t rfl) (Has.t rfl) (by first | omega | assumption) (by first | omega | assumption)) ((show isI _ = isI ((n + xs.length : Nat) : Int) from isI_eq (by omega)))) rfl ?_
    refine Ops.make (f := isU) (u := 0) (n := n) (c := n + xs.length) sl57 ty27 zero27 (fun _ _ => ⟨⟨rfl, by decide⟩, trivial⟩) by27 (Has.t' rfl rfl) (Has.t' rfl rfl) ⟨by omega, by omega⟩ rfl fun b1 => ?_
    refine st (OK1.mv (Has.t rfl)) rfl ?_
    refine Ops.cv (Cv.winGrM (f := isU) (t := 13) (i := 0) (ys := List.replicate n 0) rfl rfl (by simp) (by simp) (by simp)) ?_
    refine Ops.memEq (M' := [grM _ _ _]) rfl ?_
    refine Ops.appendG (f := isU) (u := 0) sl57 ty27 zero27 (fun _ _ => ⟨⟨rfl, by decide⟩, trivial⟩) (fun _ => inferInstance) by27 (Has.t rfl) (i := 0) rfl (Has.t rfl) (by rw [List.length_replicate]; exact hn) (by omega) rfl fun gr1 => ?_
    refine Ops.memEq (M' := [grM _ _ _]) rfl ?_
    refine Ops.cv (Cv.freezeGn (t := 15) (i := 0) (ys := List.replicate n 0 ++ xs) rfl rfl rfl (by simp)) ?_
    refine Ops.memEq (M' := []) rfl ?_
    refine Ops.cv (Cv.wk (.cons (t := 0) (Has.t rfl) (.cons (t := 1) (Has.t rfl) (.cons (t := 4) (Has.t rfl) (.cons (t := 5) (Has.t rfl) (.cons (t := 6) (Has.t rfl) (.cons (t := 7) (Has.t rfl) (.cons (t := 8) (Has.t rfl) (.cons (t := 9) (Has.t rfl) (.cons (t := 10) (Has.t rfl) (.cons (t := 11) (Has.t rfl) (.cons (t := 12) (Has.t rfl) (.cons (t := 14) (Has.t rfl) (.cons (t := 15) (Has.t rfl) .nil)))))))))))))) ?_
    refine st (OK1.as (Has.t rfl)) rfl ?_
    refine nl ?_
    refine At.thn (hK5 _ _ ?_); clear hK5
    refine Tri.cv (Cv.wk (.cons (t := 4) (Has.t rfl) .nil)) ?_
    refine Tri.ret ?_
    refine rt1 (.inl rfl) Try.results152 rfl (.tmp (Has.t' rfl ?_) .nil)
    all_goals (exact SlM_eq (upW_app (by omega)))
set_option maxHeartbeats 4000000 in
theorem mul_joined {xs ys zs : List Nat} {n : Nat} (hx : (List.length (words (val xs))) ≤ 2100000000) (hn : n ≤ 1000000000) (hy : ys.length ≤ 2000000000) (hz : zs.length ≤ 2000000000) : Ctr Try.prog 133 [isWords xs, isWords ys, isWords zs, isI (n : Int)] (isWords (words (val xs + W ^ n * val ys + W ^ (2 * n) * val zs))) := by
  refine Ctr.intro Try.func133 rfl (by kernel_rfl) Try.ntmps133 rfl fun w0 F0 => ?_
  refine Tri.cv (Cv.wk (.cons (t := 0) (Has.t rfl) (.cons (t := 1) (Has.t rfl) (.cons (t := 2) (Has.t rfl) (.cons (t := 3) (Has.t rfl) .nil))))) ?_
  refine Tri.fact (Has.lenLt (Has.t (t := 0) rfl)) fun lt0 => ?_
  refine Tri.fact (Has.okW (Has.t (t := 0) rfl)) fun ok0 => ?_
  refine Tri.fact (Has.lenLt (Has.t (t := 1) rfl)) fun lt1 => ?_
  refine Tri.fact (Has.okW (Has.t (t := 1) rfl)) fun ok1 => ?_
  refine Tri.fact (Has.lenLt (Has.t (t := 2) rfl)) fun lt2 => ?_
  refine Tri.fact (Has.okW (Has.t (t := 2) rfl)) fun ok2 => ?_
  refine Tri.fact (Has.rngI (Has.t (t := 3) rfl)) fun lt3 => ?_
  have u1 := upW_nw (n := n) ok1
  have u2 := upW_nw (n := 2 * n) ok2
  have h1 := nw_add_le (val xs) (val (upW n ys))
  refine Tri.seq fun K1 hK1 => ?_
  refine Tri.region ?_
  refine st (OK1.as (Has.cW (f := isU))) rfl ?_
  refine nl ?_
  refine At.thn (hK1 _ _ ?_); clear hK1
  refine Tri.seq fun K2 hK2 => ?_
  refine Tri.region ?_
  refine st (OK1.as (Has.fn (ι := { p : List Nat × Nat // p.2 + p.1.length ≤ 4294967296 }) (As := fun p => [isWords p.1.1, isI (p.1.2 : Int)]) (R := fun p => isWords (upW p.1.2 p.1.1)) (fun p => mul_up p.2))) rfl ?_
  refine nl ?_
  refine At.thn (hK2 _ _ ?_); clear hK2
  refine Tri.seq fun K3 hK3 => ?_
  refine Tri.region ?_
  refine st (OK1.mv (Has.t rfl)) rfl ?_
  refine st (OK1.mv (Has.t rfl)) rfl ?_
  refine st (OK1.mv (Has.t rfl)) rfl ?_
  refine st (OK1.mv (Has.t rfl)) rfl ?_
  refine st (OK1.callV ⟨(ys, n), by show n + ys.length ≤ _; omega⟩ (Has.t rfl) (.cons (Has.t rfl) (.cons (Has.t rfl) .nil))) rfl ?_
  refine st (OK1.call (nat_Add (by first | with_reducible assumption | omega | (simp only [val_words]; omega)) (by first | with_reducible assumption | omega | (simp only [val_words]; omega))) (.cons (Has.t rfl) (.cons (Has.t rfl) .nil))) rfl ?_
  refine st (OK1.mv (Has.t rfl)) rfl ?_
  refine st (OK1.mv (Has.t rfl)) rfl ?_
  refine st (OK1.mv (Has.t rfl)) rfl ?_
  refine st (OK1.eq (OK1.mulI (Has.cI 2 rfl) (Has.t rfl) (by first | with_reducible assumption | omega | (simp only [val_words]; omega)) (by first | with_reducible assumption | omega | (simp only [val_words]; omega))) ((show isI _ = isI ((2 * n : Nat) : Int) from isI_eq (by omega)))) rfl ?_
  refine st (OK1.callV ⟨(zs, 2 * n), by show 2 * n + zs.length ≤ _; omega⟩ (Has.t rfl) (.cons (Has.t rfl) (.cons (Has.t rfl) .nil))) rfl ?_
  refine st (OK1.call (nat_Add (by first | with_reducible assumption | omega | (simp only [val_words]; omega)) (by first | with_reducible assumption | omega | (simp only [val_words]; omega))) (.cons (Has.t rfl) (.cons (Has.t rfl) .nil))) rfl ?_
  refine st (OK1.as (Has.t rfl)) rfl ?_
  refine nl ?_
  refine At.thn (hK3 _ _ ?_); clear hK3
  refine Tri.cv (Cv.wk (.cons (t := 8) (Has.t rfl) .nil)) ?_
  refine Tri.ret ?_
  refine rt1 (.inl rfl) Try.results133 rfl (.tmp (Has.t' rfl ?_) .nil)
  all_goals (exact SlM_eq (by rw [val_words, upW_val, upW_val]))
set_option maxHeartbeats 4000000 in
theorem mul_MulStep {xs ys : List Nat} (hx : (List.length (words (val xs))) ≤ 1000000000) (hy : (List.length (words (val ys))) ≤ 1000000000) (IH : ∀ us vs : List Nat, max ((List.length (words (val us)))) ((List.length (words (val vs)))) < max ((List.length (words (val xs)))) ((List.length (words (val ys)))) → (List.length (words (val us))) ≤ 1000000000 → (List.length (words (val vs))) ≤ 1000000000 → Ctr Try.prog 103 [isWords us, isWords vs] (isWords (words (val us * val vs)))) : Ctr Try.prog 103 [isWords xs, isWords ys] (isWords (words (val xs * val ys))) := by
  refine Ctr.intro Try.func103 rfl (by kernel_rfl) Try.ntmps103 rfl fun w0 F0 => ?_
  refine Tri.cv (Cv.wk (.cons (t := 0) (Has.t rfl) (.cons (t := 1) (Has.t rfl) .nil))) ?_
  refine Tri.fact (Has.lenLt (Has.t (t := 0) rfl)) fun lt0 => ?_
  refine Tri.fact (Has.okW (Has.t (t := 0) rfl)) fun ok0 => ?_
  refine Tri.fact (Has.lenLt (Has.t (t := 1) rfl)) fun lt1 => ?_
  refine Tri.fact (Has.okW (Has.t (t := 1) rfl)) fun ok1 => ?_
  obtain ⟨N, hN⟩ : ∃ N, N = (max ((List.length (words (val xs)))) ((List.length (words (val ys)))) + 1) / 2 := ⟨_, rfl⟩
  have kp := lowW_nw (val xs) N
  have kq := highW_nw (val xs) N
  have kr := lowW_nw (val ys) N
  have ks := highW_nw (val ys) N
  have ka := nw_add_le (val ((words (val xs)).take N)) (val ((words (val xs)).drop N))
  have kb := nw_add_le (val ((words (val ys)).take N)) (val ((words (val ys)).drop N))
  have ea := halves (val xs) N
  have eb := halves (val ys) N
  obtain ⟨p, hp⟩ : ∃ p, p = (words (val xs)).take N := ⟨_, rfl⟩
  obtain ⟨q, hq⟩ : ∃ q, q = (words (val xs)).drop N := ⟨_, rfl⟩
  obtain ⟨r, hr⟩ : ∃ r, r = (words (val ys)).take N := ⟨_, rfl⟩
  obtain ⟨s, hs⟩ : ∃ s, s = (words (val ys)).drop N := ⟨_, rfl⟩
  rw [← hp] at kp ka ea
  rw [← hq] at kq ka ea
  rw [← hr] at kr kb eb
  rw [← hs] at ks kb eb
  have kpr := nw_mul_le (val p) (val r)
  have kqs := nw_mul_le (val q) (val s)
  have kc := nw_mul_le (val p + val q) (val r + val s)
  have kc2 := nw_mono (Nat.sub_le ((val p + val q) * (val r + val s)) (val p * val r))
  have kc3 := nw_mono (Nat.sub_le ((val p + val q) * (val r + val s) - val p * val r) (val q * val s))
  refine Tri.seq fun K1 hK1 => ?_
  refine Tri.region ?_
  refine st (OK1.as (Has.cW (f := isU))) rfl ?_
  refine nl ?_
  refine At.thn (hK1 _ _ ?_); clear hK1
  refine Tri.seq fun K2 hK2 => ?_
  refine Tri.region ?_
  refine st (OK1.mv (Has.t rfl)) rfl ?_
  refine st (OK1.eq (OK1.call (nat_Norm (by first | with_reducible assumption | omega | (simp only [val_words]; omega))) (.cons (Has.t rfl) .nil)) (by first | (simp only [val_words]; rfl) | rfl)) rfl ?_
  refine st (OK1.mv (Has.t rfl)) rfl ?_
  refine st (OK1.eq (OK1.call (nat_Norm (by first | with_reducible assumption | omega | (simp only [val_words]; omega))) (.cons (Has.t rfl) .nil)) (by first | (simp only [val_words]; rfl) | rfl)) rfl ?_
  refine st (OK1.as (Has.t rfl)) rfl ?_
  refine st (OK1.as (Has.t rfl)) rfl ?_
  refine nl ?_
  refine At.thn (hK2 _ _ ?_); clear hK2
  refine Tri.seq fun K3 hK3 => ?_
  refine Tri.seq fun K4 hK4 => ?_
  refine Tri.region ?_
  refine st (OK1.mv (Has.t rfl)) rfl ?_
  refine st (OK1.len sl57 (Has.t rfl)) rfl ?_
  refine st (OK1.mv (Has.t rfl)) rfl ?_
  refine st (OK1.len sl57 (Has.t rfl)) rfl ?_
  refine st (OK1.minI (Has.t rfl) (Has.t rfl)) rfl ?_
  refine st (OK1.leI (Has.t rfl) (Has.cI 8 rfl)) rfl ?_
  refine nl ?_
  refine At.thn (hK4 _ _ ?_); clear hK4
  refine Tri.cv (Cv.wk (.cons (t := 0) (Has.t rfl) (.cons (t := 1) (Has.t rfl) (.cons (t := 4) (Has.t rfl) (.cons (t := 22) (Has.t rfl) .nil))))) ?_
  refine Tri.cond (Has.t rfl) (fun hc1 => ?_) (fun hc1 => ?_)
  · have hc1 := BP.t hc1
    have HM : (List.length (words (val xs))) ≤ 8 ∨ (List.length (words (val ys))) ≤ 8 := (by revert hc1; split <;> intro hc1 <;> omega)
    refine Tri.seq fun K5 hK5 => ?_
    refine Tri.region ?_
    refine st (OK1.mv (Has.t rfl)) rfl ?_
    refine st (OK1.mv (Has.t rfl)) rfl ?_
    refine st (OK1.eq (OK1.call (nat_Mul (by first | with_reducible assumption | omega | (simp only [val_words]; omega))) (.cons (Has.t rfl) (.cons (Has.t rfl) .nil))) (by first | (simp only [val_words]; rfl) | rfl)) rfl ?_
    refine st (OK1.as (Has.t rfl)) rfl ?_
    refine nl ?_
    refine At.thn (hK5 _ _ ?_); clear hK5
    refine Tri.ret ?_
    refine At.thr ?_
    refine rt1 (.inl rfl) Try.results103 rfl (.tmp (Has.t' rfl ?_) .nil)
    all_goals (rfl)
  · have hc1 := BP.f hc1
    have HM : 8 < (List.length (words (val xs))) ∧ 8 < (List.length (words (val ys))) := (by revert hc1; split <;> intro hc1 <;> omega)
    refine Tri.skip ?_
    refine At.thn (hK3 _ _ ?_); clear hK3
    refine Tri.seq fun K6 hK6 => ?_
    refine Tri.region ?_
    refine st (OK1.mv (Has.t rfl)) rfl ?_
    refine st (OK1.len sl57 (Has.t rfl)) rfl ?_
    refine st (OK1.mv (Has.t rfl)) rfl ?_
    refine st (OK1.len sl57 (Has.t rfl)) rfl ?_
    refine st (OK1.maxI (Has.t rfl) (Has.t rfl)) rfl ?_
    refine st (OK1.addI (Has.t rfl) (Has.cI 1 rfl) (by first | with_reducible assumption | omega | (simp only [val_words]; omega)) (by first | with_reducible assumption | omega | (simp only [val_words]; omega))) rfl ?_
    refine st (OK1.eq (OK1.quoI (Has.t rfl) (Has.cI 2 rfl) (by first | with_reducible assumption | omega | (simp only [val_words]; omega)) (by first | with_reducible assumption | omega | (simp only [val_words]; omega)) (by first | with_reducible assumption | omega | (simp only [val_words]; omega))) ((show isI _ = isI (N : Int) from isI_eq (by rw [hN]; split <;> omega)))) rfl ?_
    refine st (OK1.as (Has.t rfl)) rfl ?_
    refine nl ?_
    refine At.thn (hK6 _ _ ?_); clear hK6
    refine Tri.cv (Cv.wk (.cons (t := 0) (Has.t rfl) (.cons (t := 1) (Has.t rfl) (.cons (t := 4) (Has.t rfl) (.cons (t := 5) (Has.t rfl) .nil))))) ?_
    refine Tri.seq fun K7 hK7 => ?_
    refine Tri.region ?_
    refine st (OK1.mv (Has.t rfl)) rfl ?_
    refine st (OK1.mv (Has.t rfl)) rfl ?_
    refine st (OK1.eq (OK1.call (mul_low) (.cons (Has.t rfl) (.cons (Has.t rfl) .nil))) ((show isWords ((words (val xs)).take N) = isWords p from SlM_eq hp.symm))) rfl ?_
    refine st (OK1.mv (Has.t rfl)) rfl ?_
    refine st (OK1.mv (Has.t rfl)) rfl ?_
    refine st (OK1.eq (OK1.call (mul_high) (.cons (Has.t rfl) (.cons (Has.t rfl) .nil))) ((show isWords ((words (val xs)).drop N) = isWords q from SlM_eq hq.symm))) rfl ?_
    refine st (OK1.mv (Has.t rfl)) rfl ?_
    refine st (OK1.mv (Has.t rfl)) rfl ?_
    refine st (OK1.eq (OK1.call (mul_low) (.cons (Has.t rfl) (.cons (Has.t rfl) .nil))) ((show isWords ((words (val ys)).take N) = isWords r from SlM_eq hr.symm))) rfl ?_
    refine st (OK1.mv (Has.t rfl)) rfl ?_
    refine st (OK1.mv (Has.t rfl)) rfl ?_
    refine st (OK1.eq (OK1.call (mul_high) (.cons (Has.t rfl) (.cons (Has.t rfl) .nil))) ((show isWords ((words (val ys)).drop N) = isWords s from SlM_eq hs.symm))) rfl ?_
    refine st (OK1.as (Has.t rfl)) rfl ?_
    refine st (OK1.as (Has.t rfl)) rfl ?_
    refine st (OK1.as (Has.t rfl)) rfl ?_
    refine st (OK1.as (Has.t rfl)) rfl ?_
    refine nl ?_
    refine At.thn (hK7 _ _ ?_); clear hK7
    refine Tri.cv (Cv.wk (.cons (t := 4) (Has.t rfl) (.cons (t := 5) (Has.t rfl) (.cons (t := 6) (Has.t rfl) (.cons (t := 7) (Has.t rfl) (.cons (t := 8) (Has.t rfl) (.cons (t := 9) (Has.t rfl) .nil))))))) ?_
    refine Tri.seq fun K8 hK8 => ?_
    refine Tri.region ?_
    refine st (OK1.mv (Has.t rfl)) rfl ?_
    refine st (OK1.mv (Has.t rfl)) rfl ?_
    refine st (OK1.call (IH _ _ (by first | with_reducible assumption | omega | (simp only [val_words]; omega)) (by first | with_reducible assumption | omega | (simp only [val_words]; omega)) (by first | with_reducible assumption | omega | (simp only [val_words]; omega))) (.cons (Has.t rfl) (.cons (Has.t rfl) .nil))) rfl ?_
    refine st (OK1.mv (Has.t rfl)) rfl ?_
    refine st (OK1.mv (Has.t rfl)) rfl ?_
    refine st (OK1.call (IH _ _ (by first | with_reducible assumption | omega | (simp only [val_words]; omega)) (by first | with_reducible assumption | omega | (simp only [val_words]; omega)) (by first | with_reducible assumption | omega | (simp only [val_words]; omega))) (.cons (Has.t rfl) (.cons (Has.t rfl) .nil))) rfl ?_
    refine st (OK1.as (Has.t rfl)) rfl ?_
    refine st (OK1.as (Has.t rfl)) rfl ?_
    refine nl ?_
    refine At.thn (hK8 _ _ ?_); clear hK8
    refine Tri.cv (Cv.wk (.cons (t := 4) (Has.t rfl) (.cons (t := 5) (Has.t rfl) (.cons (t := 6) (Has.t rfl) (.cons (t := 7) (Has.t rfl) (.cons (t := 8) (Has.t rfl) (.cons (t := 9) (Has.t rfl) (.cons (t := 10) (Has.t rfl) (.cons (t := 11) (Has.t rfl) .nil))))))))) ?_
    refine Tri.seq fun K9 hK9 => ?_
    refine Tri.region ?_
    refine st (OK1.mv (Has.t rfl)) rfl ?_
    refine st (OK1.mv (Has.t rfl)) rfl ?_
    refine st (OK1.eq (OK1.call (nat_Add (by first | with_reducible assumption | omega | (simp only [val_words]; omega)) (by first | with_reducible assumption | omega | (simp only [val_words]; omega))) (.cons (Has.t rfl) (.cons (Has.t rfl) .nil))) ((show isWords (words (val p + val q)) = _ from rfl))) rfl ?_
    refine st (OK1.mv (Has.t rfl)) rfl ?_
    refine st (OK1.mv (Has.t rfl)) rfl ?_
    refine st (OK1.call (nat_Add (by first | with_reducible assumption | omega | (simp only [val_words]; omega)) (by first | with_reducible assumption | omega | (simp only [val_words]; omega))) (.cons (Has.t rfl) (.cons (Has.t rfl) .nil))) rfl ?_
    refine st (OK1.eq (OK1.call (IH _ _ (by first | with_reducible assumption | omega | (simp only [val_words]; omega)) (by first | with_reducible assumption | omega | (simp only [val_words]; omega)) (by first | with_reducible assumption | omega | (simp only [val_words]; omega))) (.cons (Has.t rfl) (.cons (Has.t rfl) .nil))) ((show isWords _ = isWords (words ((val p + val q) * (val r + val s))) from SlM_eq (by rw [val_words, val_words])))) rfl ?_
    refine st (OK1.mv (Has.t rfl)) rfl ?_
    refine st (OK1.eq (OK1.call (mul_less (by first | with_reducible assumption | omega | (simp only [val_words]; omega))) (.cons (Has.t rfl) (.cons (Has.t rfl) .nil))) ((show isWords _ = isWords (words ((val p + val q) * (val r + val s) - val p * val r)) from SlM_eq (by rw [val_words, val_words])))) rfl ?_
    refine st (OK1.mv (Has.t rfl)) rfl ?_
    refine st (OK1.eq (OK1.call (mul_less (by first | with_reducible assumption | omega | (simp only [val_words]; omega))) (.cons (Has.t rfl) (.cons (Has.t rfl) .nil))) ((show isWords _ = isWords (words ((val p + val q) * (val r + val s) - val p * val r - val q * val s)) from SlM_eq (by rw [val_words, val_words])))) rfl ?_
    refine st (OK1.as (Has.t rfl)) rfl ?_
    refine nl ?_
    refine At.thn (hK9 _ _ ?_); clear hK9
    refine Tri.cv (Cv.wk (.cons (t := 4) (Has.t rfl) (.cons (t := 5) (Has.t rfl) (.cons (t := 10) (Has.t rfl) (.cons (t := 11) (Has.t rfl) (.cons (t := 12) (Has.t rfl) .nil)))))) ?_
    refine Tri.seq fun K10 hK10 => ?_
    refine Tri.region ?_
    refine st (OK1.mv (Has.t rfl)) rfl ?_
    refine st (OK1.mv (Has.t rfl)) rfl ?_
    refine st (OK1.mv (Has.t rfl)) rfl ?_
    refine st (OK1.mv (Has.t rfl)) rfl ?_
    refine st (OK1.call (mul_joined (by simp only [val_words]; omega) (by omega) (by omega) (by omega)) (.cons (Has.t rfl) (.cons (Has.t rfl) (.cons (Has.t rfl) (.cons (Has.t rfl) .nil))))) rfl ?_
    refine st (OK1.as (Has.t rfl)) rfl ?_
    refine nl ?_
    refine At.thn (hK10 _ _ ?_); clear hK10
    refine Tri.cv (Cv.wk (.cons (t := 4) (Has.t rfl) .nil)) ?_
    refine Tri.ret ?_
    refine rt1 (.inl rfl) Try.results103 rfl (.tmp (Has.t' rfl ?_) .nil)
    all_goals (exact SlM_eq (by simp only [val_words]; rw [kara, ea, eb]))
theorem mul_Mul : ∀ {xs ys : List Nat}, (List.length (words (val xs))) ≤ 1000000000 → (List.length (words (val ys))) ≤ 1000000000 → Ctr Try.prog 103 [isWords xs, isWords ys] (isWords (words (val xs * val ys))) := by
  have h : ∀ N, ∀ xs ys : List Nat, max ((List.length (words (val xs)))) ((List.length (words (val ys)))) ≤ N → (List.length (words (val xs))) ≤ 1000000000 → (List.length (words (val ys))) ≤ 1000000000 → Ctr Try.prog 103 [isWords xs, isWords ys] (isWords (words (val xs * val ys))) := by
    intro N
    induction N with
    | zero => intro xs ys h hx hy; exact mul_MulStep hx hy (fun us vs hl => absurd hl (by omega))
    | succ N ih => intro xs ys h hx hy; exact mul_MulStep hx hy (fun us vs hl => ih us vs (by omega))
  intro xs ys hx hy
  exact h _ xs ys (Nat.le_refl _) hx hy
end Go.Proofs.Ytfoclelageohiaa
/- Contracts: whole numbers. -/
namespace Go.Proofs.Ytfoclelageohiaa
open Go.En Go.RowKit
set_option linter.unusedVariables false
set_option maxRecDepth 10000
open Go.Nt
set_option maxHeartbeats 4000000 in
theorem zint_From {xs : List Nat} {m : Bool} (hx : (List.length (words (val xs))) ≤ 4294967296) : Ctr Try.prog 102 [isWords xs, isB m] (isZ (zv m xs)) := by
  refine Ctr.intro Try.func102 rfl (by kernel_rfl) Try.ntmps102 rfl fun w0 F0 => ?_
  refine Tri.cv (Cv.wk (.cons (t := 0) (Has.t rfl) (.cons (t := 1) (Has.t rfl) .nil))) ?_
  refine Tri.fact (Has.lenLt (Has.t (t := 0) rfl)) fun lt0 => ?_
  refine Tri.fact (Has.okW (Has.t (t := 0) rfl)) fun ok0 => ?_
  refine Tri.seq fun K1 hK1 => ?_
  refine Tri.region ?_
  refine Ops.alloc [isB false, SlM isU []] zero59 (fun _ _ => ⟨rfl, nilM _ _, trivial⟩) rfl fun b1 => ?_
  refine nl ?_
  refine At.thn (hK1 _ _ ?_); clear hK1
  refine Tri.seq fun K2 hK2 => ?_
  refine Tri.region ?_
  refine st (OK1.mv (Has.t rfl)) rfl ?_
  refine st (OK1.call (nat_Norm (by first | with_reducible assumption | omega | (simp only [val_words, zv_nf]; omega) | (simp only [val_words]; exact Nat.le_trans (nw_small' (by omega)) (by decide)))) (.cons (Has.t rfl) .nil)) rfl ?_
  refine st (OK1.as (Has.t rfl)) rfl ?_
  refine nl ?_
  refine At.thn (hK2 _ _ ?_); clear hK2
  refine Tri.seq fun K3 hK3 => ?_
  refine Tri.region ?_
  refine st (OK1.mv (Has.t rfl)) rfl ?_
  refine st (OK1.mv (Has.t rfl)) rfl ?_
  refine stT rfl rfl (fun hg => have hg' := BP.t hg; OK1.mv (Has.t rfl)) rfl ?_
  refine stT rfl rfl (fun hg => have hg' := BP.t hg; OK1.len sl57 (Has.g rfl hg)) rfl ?_
  refine stT rfl rfl (fun hg => have hg' := BP.t hg; OK1.gtI (Has.g rfl hg) (Has.cI 0 rfl)) rfl ?_
  refine st (OK1.pickAnd (Has.t rfl) (fun h => Has.g rfl h)) rfl ?_
  refine st (OK1.mv (Has.t rfl)) rfl ?_
  refine st (OK1.build [isB false, SlM isU []] pl59 zero59 (fun _ _ => ⟨rfl, nilM _ _, trivial⟩) (.cons (Has.t rfl) rfl rfl rfl (.cons (Has.t rfl) rfl rfl rfl .nil)) (Z'' := [_, _]) rfl) rfl ?_
  refine Ops.store (Has.t rfl) (Has.t rfl) (i := 0) rfl ty59 rfl rfl (Ss' := [_, _]) rfl (M' := [(some _, cellM [_, _])]) rfl ?_
  refine nl ?_
  refine At.thn (hK3 _ _ ?_); clear hK3
  refine Tri.cv (Cv.wk (.cons (t := 4) (Has.t rfl) .nil)) ?_
  refine Tri.ret ?_
  refine rt1 (.inl rfl) Try.results102 rfl (.cell rfl (i := 0) rfl ty59 rfl ?_ .nil)
  · exact isZ_of (from_neg m xs) (by rw [zv_abs])
set_option maxHeartbeats 4000000 in
theorem zint_Of {x : Int} : Ctr Try.prog 60 [isI x] (isZ x) := by
  refine Ctr.intro Try.func60 rfl (by kernel_rfl) Try.ntmps60 rfl fun w0 F0 => ?_
  refine Tri.cv (Cv.wk (.cons (t := 0) (Has.t rfl) .nil)) ?_
  refine Tri.fact (Has.rngI (Has.t (t := 0) rfl)) fun lt0 => ?_
  refine Tri.seq fun K1 hK1 => ?_
  refine Tri.region ?_
  refine Ops.alloc [isB false, SlM isU []] zero59 (fun _ _ => ⟨rfl, nilM _ _, trivial⟩) rfl fun b1 => ?_
  refine nl ?_
  refine At.thn (hK1 _ _ ?_); clear hK1
  refine Tri.seq fun K2 hK2 => ?_
  refine Tri.seq fun K3 hK3 => ?_
  refine Tri.region ?_
  refine st (OK1.mv (Has.t rfl)) rfl ?_
  refine st (OK1.ltI (Has.t rfl) (Has.cI 0 rfl)) rfl ?_
  refine nl ?_
  refine At.thn (hK3 _ _ ?_); clear hK3
  refine Tri.cond (Has.t rfl) (fun hc1 => ?_) (fun hc1 => ?_)
  · have hc1 := BP.t hc1
    have hN : x < 0 := hc1
    refine Tri.seq fun K4 hK4 => ?_
    refine Tri.region ?_
    refine st (OK1.mv (Has.t rfl)) rfl ?_
    refine st (OK1.convIUw un2 un27 (Has.t rfl)) rfl ?_
    refine st (OK1.eq (OK1.negU (Has.t rfl) (by first | with_reducible assumption | omega | (simp only [val_words, zv_nf]; omega) | (simp only [val_words]; exact Nat.le_trans (nw_small' (by omega)) (by decide)))) ((show isU _ = isU x.natAbs from isU_eq (neg_word hc1 (by omega))))) rfl ?_
    refine st (OK1.call (nat_Of) (.cons (Has.t rfl) .nil)) rfl ?_
    refine st (OK1.call (zint_From (by first | with_reducible assumption | omega | (simp only [val_words, zv_nf]; omega) | (simp only [val_words]; exact Nat.le_trans (nw_small' (by omega)) (by decide)))) (.cons (Has.t rfl) (.cons (Has.cB true) .nil))) rfl ?_
    refine Ops.store (Has.t rfl) (Has.t rfl) (i := 0) rfl ty59 rfl rfl (Ss' := [_, _]) rfl (M' := [(some _, cellM [_, _])]) rfl ?_
    refine nl ?_
    refine At.thn (hK4 _ _ ?_); clear hK4
    refine Tri.cv (Cv.wk (.cons (t := 0) (Has.t rfl) (.cons (t := 2) (Has.t rfl) .nil))) ?_
    refine Tri.ret ?_
    refine At.thr ?_
    refine rt1 (.inl rfl) Try.results60 rfl (.cell rfl (i := 0) rfl ty59 rfl ?_ .nil)
    · exact isZ_eq (by rw [from_word, if_pos rfl]; omega)
  · have hc1 := BP.f hc1
    have hN : 0 ≤ x := (by omega)
    refine Tri.skip ?_
    refine At.thn (hK2 _ _ ?_); clear hK2
    refine Tri.seq fun K5 hK5 => ?_
    refine Tri.region ?_
    refine st (OK1.mv (Has.t rfl)) rfl ?_
    refine st (OK1.eq (OK1.convIU un2 un27 (Has.t rfl) (by first | with_reducible assumption | omega | (simp only [val_words, zv_nf]; omega) | (simp only [val_words]; exact Nat.le_trans (nw_small' (by omega)) (by decide))) (by first | with_reducible assumption | omega | (simp only [val_words, zv_nf]; omega) | (simp only [val_words]; exact Nat.le_trans (nw_small' (by omega)) (by decide)))) ((show isU _ = isU x.natAbs from isU_eq (by omega)))) rfl ?_
    refine st (OK1.call (nat_Of) (.cons (Has.t rfl) .nil)) rfl ?_
    refine st (OK1.call (zint_From (by first | with_reducible assumption | omega | (simp only [val_words, zv_nf]; omega) | (simp only [val_words]; exact Nat.le_trans (nw_small' (by omega)) (by decide)))) (.cons (Has.t rfl) (.cons (Has.cB false) .nil))) rfl ?_
    refine Ops.store (Has.t rfl) (Has.t rfl) (i := 0) rfl ty59 rfl rfl (Ss' := [_, _]) rfl (M' := [(some _, cellM [_, _])]) rfl ?_
    refine nl ?_
    refine At.thn (hK5 _ _ ?_); clear hK5
    refine Tri.cv (Cv.wk (.cons (t := 2) (Has.t rfl) .nil)) ?_
    refine Tri.ret ?_
    refine rt1 (.inl rfl) Try.results60 rfl (.cell rfl (i := 0) rfl ty59 rfl ?_ .nil)
    · exact isZ_eq (by rw [from_word, if_neg (by decide)]; omega)
set_option maxHeartbeats 4000000 in
theorem zint_Sign {m : Bool} {xs : List Nat} (hx : (List.length (words (val xs))) < 4294900000) : Ctr Try.prog 45 [Flat [isB m, isWords xs]] (isI (sgn (zv m xs))) := by
  refine Ctr.intro Try.func45 rfl (by kernel_rfl) Try.ntmps45 rfl fun w0 F0 => ?_
  refine Tri.cv (Cv.wk (.cons (t := 0) (Has.t rfl) .nil)) ?_
  refine Tri.fact (Has.okZ (Has.t (t := 0) rfl)) fun okz0 => ?_
  refine Tri.seq fun K1 hK1 => ?_
  refine Tri.region ?_
  refine Ops.box (Has.t rfl) rfl fun b1 => ?_
  refine st (OK1.as (Has.cI 0 rfl)) rfl ?_
  refine nl ?_
  refine At.thn (hK1 _ _ ?_); clear hK1
  refine Tri.seq fun K2 hK2 => ?_
  refine Tri.block ?_
  refine Tri.seq fun K3 hK3 => ?_
  refine Tri.region ?_
  refine st (OK1.fieldAddr (Has.t rfl) fld59_1 ty57) rfl ?_
  refine st (OK1.load1 (Has.t rfl) (i := 0) rfl ty57 rfl) rfl ?_
  refine st (OK1.call (nat_Bits (by first | with_reducible assumption | omega | (simp only [val_words, zv_nf]; omega) | (simp only [val_words]; exact Nat.le_trans (nw_small' (by omega)) (by decide)))) (.cons (Has.t rfl) .nil)) rfl ?_
  refine st (OK1.eqI (Has.t rfl) (Has.cI 0 rfl)) rfl ?_
  refine st (OK1.as (Has.t rfl)) rfl ?_
  refine nl ?_
  refine At.thn (hK3 _ _ ?_); clear hK3
  refine Tri.cv (Cv.wk (.cons (t := 1) (Has.t rfl) (.cons (t := 2) (Has.t rfl) (.cons (t := 3) (Has.t rfl) .nil)))) ?_
  refine Tri.cond (Has.t rfl) (fun hc1 => ?_) (fun hc1 => ?_)
  · have hc1 := BP.t hc1
    refine Tri.seq fun K4 hK4 => ?_
    refine Tri.region ?_
    refine st (OK1.as (Has.cI 0 rfl)) rfl ?_
    refine nl ?_
    refine At.thn (hK4 _ _ ?_); clear hK4
    refine Tri.ret ?_
    refine At.blr ?_
    refine At.thr ?_
    refine rt1 (.inl rfl) Try.results45 rfl (.tmp (Has.t' rfl ?_) .nil)
    all_goals (exact isI_eq (sgn_zero hc1))
  · have hc1 := BP.f hc1
    refine Tri.seq fun K5 hK5 => ?_
    refine Tri.region ?_
    refine st (OK1.fieldAddr (Has.t rfl) fld59_0 ty4) rfl ?_
    refine st (OK1.load1 (Has.t rfl) (i := 0) rfl ty4 rfl) rfl ?_
    refine st (OK1.as (Has.t rfl)) rfl ?_
    refine nl ?_
    refine At.thn (hK5 _ _ ?_); clear hK5
    refine Tri.cond (Has.t rfl) (fun hc2 => ?_) (fun hc2 => ?_)
    · have hc2 := BP.t hc2
      have HM := hc2
      refine Tri.seq fun K6 hK6 => ?_
      refine Tri.region ?_
      refine st (OK1.as (Has.cI (-1) rfl)) rfl ?_
      refine nl ?_
      refine At.thn (hK6 _ _ ?_); clear hK6
      refine Tri.cv (Cv.wk (.cons (t := 2) (Has.t rfl) .nil)) ?_
      refine Tri.ret ?_
      refine At.blr ?_
      refine At.thr ?_
      refine rt1 (.inl rfl) Try.results45 rfl (.tmp (Has.t' rfl ?_) .nil)
      all_goals (exact isI_eq (by rw [← sgn_of hc1, if_pos HM]))
    · have hc2 := BP.f hc2
      have HM := hc2
      refine Tri.skip ?_
      refine At.bln ?_
      refine At.thn (hK2 _ _ ?_); clear hK2
      refine Tri.cv (Cv.wk (.cons (t := 2) (Has.t rfl) .nil)) ?_
      refine Tri.seq fun K7 hK7 => ?_
      refine Tri.region ?_
      refine st (OK1.as (Has.cI 1 rfl)) rfl ?_
      refine nl ?_
      refine At.thn (hK7 _ _ ?_); clear hK7
      refine Tri.ret ?_
      refine rt1 (.inl rfl) Try.results45 rfl (.tmp (Has.t' rfl ?_) .nil)
      all_goals (exact isI_eq (by rw [← sgn_of hc1, if_neg (by rw [HM]; decide)]))
set_option maxHeartbeats 4000000 in
theorem zint_Neg {m : Bool} {xs : List Nat} (hx : (List.length (words (val xs))) < 4294900000) : Ctr Try.prog 93 [Flat [isB m, isWords xs]] (isZ (-(zv m xs))) := by
  refine Ctr.intro Try.func93 rfl (by kernel_rfl) Try.ntmps93 rfl fun w0 F0 => ?_
  refine Tri.cv (Cv.wk (.cons (t := 0) (Has.t rfl) .nil)) ?_
  refine Tri.fact (Has.okZ (Has.t (t := 0) rfl)) fun okz0 => ?_
  refine Tri.seq fun K1 hK1 => ?_
  refine Tri.region ?_
  refine Ops.box (Has.t rfl) rfl fun b1 => ?_
  refine Ops.alloc [isB false, SlM isU []] zero59 (fun _ _ => ⟨rfl, nilM _ _, trivial⟩) rfl fun b2 => ?_
  refine nl ?_
  refine At.thn (hK1 _ _ ?_); clear hK1
  refine Tri.seq fun K2 hK2 => ?_
  refine Tri.region ?_
  refine st (OK1.fieldAddr (Has.t rfl) fld59_1 ty57) rfl ?_
  refine st (OK1.load1 (Has.t rfl) (i := 1) rfl ty57 rfl) rfl ?_
  refine st (OK1.fieldAddr (Has.t rfl) fld59_0 ty4) rfl ?_
  refine st (OK1.load1 (Has.t rfl) (i := 1) rfl ty4 rfl) rfl ?_
  refine st (OK1.not (Has.t rfl)) rfl ?_
  refine st (OK1.call (zint_From (by first | with_reducible assumption | omega | (simp only [val_words, zv_nf]; omega) | (simp only [val_words]; exact Nat.le_trans (nw_small' (by omega)) (by decide)))) (.cons (Has.t rfl) (.cons (Has.t rfl) .nil))) rfl ?_
  refine Ops.store (Has.t rfl) (Has.t rfl) (i := 0) rfl ty59 rfl rfl (Ss' := [_, _]) rfl (M' := [(some _, cellM [_, _]), _]) rfl ?_
  refine nl ?_
  refine At.thn (hK2 _ _ ?_); clear hK2
  refine Tri.cv (Cv.wk (.cons (t := 2) (Has.t rfl) .nil)) ?_
  refine Tri.ret ?_
  refine rt1 (.inl rfl) Try.results93 rfl (.cell rfl (i := 0) rfl ty59 rfl ?_ .nil)
  · exact isZ_eq (zv_not m xs)
set_option maxHeartbeats 4000000 in
theorem zint_Add {m n : Bool} {xs ys : List Nat} (hx : (List.length (words (val xs))) < 4294700000) (hy : (List.length (words (val ys))) < 4294700000) : Ctr Try.prog 96 [Flat [isB m, isWords xs], Flat [isB n, isWords ys]] (isZ (zv m xs + zv n ys)) := by
  refine Ctr.intro Try.func96 rfl (by kernel_rfl) Try.ntmps96 rfl fun w0 F0 => ?_
  refine Tri.cv (Cv.wk (.cons (t := 0) (Has.t rfl) (.cons (t := 1) (Has.t rfl) .nil))) ?_
  refine Tri.fact (Has.okZ (Has.t (t := 0) rfl)) fun okz0 => ?_
  refine Tri.fact (Has.okZ (Has.t (t := 1) rfl)) fun okz1 => ?_
  have ha := nw_add_le (val xs) (val ys)
  have hb := nw_mono (Nat.sub_le (val xs) (val ys))
  have hd := nw_mono (Nat.sub_le (val ys) (val xs))
  refine Tri.seq fun K1 hK1 => ?_
  refine Tri.region ?_
  refine Ops.box (Has.t rfl) rfl fun b1 => ?_
  refine Ops.box (Has.t rfl) rfl fun b2 => ?_
  refine Ops.alloc [isB false, SlM isU []] zero59 (fun _ _ => ⟨rfl, nilM _ _, trivial⟩) rfl fun b3 => ?_
  refine nl ?_
  refine At.thn (hK1 _ _ ?_); clear hK1
  refine Tri.seq fun K2 hK2 => ?_
  refine Tri.seq fun K3 hK3 => ?_
  refine Tri.region ?_
  refine st (OK1.fieldAddr (Has.t rfl) fld59_0 ty4) rfl ?_
  refine st (OK1.load1 (Has.t rfl) (i := 2) rfl ty4 rfl) rfl ?_
  refine st (OK1.fieldAddr (Has.t rfl) fld59_0 ty4) rfl ?_
  refine st (OK1.load1 (Has.t rfl) (i := 1) rfl ty4 rfl) rfl ?_
  refine st (OK1.eqB (du := un4) rfl (Has.t rfl) (Has.t rfl)) rfl ?_
  refine nl ?_
  refine At.thn (hK3 _ _ ?_); clear hK3
  refine Tri.cv (Cv.wk (.cons (t := 2) (Has.t rfl) (.cons (t := 3) (Has.t rfl) (.cons (t := 4) (Has.t rfl) (.cons (t := 13) (Has.t rfl) .nil))))) ?_
  refine Tri.cond (Has.t rfl) (fun hc1 => ?_) (fun hc1 => ?_)
  · have hc1 := BP.t hc1
    have HM : m = n := eq_of_beq hc1
    refine Tri.seq fun K4 hK4 => ?_
    refine Tri.dr ?_
    refine DrG.st (i := 0) [] rfl rfl rfl (by kernel_rfl) (OKG.o rfl (OK1.fieldAddr (Has.t rfl) fld59_1 ty57)) ?_
    refine DrG.st (i := 1) [14] rfl rfl rfl (by kernel_rfl) (OKG.o rfl (OK1.load1 (Has.t rfl) (i := 2) rfl ty57 rfl)) ?_
    refine DrG.st (i := 2) [] rfl rfl rfl (by kernel_rfl) (OKG.o rfl (OK1.fieldAddr (Has.t rfl) fld59_1 ty57)) ?_
    refine DrG.st (i := 3) [16] rfl rfl rfl (by kernel_rfl) (OKG.o rfl (OK1.load1 (Has.t rfl) (i := 1) rfl ty57 rfl)) ?_
    refine DrG.st (i := 4) [15, 17] rfl rfl rfl (by kernel_rfl) (OKG.o rfl (OK1.call (nat_Add (by first | with_reducible assumption | omega | (simp only [val_words, zv_nf]; omega) | (simp only [val_words]; exact Nat.le_trans (nw_small' (by omega)) (by decide))) (by first | with_reducible assumption | omega | (simp only [val_words, zv_nf]; omega) | (simp only [val_words]; exact Nat.le_trans (nw_small' (by omega)) (by decide)))) (.cons (Has.t rfl) (.cons (Has.t rfl) .nil)))) ?_
    refine DrG.st (i := 5) [] rfl rfl rfl (by kernel_rfl) (OKG.o rfl (OK1.fieldAddr (Has.t rfl) fld59_0 ty4)) ?_
    refine DrG.st (i := 6) [19] rfl rfl rfl (by kernel_rfl) (OKG.o rfl (OK1.load1 (Has.t rfl) (i := 2) rfl ty4 rfl)) ?_
    refine DrG.fin (n := 7) mixed (by kernel_rfl) (by kernel_rfl) (by kernel_rfl) ?_
    refine Ops.cv (Cv.wk (.cons (t := 2) (Has.t rfl) (.cons (t := 3) (Has.t rfl) (.cons (t := 4) (Has.t rfl) (.cons (t := 18) (Has.t rfl) (.cons (t := 20) (Has.t rfl) .nil)))))) ?_
    refine st (OK1.call (zint_From (by first | with_reducible assumption | omega | (simp only [val_words, zv_nf]; omega) | (simp only [val_words]; exact Nat.le_trans (nw_small' (by omega)) (by decide)))) (.cons (Has.t rfl) (.cons (Has.t rfl) .nil))) rfl ?_
    refine Ops.store (Has.t rfl) (Has.t rfl) (i := 0) rfl ty59 rfl rfl (Ss' := [_, _]) rfl (M' := [(some _, cellM [_, _]), _, _]) rfl ?_
    refine nl ?_
    refine At.thn (hK4 _ _ ?_); clear hK4
    refine Tri.ret ?_
    refine At.thr ?_
    refine rt1 (.inl rfl) Try.results96 rfl (.cell rfl (i := 0) rfl ty59 rfl ?_ .nil)
    · exact isZ_eq (zv_add_same HM xs ys).symm
  · have hc1 := BP.f hc1
    have HM : m ≠ n := fun e => by rw [e] at hc1; simp at hc1
    refine Tri.skip ?_
    refine At.thn (hK2 _ _ ?_); clear hK2
    refine Tri.seq fun K5 hK5 => ?_
    refine Tri.seq fun K6 hK6 => ?_
    refine Tri.region ?_
    refine st (OK1.fieldAddr (Has.t rfl) fld59_1 ty57) rfl ?_
    refine st (OK1.load1 (Has.t rfl) (i := 2) rfl ty57 rfl) rfl ?_
    refine st (OK1.fieldAddr (Has.t rfl) fld59_1 ty57) rfl ?_
    refine st (OK1.load1 (Has.t rfl) (i := 1) rfl ty57 rfl) rfl ?_
    refine st (OK1.call (nat_Sub (by first | with_reducible assumption | omega | (simp only [val_words, zv_nf]; omega) | (simp only [val_words]; exact Nat.le_trans (nw_small' (by omega)) (by decide)))) (.cons (Has.t rfl) (.cons (Has.t rfl) .nil))) rfl ?_
    refine st (OK1.mv (Has.t rfl)) rfl ?_
    refine st (OK1.ext (Has.t rfl) rfl) rfl ?_
    refine st (OK1.ext (Has.t rfl) rfl) rfl ?_
    refine st (OK1.as (Has.t rfl)) rfl ?_
    refine st (OK1.as (Has.t rfl)) rfl ?_
    refine nl ?_
    refine At.thn (hK6 _ _ ?_); clear hK6
    refine Tri.cv (Cv.wk (.cons (t := 2) (Has.t rfl) (.cons (t := 3) (Has.t rfl) (.cons (t := 4) (Has.t rfl) (.cons (t := 5) (Has.t rfl) (.cons (t := 6) (Has.t rfl) .nil)))))) ?_
    refine Tri.seq fun K7 hK7 => ?_
    refine Tri.region ?_
    refine st (OK1.mv (Has.t rfl)) rfl ?_
    refine nl ?_
    refine At.thn (hK7 _ _ ?_); clear hK7
    refine Tri.cond (Has.t rfl) (fun hc2 => ?_) (fun hc2 => ?_)
    · have hc2 := BP.t hc2
      have HL : val ys ≤ val xs := hc2
      refine Tri.seq fun K8 hK8 => ?_
      refine Tri.region ?_
      refine st (OK1.mv (Has.t rfl)) rfl ?_
      refine st (OK1.fieldAddr (Has.t rfl) fld59_0 ty4) rfl ?_
      refine st (OK1.load1 (Has.t rfl) (i := 2) rfl ty4 rfl) rfl ?_
      refine st (OK1.call (zint_From (by first | with_reducible assumption | omega | (simp only [val_words, zv_nf]; omega) | (simp only [val_words]; exact Nat.le_trans (nw_small' (by omega)) (by decide)))) (.cons (Has.t rfl) (.cons (Has.t rfl) .nil))) rfl ?_
      refine Ops.store (Has.t rfl) (Has.t rfl) (i := 0) rfl ty59 rfl rfl (Ss' := [_, _]) rfl (M' := [(some _, cellM [_, _]), _, _]) rfl ?_
      refine nl ?_
      refine At.thn (hK8 _ _ ?_); clear hK8
      refine Tri.cv (Cv.wk (.cons (t := 2) (Has.t rfl) (.cons (t := 3) (Has.t rfl) (.cons (t := 4) (Has.t rfl) .nil)))) ?_
      refine Tri.ret ?_
      refine At.thr ?_
      refine rt1 (.inl rfl) Try.results96 rfl (.cell rfl (i := 0) rfl ty59 rfl ?_ .nil)
      · exact isZ_eq (zv_add_sub HM HL).symm
    · have hc2 := BP.f hc2
      have HL : ¬ val ys ≤ val xs := (by omega)
      refine Tri.skip ?_
      refine At.thn (hK5 _ _ ?_); clear hK5
      refine Tri.seq fun K9 hK9 => ?_
      refine Tri.region ?_
      refine st (OK1.fieldAddr (Has.t rfl) fld59_1 ty57) rfl ?_
      refine st (OK1.load1 (Has.t rfl) (i := 1) rfl ty57 rfl) rfl ?_
      refine st (OK1.fieldAddr (Has.t rfl) fld59_1 ty57) rfl ?_
      refine st (OK1.load1 (Has.t rfl) (i := 2) rfl ty57 rfl) rfl ?_
      refine st (OK1.call (nat_Sub (by first | with_reducible assumption | omega | (simp only [val_words, zv_nf]; omega) | (simp only [val_words]; exact Nat.le_trans (nw_small' (by omega)) (by decide)))) (.cons (Has.t rfl) (.cons (Has.t rfl) .nil))) rfl ?_
      refine st (OK1.mv (Has.t rfl)) rfl ?_
      refine st (OK1.ext (Has.t rfl) rfl) rfl ?_
      refine st (OK1.ext (Has.t rfl) rfl) rfl ?_
      refine st (OK1.as (Has.t rfl)) rfl ?_
      refine st (OK1.as (Has.t rfl)) rfl ?_
      refine nl ?_
      refine At.thn (hK9 _ _ ?_); clear hK9
      refine Tri.cv (Cv.wk (.cons (t := 3) (Has.t rfl) (.cons (t := 4) (Has.t rfl) (.cons (t := 7) (Has.t rfl) .nil)))) ?_
      refine Tri.seq fun K10 hK10 => ?_
      refine Tri.region ?_
      refine st (OK1.mv (Has.t rfl)) rfl ?_
      refine st (OK1.fieldAddr (Has.t rfl) fld59_0 ty4) rfl ?_
      refine st (OK1.load1 (Has.t rfl) (i := 1) rfl ty4 rfl) rfl ?_
      refine st (OK1.call (zint_From (by first | with_reducible assumption | omega | (simp only [val_words, zv_nf]; omega) | (simp only [val_words]; exact Nat.le_trans (nw_small' (by omega)) (by decide)))) (.cons (Has.t rfl) (.cons (Has.t rfl) .nil))) rfl ?_
      refine Ops.store (Has.t rfl) (Has.t rfl) (i := 0) rfl ty59 rfl rfl (Ss' := [_, _]) rfl (M' := [(some _, cellM [_, _]), _, _]) rfl ?_
      refine nl ?_
      refine At.thn (hK10 _ _ ?_); clear hK10
      refine Tri.cv (Cv.wk (.cons (t := 4) (Has.t rfl) .nil)) ?_
      refine Tri.ret ?_
      refine rt1 (.inl rfl) Try.results96 rfl (.cell rfl (i := 0) rfl ty59 rfl ?_ .nil)
      · exact isZ_eq (by rw [Int.add_comm]; exact (zv_add_sub (fun e => HM e.symm) (by omega)).symm)
set_option maxHeartbeats 4000000 in
theorem zint_Sub {m n : Bool} {xs ys : List Nat} (hx : (List.length (words (val xs))) < 4294700000) (hy : (List.length (words (val ys))) < 4294700000) : Ctr Try.prog 158 [Flat [isB m, isWords xs], Flat [isB n, isWords ys]] (isZ (zv m xs - zv n ys)) := by
  refine Ctr.intro Try.func158 rfl (by kernel_rfl) Try.ntmps158 rfl fun w0 F0 => ?_
  refine Tri.cv (Cv.wk (.cons (t := 0) (Has.t rfl) (.cons (t := 1) (Has.t rfl) .nil))) ?_
  refine Tri.fact (Has.okZ (Has.t (t := 0) rfl)) fun okz0 => ?_
  refine Tri.fact (Has.okZ (Has.t (t := 1) rfl)) fun okz1 => ?_
  refine Tri.seq fun K1 hK1 => ?_
  refine Tri.region ?_
  refine Ops.box (Has.t rfl) rfl fun b1 => ?_
  refine Ops.box (Has.t rfl) rfl fun b2 => ?_
  refine Ops.alloc [isB false, SlM isU []] zero59 (fun _ _ => ⟨rfl, nilM _ _, trivial⟩) rfl fun b3 => ?_
  refine nl ?_
  refine At.thn (hK1 _ _ ?_); clear hK1
  refine Tri.seq fun K2 hK2 => ?_
  refine Tri.dr ?_
  refine DrG.st (i := 0) [] rfl rfl rfl (by kernel_rfl) (OKG.o rfl (OK1.load (Has.t rfl) (i := 2) rfl ty59 rfl (Ss' := [_, _]) rfl)) ?_
  refine DrG.st (i := 1) [] rfl rfl rfl (by kernel_rfl) (OKG.o rfl (OK1.load (Has.t rfl) (i := 1) rfl ty59 rfl (Ss' := [_, _]) rfl)) ?_
  refine DrG.st (i := 2) [6] rfl rfl rfl (by kernel_rfl) (OKG.o rfl (OK1.call (zint_Neg (by first | with_reducible assumption | omega | (simp only [val_words, zv_nf]; omega) | (simp only [val_words]; exact Nat.le_trans (nw_small' (by omega)) (by decide)))) (.cons (Has.t rfl) .nil))) ?_
  refine DrG.fin (n := 3) mixed (by kernel_rfl) (by kernel_rfl) (by kernel_rfl) ?_
  refine Ops.cv (Cv.wk (.cons (t := 4) (Has.t rfl) (.cons (t := 5) (Has.t rfl) (.cons (t := 7) (Has.t rfl) .nil)))) ?_
  refine st (OK1.call (zint_Add (by omega) (by simp only [val_words]; rw [Int.natAbs_neg, zv_abs]; omega)) (.cons (Has.t rfl) (.cons (Has.t rfl) .nil))) rfl ?_
  refine Ops.store (Has.t rfl) (Has.t rfl) (i := 0) rfl ty59 rfl rfl (Ss' := [_, _]) rfl (M' := [(some _, cellM [_, _]), _, _]) rfl ?_
  refine nl ?_
  refine At.thn (hK2 _ _ ?_); clear hK2
  refine Tri.ret ?_
  refine rt1 (.inl rfl) Try.results158 rfl (.cell rfl (i := 0) rfl ty59 rfl ?_ .nil)
  · exact isZ_eq (by rw [zv_nf]; omega)
set_option maxHeartbeats 4000000 in
theorem zint_Mul {m n : Bool} {xs ys : List Nat} (hx : (List.length (words (val xs))) ≤ 1000000000) (hy : (List.length (words (val ys))) ≤ 1000000000) : Ctr Try.prog 50 [Flat [isB m, isWords xs], Flat [isB n, isWords ys]] (isZ (zv m xs * zv n ys)) := by
  refine Ctr.intro Try.func50 rfl (by kernel_rfl) Try.ntmps50 rfl fun w0 F0 => ?_
  refine Tri.cv (Cv.wk (.cons (t := 0) (Has.t rfl) (.cons (t := 1) (Has.t rfl) .nil))) ?_
  refine Tri.fact (Has.okZ (Has.t (t := 0) rfl)) fun okz0 => ?_
  refine Tri.fact (Has.okZ (Has.t (t := 1) rfl)) fun okz1 => ?_
  have hm := nw_mul_le (val xs) (val ys)
  refine Tri.seq fun K1 hK1 => ?_
  refine Tri.region ?_
  refine Ops.box (Has.t rfl) rfl fun b1 => ?_
  refine Ops.box (Has.t rfl) rfl fun b2 => ?_
  refine Ops.alloc [isB false, SlM isU []] zero59 (fun _ _ => ⟨rfl, nilM _ _, trivial⟩) rfl fun b3 => ?_
  refine nl ?_
  refine At.thn (hK1 _ _ ?_); clear hK1
  refine Tri.seq fun K2 hK2 => ?_
  refine Tri.dr ?_
  refine DrG.st (i := 0) [] rfl rfl rfl (by kernel_rfl) (OKG.o rfl (OK1.fieldAddr (Has.t rfl) fld59_1 ty57)) ?_
  refine DrG.st (i := 1) [5] rfl rfl rfl (by kernel_rfl) (OKG.o rfl (OK1.load1 (Has.t rfl) (i := 2) rfl ty57 rfl)) ?_
  refine DrG.st (i := 2) [] rfl rfl rfl (by kernel_rfl) (OKG.o rfl (OK1.fieldAddr (Has.t rfl) fld59_1 ty57)) ?_
  refine DrG.st (i := 3) [7] rfl rfl rfl (by kernel_rfl) (OKG.o rfl (OK1.load1 (Has.t rfl) (i := 1) rfl ty57 rfl)) ?_
  refine DrG.st (i := 4) [6, 8] rfl rfl rfl (by kernel_rfl) (OKG.o rfl (OK1.call (mul_Mul hx hy) (.cons (Has.t rfl) (.cons (Has.t rfl) .nil)))) ?_
  refine DrG.st (i := 5) [] rfl rfl rfl (by kernel_rfl) (OKG.o rfl (OK1.fieldAddr (Has.t rfl) fld59_0 ty4)) ?_
  refine DrG.st (i := 6) [10] rfl rfl rfl (by kernel_rfl) (OKG.o rfl (OK1.load1 (Has.t rfl) (i := 2) rfl ty4 rfl)) ?_
  refine DrG.st (i := 7) [] rfl rfl rfl (by kernel_rfl) (OKG.o rfl (OK1.fieldAddr (Has.t rfl) fld59_0 ty4)) ?_
  refine DrG.st (i := 8) [12] rfl rfl rfl (by kernel_rfl) (OKG.o rfl (OK1.load1 (Has.t rfl) (i := 1) rfl ty4 rfl)) ?_
  refine DrG.st (i := 9) [11, 13] rfl rfl rfl (by kernel_rfl) (OKG.o rfl (OK1.neB (du := un4) rfl (Has.t rfl) (Has.t rfl))) ?_
  refine DrG.fin (n := 10) mixed (by kernel_rfl) (by kernel_rfl) (by kernel_rfl) ?_
  refine Ops.cv (Cv.wk (.cons (t := 4) (Has.t rfl) (.cons (t := 9) (Has.t rfl) (.cons (t := 14) (Has.t rfl) .nil)))) ?_
  refine st (OK1.call (zint_From (by first | with_reducible assumption | omega | (simp only [val_words, zv_nf]; omega) | (simp only [val_words]; exact Nat.le_trans (nw_small' (by omega)) (by decide)))) (.cons (Has.t rfl) (.cons (Has.t rfl) .nil))) rfl ?_
  refine Ops.store (Has.t rfl) (Has.t rfl) (i := 0) rfl ty59 rfl rfl (Ss' := [_, _]) rfl (M' := [(some _, cellM [_, _]), _, _]) rfl ?_
  refine nl ?_
  refine At.thn (hK2 _ _ ?_); clear hK2
  refine Tri.ret ?_
  refine rt1 (.inl rfl) Try.results50 rfl (.cell rfl (i := 0) rfl ty59 rfl ?_ .nil)
  · exact isZ_eq (zv_mul m n xs ys).symm
set_option maxHeartbeats 4000000 in
theorem zint_Quo {m n : Bool} {xs ys : List Nat} (hx : (List.length (words (val xs))) < 4294700000) (hy : (List.length (words (val ys))) < 4294700000) : Ctr Try.prog 157 [Flat [isB m, isWords xs], Flat [isB n, isWords ys]] (isTup [isZ ((zv m xs).tdiv (zv n ys)), isZ (if zv n ys = 0 then 0 else (zv m xs).tmod (zv n ys)), isB (decide (zv n ys ≠ 0))]) := by
  refine Ctr.intro Try.func157 rfl (by kernel_rfl) Try.ntmps157 rfl fun w0 F0 => ?_
  refine Tri.cv (Cv.wk (.cons (t := 0) (Has.t rfl) (.cons (t := 1) (Has.t rfl) .nil))) ?_
  refine Tri.fact (Has.okZ (Has.t (t := 0) rfl)) fun okz0 => ?_
  refine Tri.fact (Has.okZ (Has.t (t := 1) rfl)) fun okz1 => ?_
  have ha := nw_mono (Nat.div_le_self (val xs) (val ys))
  have hb : (List.length (words (if val ys = 0 then 0 else val xs % val ys))) ≤ (List.length (words (val xs))) := nw_mono (by split; exact Nat.zero_le _; exact Nat.mod_le _ _)
  refine Tri.seq fun K1 hK1 => ?_
  refine Tri.region ?_
  refine Ops.box (Has.t rfl) rfl fun b1 => ?_
  refine Ops.box (Has.t rfl) rfl fun b2 => ?_
  refine Ops.alloc [isB false, SlM isU []] zero59 (fun _ _ => ⟨rfl, nilM _ _, trivial⟩) rfl fun b3 => ?_
  refine Ops.alloc [isB false, SlM isU []] zero59 (fun _ _ => ⟨rfl, nilM _ _, trivial⟩) rfl fun b4 => ?_
  refine st (OK1.as (Has.cB false)) rfl ?_
  refine nl ?_
  refine At.thn (hK1 _ _ ?_); clear hK1
  refine Tri.seq fun K2 hK2 => ?_
  refine Tri.region ?_
  refine st (OK1.fieldAddr (Has.t rfl) fld59_1 ty57) rfl ?_
  refine st (OK1.load1 (Has.t rfl) (i := 3) rfl ty57 rfl) rfl ?_
  refine st (OK1.fieldAddr (Has.t rfl) fld59_1 ty57) rfl ?_
  refine st (OK1.load1 (Has.t rfl) (i := 2) rfl ty57 rfl) rfl ?_
  refine st (OK1.call (div_DivMod (by first | with_reducible assumption | omega | (simp only [val_words, zv_nf]; omega) | (simp only [val_words]; exact Nat.le_trans (nw_small' (by omega)) (by decide))) (by first | with_reducible assumption | omega | (simp only [val_words, zv_nf]; omega) | (simp only [val_words]; exact Nat.le_trans (nw_small' (by omega)) (by decide)))) (.cons (Has.t rfl) (.cons (Has.t rfl) .nil))) rfl ?_
  refine st (OK1.mv (Has.t rfl)) rfl ?_
  refine st (OK1.ext (Has.t rfl) rfl) rfl ?_
  refine st (OK1.ext (Has.t rfl) rfl) rfl ?_
  refine st (OK1.ext (Has.t rfl) rfl) rfl ?_
  refine st (OK1.as (Has.t rfl)) rfl ?_
  refine st (OK1.as (Has.t rfl)) rfl ?_
  refine st (OK1.as (Has.t rfl)) rfl ?_
  refine nl ?_
  refine At.thn (hK2 _ _ ?_); clear hK2
  refine Tri.cv (Cv.wk (.cons (t := 2) (Has.t rfl) (.cons (t := 3) (Has.t rfl) (.cons (t := 4) (Has.t rfl) (.cons (t := 5) (Has.t rfl) (.cons (t := 6) (Has.t rfl) (.cons (t := 7) (Has.t rfl) (.cons (t := 8) (Has.t rfl) (.cons (t := 9) (Has.t rfl) .nil))))))))) ?_
  refine Tri.seq fun K3 hK3 => ?_
  refine Tri.drh [false, false, true, true] (Ms := [_, _]) rfl ?_
  refine DrH.st (i := 0) [] rfl rfl rfl (by kernel_rfl) (OKG.o rfl (OK1.mv (Has.t rfl))) ?_
  refine DrH.st (i := 1) [] rfl rfl rfl (by kernel_rfl) (OKG.o rfl (OK1.fieldAddr (Has.t rfl) fld59_0 ty4)) ?_
  refine DrH.st (i := 2) [20] rfl rfl rfl (by kernel_rfl) (OKG.o rfl (OK1.load1 (Has.t rfl) (i := 1) rfl ty4 rfl)) ?_
  refine DrH.st (i := 3) [] rfl rfl rfl (by kernel_rfl) (OKG.o rfl (OK1.fieldAddr (Has.t rfl) fld59_0 ty4)) ?_
  refine DrH.st (i := 4) [22] rfl rfl rfl (by kernel_rfl) (OKG.o rfl (OK1.load1 (Has.t rfl) (i := 0) rfl ty4 rfl)) ?_
  refine DrH.st (i := 5) [21, 23] rfl rfl rfl (by kernel_rfl) (OKG.o rfl (OK1.neB (du := un4) rfl (Has.t rfl) (Has.t rfl))) ?_
  refine DrH.st (i := 6) [19, 24] rfl rfl rfl (by kernel_rfl) (OKG.o rfl (OK1.call (zint_From (by first | with_reducible assumption | omega | (simp only [val_words, zv_nf]; omega) | (simp only [val_words]; exact Nat.le_trans (nw_small' (by omega)) (by decide)))) (.cons (Has.t rfl) (.cons (Has.t rfl) .nil)))) ?_
  refine DrH.st (i := 7) [] rfl rfl rfl (by kernel_rfl) (OKG.o rfl (OK1.mv (Has.t rfl))) ?_
  refine DrH.st (i := 8) [] rfl rfl rfl (by kernel_rfl) (OKG.o rfl (OK1.fieldAddr (Has.t rfl) fld59_0 ty4)) ?_
  refine DrH.st (i := 9) [27] rfl rfl rfl (by kernel_rfl) (OKG.o rfl (OK1.load1 (Has.t rfl) (i := 1) rfl ty4 rfl)) ?_
  refine DrH.st (i := 10) [26, 28] rfl rfl rfl (by kernel_rfl) (OKG.o rfl (OK1.call (zint_From (by first | with_reducible assumption | omega | (simp only [val_words, zv_nf]; omega) | (simp only [val_words]; exact Nat.le_trans (nw_small' (by omega)) (by decide)))) (.cons (Has.t rfl) (.cons (Has.t rfl) .nil)))) ?_
  refine DrH.st (i := 11) [] rfl rfl rfl (by kernel_rfl) (OKG.o rfl (OK1.mv (Has.t rfl))) ?_
  refine DrH.mid (.cons _ (.cons _ (.cons_cons _ (.cons_cons _ .slnil)))) ?_
  refine DrM.st [25] rfl rfl (by kernel_rfl) (by kernel_rfl) (StS.store (Has.t rfl) (Has.t rfl) (i := 1) rfl ty59 rfl rfl (Ss' := [_, _]) rfl (M' := [_, (some _, cellM [_, _]), _, _]) rfl) (.cons _ (.cons _ (.cons_cons _ (.cons_cons _ .slnil)))) ?_
  refine DrM.st [29] rfl rfl (by kernel_rfl) (by kernel_rfl) (StS.store (Has.t rfl) (Has.t rfl) (i := 0) rfl ty59 rfl rfl (Ss' := [_, _]) rfl (M' := [(some _, cellM [_, _]), _, _, _]) rfl) (.cons _ (.cons _ (.cons_cons _ (.cons_cons _ .slnil)))) ?_
  refine DrM.fin (n := 14) mixed rfl (by kernel_rfl) (by kernel_rfl) (by kernel_rfl) ?_
  refine Ops.cv (Cv.wk (.cons (t := 4) (Has.t rfl) (.cons (t := 5) (Has.t rfl) (.cons (t := 6) (Has.t rfl) (.cons (t := 30) (Has.t rfl) .nil))))) ?_
  refine st (OK1.as (Has.t rfl)) rfl ?_
  refine nl ?_
  refine At.thn (hK3 _ _ ?_); clear hK3
  refine Tri.ret ?_
  refine rtN (.inl rfl) Try.results157 rfl rfl (.cell rfl (i := 1) rfl ty59 rfl ?_ (.cell rfl (i := 0) rfl ty59 rfl ?_ (.tmp (Has.t' rfl ?_) .nil)))
  · exact isZ_eq (zv_tdiv m n xs ys).symm
  · exact isZ_eq (quo_rest m n xs ys)
  · exact isB_eq (ne_zv n ys)
set_option maxHeartbeats 4000000 in
theorem zint_one  : Ctr Try.prog 159 [] (isZ 1) := by
  refine Ctr.intro Try.func159 rfl (by kernel_rfl) Try.ntmps159 rfl fun w0 F0 => ?_
  refine Tri.cv (Cv.wk .nil) ?_
  refine Tri.seq fun K1 hK1 => ?_
  refine Tri.region ?_
  refine Ops.alloc [isB false, SlM isU []] zero59 (fun _ _ => ⟨rfl, nilM _ _, trivial⟩) rfl fun b1 => ?_
  refine nl ?_
  refine At.thn (hK1 _ _ ?_); clear hK1
  refine Tri.seq fun K2 hK2 => ?_
  refine Tri.region ?_
  refine st (OK1.call (zint_Of) (.cons (Has.cI 1 rfl) .nil)) rfl ?_
  refine Ops.store (Has.t rfl) (Has.t rfl) (i := 0) rfl ty59 rfl rfl (Ss' := [_, _]) rfl (M' := [(some _, cellM [_, _])]) rfl ?_
  refine nl ?_
  refine At.thn (hK2 _ _ ?_); clear hK2
  refine Tri.ret ?_
  refine rt1 (.inl rfl) Try.results159 rfl (.cell rfl (i := 0) rfl ty59 rfl ?_ .nil)
  all_goals (rfl)
set_option maxHeartbeats 4000000 in
theorem zint_Euclid {m n : Bool} {xs ys : List Nat} (hx : (List.length (words (val xs))) < 4294700000) (hy : (List.length (words (val ys))) < 4294700000) : Ctr Try.prog 142 [Flat [isB m, isWords xs], Flat [isB n, isWords ys]] (isTup [isZ (zv m xs / zv n ys), isZ (if zv n ys = 0 then 0 else zv m xs % zv n ys), isB (decide (zv n ys ≠ 0))]) := by
  refine Ctr.intro Try.func142 rfl (by kernel_rfl) Try.ntmps142 rfl fun w0 F0 => ?_
  refine Tri.cv (Cv.wk (.cons (t := 0) (Has.t rfl) (.cons (t := 1) (Has.t rfl) .nil))) ?_
  refine Tri.fact (Has.okZ (Has.t (t := 0) rfl)) fun okz0 => ?_
  refine Tri.fact (Has.okZ (Has.t (t := 1) rfl)) fun okz1 => ?_
  have ha := nz_tdiv (zv m xs) (zv n ys)
  have hb := nz_if (zv m xs) (zv n ys)
  have hxx := zv_nw m xs
  have hyy := zv_nw n ys
  have h1 := nz_one
  refine Tri.seq fun K1 hK1 => ?_
  refine Tri.region ?_
  refine Ops.box (Has.t rfl) rfl fun b1 => ?_
  refine Ops.box (Has.t rfl) rfl fun b2 => ?_
  refine Ops.alloc [isB false, SlM isU []] zero59 (fun _ _ => ⟨rfl, nilM _ _, trivial⟩) rfl fun b3 => ?_
  refine Ops.alloc [isB false, SlM isU []] zero59 (fun _ _ => ⟨rfl, nilM _ _, trivial⟩) rfl fun b4 => ?_
  refine st (OK1.as (Has.cB false)) rfl ?_
  refine nl ?_
  refine At.thn (hK1 _ _ ?_); clear hK1
  refine Tri.seq fun K2 hK2 => ?_
  refine Tri.region ?_
  refine st (OK1.load (Has.t rfl) (i := 3) rfl ty59 rfl (Ss' := [_, _]) rfl) rfl ?_
  refine st (OK1.load (Has.t rfl) (i := 2) rfl ty59 rfl (Ss' := [_, _]) rfl) rfl ?_
  refine st (OK1.call (zint_Quo (by first | with_reducible assumption | omega | (simp only [val_words, zv_nf]; omega) | (simp only [val_words]; exact Nat.le_trans (nw_small' (by omega)) (by decide))) (by first | with_reducible assumption | omega | (simp only [val_words, zv_nf]; omega) | (simp only [val_words]; exact Nat.le_trans (nw_small' (by omega)) (by decide)))) (.cons (Has.t rfl) (.cons (Has.t rfl) .nil))) rfl ?_
  refine st (OK1.mv (Has.t rfl)) rfl ?_
  refine st (OK1.ext (Has.t rfl) rfl) rfl ?_
  refine st (OK1.ext (Has.t rfl) rfl) rfl ?_
  refine st (OK1.ext (Has.t rfl) rfl) rfl ?_
  refine Ops.alloc [isB false, SlM isU []] zero59 (fun _ _ => ⟨rfl, nilM _ _, trivial⟩) rfl fun b5 => ?_
  refine Ops.alloc [isB false, SlM isU []] zero59 (fun _ _ => ⟨rfl, nilM _ _, trivial⟩) rfl fun b6 => ?_
  refine Ops.store (Has.t rfl) (Has.t rfl) (i := 1) rfl ty59 rfl rfl (Ss' := [_, _]) rfl (M' := [_, (some _, cellM [_, _]), _, _, _, _]) rfl ?_
  refine Ops.store (Has.t rfl) (Has.t rfl) (i := 0) rfl ty59 rfl rfl (Ss' := [_, _]) rfl (M' := [(some _, cellM [_, _]), _, _, _, _, _]) rfl ?_
  refine st (OK1.as (Has.t rfl)) rfl ?_
  refine nl ?_
  refine At.thn (hK2 _ _ ?_); clear hK2
  refine Tri.cv (Cv.wk (.cons (t := 3) (Has.t rfl) (.cons (t := 4) (Has.t rfl) (.cons (t := 5) (Has.t rfl) (.cons (t := 6) (Has.t rfl) (.cons (t := 7) (Has.t rfl) (.cons (t := 8) (Has.t rfl) (.cons (t := 9) (Has.t rfl) .nil)))))))) ?_
  refine Tri.seq fun K3 hK3 => ?_
  refine Tri.block ?_
  refine Tri.seq fun K4 hK4 => ?_
  refine Tri.region ?_
  refine st (OK1.mv (Has.t rfl)) rfl ?_
  refine st (OK1.not (Has.t rfl)) rfl ?_
  refine st (OK1.mv (Has.t rfl)) rfl ?_
  refine stF rfl rfl (fun hg => have hg' := BP.t hg; OK1.load (Has.t rfl) (i := 0) rfl ty59 rfl (Ss' := [_, _]) rfl) rfl ?_
  refine stF rfl rfl (fun hg => have hg' := BP.t hg; OK1.eq (OK1.call (zint_Sign (by first | with_reducible assumption | omega | (simp only [val_words, zv_nf]; omega) | (simp only [val_words]; exact Nat.le_trans (nw_small' (by omega)) (by decide)))) (.cons (Has.g rfl hg) .nil)) (by first | (simp only [val_words, zv_nf]; rfl) | rfl)) rfl ?_
  refine stF rfl rfl (fun hg => have hg' := BP.t hg; OK1.geI (Has.g rfl hg) (Has.cI 0 rfl)) rfl ?_
  refine st (OK1.pickOr (Has.t rfl) (fun h => Has.g rfl (ng h))) rfl ?_
  refine st (OK1.as (Has.t rfl)) rfl ?_
  refine nl ?_
  refine At.thn (hK4 _ _ ?_); clear hK4
  refine Tri.cv (Cv.wk (.cons (t := 3) (Has.t rfl) (.cons (t := 4) (Has.t rfl) (.cons (t := 5) (Has.t rfl) (.cons (t := 6) (Has.t rfl) (.cons (t := 7) (Has.t rfl) (.cons (t := 8) (Has.t rfl) (.cons (t := 9) (Has.t rfl) (.cons (t := 17) (Has.t rfl) .nil))))))))) ?_
  refine Tri.cond (Has.t rfl) (fun hc1 => ?_) (fun hc1 => ?_)
  · have hc1 := BP.t hc1
    have HE := euc0 hc1
    refine Tri.seq fun K5 hK5 => ?_
    refine Tri.drh [true, true, false, false, true, true] (Ms := [_, _, _, _]) rfl ?_
    refine DrH.st (i := 0) [] rfl rfl rfl (by kernel_rfl) (OKG.o rfl (OK1.load (Has.t rfl) (i := 1) rfl ty59 rfl (Ss' := [_, _]) rfl)) ?_
    refine DrH.st (i := 1) [] rfl rfl rfl (by kernel_rfl) (OKG.o rfl (OK1.load (Has.t rfl) (i := 0) rfl ty59 rfl (Ss' := [_, _]) rfl)) ?_
    refine DrH.st (i := 2) [] rfl rfl rfl (by kernel_rfl) (OKG.o rfl (OK1.mv (Has.t rfl))) ?_
    refine DrH.mid (.cons_cons _ (.cons_cons _ (.cons _ (.cons _ (.cons_cons _ (.cons_cons _ .slnil)))))) ?_
    refine DrM.st [25] rfl rfl (by kernel_rfl) (by kernel_rfl) (StS.store (Has.t rfl) (Has.t rfl) (i := 3) rfl ty59 rfl rfl (Ss' := [_, _]) rfl (M' := [_, _, _, (some _, cellM [_, _]), _, _]) rfl) (.cons_cons _ (.cons_cons _ (.cons _ (.cons _ (.cons_cons _ (.cons_cons _ .slnil)))))) ?_
    refine DrM.st [26] rfl rfl (by kernel_rfl) (by kernel_rfl) (StS.store (Has.t rfl) (Has.t rfl) (i := 2) rfl ty59 rfl rfl (Ss' := [_, _]) rfl (M' := [_, _, (some _, cellM [_, _]), _, _, _]) rfl) (.cons_cons _ (.cons_cons _ (.cons _ (.cons _ (.cons_cons _ (.cons_cons _ .slnil)))))) ?_
    refine DrM.fin (n := 5) mixed rfl (by kernel_rfl) (by kernel_rfl) (by kernel_rfl) ?_
    refine Ops.cv (Cv.wk (.cons (t := 3) (Has.t rfl) (.cons (t := 4) (Has.t rfl) (.cons (t := 5) (Has.t rfl) (.cons (t := 6) (Has.t rfl) (.cons (t := 7) (Has.t rfl) (.cons (t := 8) (Has.t rfl) (.cons (t := 27) (Has.t rfl) .nil)))))))) ?_
    refine st (OK1.as (Has.t rfl)) rfl ?_
    refine nl ?_
    refine At.thn (hK5 _ _ ?_); clear hK5
    refine Tri.ret ?_
    refine At.blr ?_
    refine At.thr ?_
    refine rtN (.inl rfl) Try.results142 rfl rfl (.cell rfl (i := 3) rfl ty59 rfl ?_ (.cell rfl (i := 2) rfl ty59 rfl ?_ (.tmp (Has.t' rfl ?_) .nil)))
    · exact isZ_eq HE.1
    · exact isZ_eq HE.2
    · rfl
  · have hc1 := BP.f hc1
    have HE := hc1
    refine Tri.seq fun K6 hK6 => ?_
    refine Tri.region ?_
    refine st (OK1.load (Has.t rfl) (i := 4) rfl ty59 rfl (Ss' := [_, _]) rfl) rfl ?_
    refine st (OK1.call (zint_Sign (by first | with_reducible assumption | omega | (simp only [val_words, zv_nf]; omega) | (simp only [val_words]; exact Nat.le_trans (nw_small' (by omega)) (by decide)))) (.cons (Has.t rfl) .nil)) rfl ?_
    refine st (OK1.gtI (Has.t rfl) (Has.cI 0 rfl)) rfl ?_
    refine st (OK1.as (Has.t rfl)) rfl ?_
    refine nl ?_
    refine At.thn (hK6 _ _ ?_); clear hK6
    refine Tri.cv (Cv.wk (.cons (t := 3) (Has.t rfl) (.cons (t := 4) (Has.t rfl) (.cons (t := 5) (Has.t rfl) (.cons (t := 6) (Has.t rfl) (.cons (t := 7) (Has.t rfl) (.cons (t := 8) (Has.t rfl) (.cons (t := 28) (Has.t rfl) .nil)))))))) ?_
    refine Tri.cond (Has.t rfl) (fun hc2 => ?_) (fun hc2 => ?_)
    · have hc2 := BP.t hc2
      have HE2 := euc1 HE hc2
      refine Tri.seq fun K7 hK7 => ?_
      refine Tri.dr ?_
      refine DrG.st (i := 0) [] rfl rfl rfl (by kernel_rfl) (OKG.o rfl (OK1.load (Has.t rfl) (i := 1) rfl ty59 rfl (Ss' := [_, _]) rfl)) ?_
      refine DrG.st (i := 1) [] rfl rfl rfl (by kernel_rfl) (OKG.o rfl (OK1.call (zint_one) .nil)) ?_
      refine DrG.st (i := 2) [32, 33] rfl rfl rfl (by kernel_rfl) (OKG.o rfl (OK1.eq (OK1.call (zint_Sub (by first | with_reducible assumption | omega | (simp only [val_words, zv_nf]; omega) | (simp only [val_words]; exact Nat.le_trans (nw_small' (by omega)) (by decide))) (by first | with_reducible assumption | omega | (simp only [val_words, zv_nf]; omega) | (simp only [val_words]; exact Nat.le_trans (nw_small' (by omega)) (by decide)))) (.cons (Has.t rfl) (.cons (Has.t rfl) .nil))) (by first | (simp only [val_words, zv_nf]; rfl) | rfl))) ?_
      refine DrG.st (i := 3) [] rfl rfl rfl (by kernel_rfl) (OKG.o rfl (OK1.load (Has.t rfl) (i := 0) rfl ty59 rfl (Ss' := [_, _]) rfl)) ?_
      refine DrG.st (i := 4) [] rfl rfl rfl (by kernel_rfl) (OKG.o rfl (OK1.load (Has.t rfl) (i := 4) rfl ty59 rfl (Ss' := [_, _]) rfl)) ?_
      refine DrG.fin (n := 5) mixed (by kernel_rfl) (by kernel_rfl) (by kernel_rfl) ?_
      refine Ops.cv (Cv.wk (.cons (t := 3) (Has.t rfl) (.cons (t := 4) (Has.t rfl) (.cons (t := 5) (Has.t rfl) (.cons (t := 6) (Has.t rfl) (.cons (t := 7) (Has.t rfl) (.cons (t := 8) (Has.t rfl) (.cons (t := 34) (Has.t rfl) (.cons (t := 35) (Has.t rfl) (.cons (t := 36) (Has.t rfl) .nil)))))))))) ?_
      refine st (OK1.eq (OK1.call (zint_Add (by first | with_reducible assumption | omega | (simp only [val_words, zv_nf]; omega) | (simp only [val_words]; exact Nat.le_trans (nw_small' (by omega)) (by decide))) (by first | with_reducible assumption | omega | (simp only [val_words, zv_nf]; omega) | (simp only [val_words]; exact Nat.le_trans (nw_small' (by omega)) (by decide)))) (.cons (Has.t rfl) (.cons (Has.t rfl) .nil))) (by first | (simp only [val_words, zv_nf]; rfl) | rfl)) rfl ?_
      refine Ops.store (Has.t rfl) (Has.t rfl) (i := 3) rfl ty59 rfl rfl (Ss' := [_, _]) rfl (M' := [_, _, _, (some _, cellM [_, _]), _, _]) rfl ?_
      refine Ops.store (Has.t rfl) (Has.t rfl) (i := 2) rfl ty59 rfl rfl (Ss' := [_, _]) rfl (M' := [_, _, (some _, cellM [_, _]), _, _, _]) rfl ?_
      refine st (OK1.as (Has.cB true)) rfl ?_
      refine nl ?_
      refine At.thn (hK7 _ _ ?_); clear hK7
      refine Tri.ret ?_
      refine At.blr ?_
      refine At.thr ?_
      refine rtN (.inl rfl) Try.results142 rfl rfl (.cell rfl (i := 3) rfl ty59 rfl ?_ (.cell rfl (i := 2) rfl ty59 rfl ?_ (.tmp (Has.t' rfl ?_) .nil)))
      · exact isZ_eq HE2.1
      · exact isZ_eq HE2.2
      · exact isB_eq (decide_eq_true HE.1).symm
    · have hc2 := BP.f hc2
      have HE2 := euc2 HE hc2
      refine Tri.skip ?_
      refine At.bln ?_
      refine At.thn (hK3 _ _ ?_); clear hK3
      refine Tri.seq fun K8 hK8 => ?_
      refine Tri.dr ?_
      refine DrG.st (i := 0) [] rfl rfl rfl (by kernel_rfl) (OKG.o rfl (OK1.load (Has.t rfl) (i := 1) rfl ty59 rfl (Ss' := [_, _]) rfl)) ?_
      refine DrG.st (i := 1) [] rfl rfl rfl (by kernel_rfl) (OKG.o rfl (OK1.call (zint_one) .nil)) ?_
      refine DrG.st (i := 2) [38, 39] rfl rfl rfl (by kernel_rfl) (OKG.o rfl (OK1.eq (OK1.call (zint_Add (by first | with_reducible assumption | omega | (simp only [val_words, zv_nf]; omega) | (simp only [val_words]; exact Nat.le_trans (nw_small' (by omega)) (by decide))) (by first | with_reducible assumption | omega | (simp only [val_words, zv_nf]; omega) | (simp only [val_words]; exact Nat.le_trans (nw_small' (by omega)) (by decide)))) (.cons (Has.t rfl) (.cons (Has.t rfl) .nil))) (by first | (simp only [val_words, zv_nf]; rfl) | rfl))) ?_
      refine DrG.st (i := 3) [] rfl rfl rfl (by kernel_rfl) (OKG.o rfl (OK1.load (Has.t rfl) (i := 0) rfl ty59 rfl (Ss' := [_, _]) rfl)) ?_
      refine DrG.st (i := 4) [] rfl rfl rfl (by kernel_rfl) (OKG.o rfl (OK1.load (Has.t rfl) (i := 4) rfl ty59 rfl (Ss' := [_, _]) rfl)) ?_
      refine DrG.fin (n := 5) mixed (by kernel_rfl) (by kernel_rfl) (by kernel_rfl) ?_
      refine Ops.cv (Cv.wk (.cons (t := 4) (Has.t rfl) (.cons (t := 5) (Has.t rfl) (.cons (t := 6) (Has.t rfl) (.cons (t := 40) (Has.t rfl) (.cons (t := 41) (Has.t rfl) (.cons (t := 42) (Has.t rfl) .nil))))))) ?_
      refine st (OK1.eq (OK1.call (zint_Sub (by first | with_reducible assumption | omega | (simp only [val_words, zv_nf]; omega) | (simp only [val_words]; exact Nat.le_trans (nw_small' (by omega)) (by decide))) (by first | with_reducible assumption | omega | (simp only [val_words, zv_nf]; omega) | (simp only [val_words]; exact Nat.le_trans (nw_small' (by omega)) (by decide)))) (.cons (Has.t rfl) (.cons (Has.t rfl) .nil))) (by first | (simp only [val_words, zv_nf]; rfl) | rfl)) rfl ?_
      refine Ops.store (Has.t rfl) (Has.t rfl) (i := 3) rfl ty59 rfl rfl (Ss' := [_, _]) rfl (M' := [_, _, _, (some _, cellM [_, _]), _, _]) rfl ?_
      refine Ops.store (Has.t rfl) (Has.t rfl) (i := 2) rfl ty59 rfl rfl (Ss' := [_, _]) rfl (M' := [_, _, (some _, cellM [_, _]), _, _, _]) rfl ?_
      refine st (OK1.as (Has.cB true)) rfl ?_
      refine nl ?_
      refine At.thn (hK8 _ _ ?_); clear hK8
      refine Tri.ret ?_
      refine rtN (.inl rfl) Try.results142 rfl rfl (.cell rfl (i := 3) rfl ty59 rfl ?_ (.cell rfl (i := 2) rfl ty59 rfl ?_ (.tmp (Has.t' rfl ?_) .nil)))
      · exact isZ_eq HE2.1
      · exact isZ_eq HE2.2
      · exact isB_eq (decide_eq_true HE.1).symm
set_option maxHeartbeats 4000000 in
theorem zint_Exact {m n : Bool} {xs ys : List Nat} (hx : (List.length (words (val xs))) < 4294700000) (hy : (List.length (words (val ys))) < 4294700000) : Ctr Try.prog 161 [Flat [isB m, isWords xs], Flat [isB n, isWords ys]] (isTup [isZ (if zv n ys ≠ 0 ∧ (zv m xs).tmod (zv n ys) = 0 then (zv m xs).tdiv (zv n ys) else 0), isB (decide (zv n ys ≠ 0 ∧ (zv m xs).tmod (zv n ys) = 0))]) := by
  refine Ctr.intro Try.func161 rfl (by kernel_rfl) Try.ntmps161 rfl fun w0 F0 => ?_
  refine Tri.cv (Cv.wk (.cons (t := 0) (Has.t rfl) (.cons (t := 1) (Has.t rfl) .nil))) ?_
  refine Tri.fact (Has.okZ (Has.t (t := 0) rfl)) fun okz0 => ?_
  refine Tri.fact (Has.okZ (Has.t (t := 1) rfl)) fun okz1 => ?_
  have ha := nz_tdiv (zv m xs) (zv n ys)
  have hb := nz_if (zv m xs) (zv n ys)
  have hxx := zv_nw m xs
  have hyy := zv_nw n ys
  have h1 := nz_one
  refine Tri.seq fun K1 hK1 => ?_
  refine Tri.region ?_
  refine Ops.box (Has.t rfl) rfl fun b1 => ?_
  refine Ops.box (Has.t rfl) rfl fun b2 => ?_
  refine Ops.alloc [isB false, SlM isU []] zero59 (fun _ _ => ⟨rfl, nilM _ _, trivial⟩) rfl fun b3 => ?_
  refine st (OK1.as (Has.cB false)) rfl ?_
  refine nl ?_
  refine At.thn (hK1 _ _ ?_); clear hK1
  refine Tri.seq fun K2 hK2 => ?_
  refine Tri.region ?_
  refine st (OK1.load (Has.t rfl) (i := 2) rfl ty59 rfl (Ss' := [_, _]) rfl) rfl ?_
  refine st (OK1.load (Has.t rfl) (i := 1) rfl ty59 rfl (Ss' := [_, _]) rfl) rfl ?_
  refine st (OK1.call (zint_Quo (by first | with_reducible assumption | omega | (simp only [val_words, zv_nf]; omega) | (simp only [val_words]; exact Nat.le_trans (nw_small' (by omega)) (by decide))) (by first | with_reducible assumption | omega | (simp only [val_words, zv_nf]; omega) | (simp only [val_words]; exact Nat.le_trans (nw_small' (by omega)) (by decide)))) (.cons (Has.t rfl) (.cons (Has.t rfl) .nil))) rfl ?_
  refine st (OK1.mv (Has.t rfl)) rfl ?_
  refine st (OK1.ext (Has.t rfl) rfl) rfl ?_
  refine st (OK1.ext (Has.t rfl) rfl) rfl ?_
  refine st (OK1.ext (Has.t rfl) rfl) rfl ?_
  refine Ops.alloc [isB false, SlM isU []] zero59 (fun _ _ => ⟨rfl, nilM _ _, trivial⟩) rfl fun b4 => ?_
  refine Ops.alloc [isB false, SlM isU []] zero59 (fun _ _ => ⟨rfl, nilM _ _, trivial⟩) rfl fun b5 => ?_
  refine Ops.store (Has.t rfl) (Has.t rfl) (i := 1) rfl ty59 rfl rfl (Ss' := [_, _]) rfl (M' := [_, (some _, cellM [_, _]), _, _, _]) rfl ?_
  refine Ops.store (Has.t rfl) (Has.t rfl) (i := 0) rfl ty59 rfl rfl (Ss' := [_, _]) rfl (M' := [(some _, cellM [_, _]), _, _, _, _]) rfl ?_
  refine st (OK1.as (Has.t rfl)) rfl ?_
  refine nl ?_
  refine At.thn (hK2 _ _ ?_); clear hK2
  refine Tri.cv (Cv.wk (.cons (t := 4) (Has.t rfl) (.cons (t := 5) (Has.t rfl) (.cons (t := 6) (Has.t rfl) (.cons (t := 7) (Has.t rfl) (.cons (t := 8) (Has.t rfl) .nil)))))) ?_
  refine Tri.seq fun K3 hK3 => ?_
  refine Tri.seq fun K4 hK4 => ?_
  refine Tri.region ?_
  refine st (OK1.mv (Has.t rfl)) rfl ?_
  refine st (OK1.not (Has.t rfl)) rfl ?_
  refine st (OK1.mv (Has.t rfl)) rfl ?_
  refine stF rfl rfl (fun hg => have hg' := BP.t hg; OK1.load (Has.t rfl) (i := 0) rfl ty59 rfl (Ss' := [_, _]) rfl) rfl ?_
  refine stF rfl rfl (fun hg => have hg' := BP.t hg; OK1.eq (OK1.call (zint_Sign (by first | with_reducible assumption | omega | (simp only [val_words, zv_nf]; omega) | (simp only [val_words]; exact Nat.le_trans (nw_small' (by omega)) (by decide)))) (.cons (Has.g rfl hg) .nil)) (by first | (simp only [val_words, zv_nf]; rfl) | rfl)) rfl ?_
  refine stF rfl rfl (fun hg => have hg' := BP.t hg; OK1.neI (Has.g rfl hg) (Has.cI 0 rfl)) rfl ?_
  refine st (OK1.pickOr (Has.t rfl) (fun h => Has.g rfl (ng h))) rfl ?_
  refine nl ?_
  refine At.thn (hK4 _ _ ?_); clear hK4
  refine Tri.cv (Cv.wk (.cons (t := 4) (Has.t rfl) (.cons (t := 5) (Has.t rfl) (.cons (t := 6) (Has.t rfl) (.cons (t := 22) (Has.t rfl) .nil))))) ?_
  refine Tri.cond (Has.t rfl) (fun hc1 => ?_) (fun hc1 => ?_)
  · have hc1 := BP.t hc1
    have HE := ex_no hc1
    refine Tri.seq fun K5 hK5 => ?_
    refine Tri.region ?_
    refine st (OK1.eq (OK1.build [isB false, SlM isU []] pl59 zero59 (fun _ _ => ⟨rfl, nilM _ _, trivial⟩) .nil (Z'' := [_, _]) rfl) (isZ0)) rfl ?_
    refine Ops.store (Has.t rfl) (Has.t rfl) (i := 2) rfl ty59 rfl rfl (Ss' := [_, _]) rfl (M' := [_, _, (some _, cellM [_, _]), _, _]) rfl ?_
    refine st (OK1.as (Has.cB false)) rfl ?_
    refine nl ?_
    refine At.thn (hK5 _ _ ?_); clear hK5
    refine Tri.ret ?_
    refine At.thr ?_
    refine rtN (.inl rfl) Try.results161 rfl rfl (.cell rfl (i := 2) rfl ty59 rfl ?_ (.tmp (Has.t' rfl ?_) .nil))
    · exact isZ_eq (if_neg HE).symm
    · exact isB_eq (decide_eq_false HE).symm
  · have hc1 := BP.f hc1
    have HE := ex_yes hc1
    refine Tri.skip ?_
    refine At.thn (hK3 _ _ ?_); clear hK3
    refine Tri.seq fun K6 hK6 => ?_
    refine Tri.region ?_
    refine st (OK1.load (Has.t rfl) (i := 1) rfl ty59 rfl (Ss' := [_, _]) rfl) rfl ?_
    refine Ops.store (Has.t rfl) (Has.t rfl) (i := 2) rfl ty59 rfl rfl (Ss' := [_, _]) rfl (M' := [_, _, (some _, cellM [_, _]), _, _]) rfl ?_
    refine st (OK1.as (Has.cB true)) rfl ?_
    refine nl ?_
    refine At.thn (hK6 _ _ ?_); clear hK6
    refine Tri.ret ?_
    refine rtN (.inl rfl) Try.results161 rfl rfl (.cell rfl (i := 2) rfl ty59 rfl ?_ (.tmp (Has.t' rfl ?_) .nil))
    · exact isZ_eq (if_pos HE).symm
    · exact isB_eq (decide_eq_true HE).symm
end Go.Proofs.Ytfoclelageohiaa
/- Contracts: matrices of whole numbers. -/
namespace Go.Proofs.Ytfoclelageohiaa
open Go.En Go.RowKit
set_option linter.unusedVariables false
set_option maxRecDepth 10000
open Go.Nt
open Go.Pz
open Go.Mz
set_option maxHeartbeats 4000000 in
theorem zmat_side {n : Int} : Ctr Try.prog 121 [isI n] (isB (decide (0 ≤ n) && decide (n ≤ 64))) := by
  refine Ctr.intro Try.func121 rfl (by kernel_rfl) Try.ntmps121 rfl fun w0 F0 => ?_
  refine Tri.cv (Cv.wk (.cons (t := 0) (Has.t rfl) .nil)) ?_
  refine Tri.fact (Has.rngI (Has.t (t := 0) rfl)) fun lt0 => ?_
  refine Tri.seq fun K1 hK1 => ?_
  refine Tri.region ?_
  refine st (OK1.as (Has.cB false)) rfl ?_
  refine nl ?_
  refine At.thn (hK1 _ _ ?_); clear hK1
  refine Tri.seq fun K2 hK2 => ?_
  refine Tri.region ?_
  refine st (OK1.mv (Has.t rfl)) rfl ?_
  refine st (OK1.geI (Has.t rfl) (Has.cI 0 rfl)) rfl ?_
  refine st (OK1.mv (Has.t rfl)) rfl ?_
  refine stT rfl rfl (fun hg => have hg' := BP.t hg; OK1.mv (Has.t rfl)) rfl ?_
  refine stT rfl rfl (fun hg => have hg' := BP.t hg; OK1.leI (Has.g rfl hg) (Has.cI 64 rfl)) rfl ?_
  refine st (OK1.pickAnd (Has.t rfl) (fun h => Has.g rfl h)) rfl ?_
  refine st (OK1.as (Has.t rfl)) rfl ?_
  refine nl ?_
  refine At.thn (hK2 _ _ ?_); clear hK2
  refine Tri.cv (Cv.wk (.cons (t := 2) (Has.t rfl) .nil)) ?_
  refine Tri.ret ?_
  refine rt1 (.inl rfl) Try.results121 rfl (.tmp (Has.t' rfl ?_) .nil)
  all_goals (rfl)
set_option maxHeartbeats 4000000 in
theorem zmat_Formed {r c : Int} {xs : List (Bool × List Nat)} : Ctr Try.prog 97 [isM r c xs] (isB (formB r c xs.length)) := by
  refine Ctr.intro Try.func97 rfl (by kernel_rfl) Try.ntmps97 rfl fun w0 F0 => ?_
  refine Tri.cv (Cv.wk (.cons (t := 0) (Has.t rfl) .nil)) ?_
  refine Tri.seq fun K1 hK1 => ?_
  refine Tri.region ?_
  refine Ops.box (Has.t rfl) rfl fun b1 => ?_
  refine st (OK1.as (Has.cB false)) rfl ?_
  refine nl ?_
  refine At.thn (hK1 _ _ ?_); clear hK1
  refine Tri.seq fun K2 hK2 => ?_
  refine Tri.region ?_
  refine st (OK1.fieldAddr (Has.t rfl) fld55_0 ty3) rfl ?_
  refine st (OK1.load1 (Has.t rfl) (i := 0) rfl ty3 rfl) rfl ?_
  refine st (OK1.call (zmat_side) (.cons (Has.t rfl) .nil)) rfl ?_
  refine st (OK1.mv (Has.t rfl)) rfl ?_
  refine stT rfl rfl (fun hg => have hg' := BP.t hg; OK1.fieldAddr (Has.t rfl) fld55_1 ty3) rfl ?_
  refine stT rfl rfl (fun hg => have hg' := BP.t hg; OK1.load1 (Has.g rfl hg) (i := 0) rfl ty3 rfl) rfl ?_
  refine stT rfl rfl (fun hg => have hg' := BP.t hg; OK1.call (zmat_side) (.cons (Has.g rfl hg) .nil)) rfl ?_
  refine st (OK1.pickAnd (Has.t rfl) (fun h => Has.g rfl h)) rfl ?_
  refine st (OK1.mv (Has.t rfl)) rfl ?_
  refine stT rfl rfl (fun hg => have hg' := BP.t hg; OK1.fieldAddr (Has.t rfl) fld55_2 ty53) rfl ?_
  refine stT rfl rfl (fun hg => have hg' := BP.t hg; OK1.load1 (Has.g rfl hg) (i := 0) rfl ty53 rfl) rfl ?_
  refine stT rfl rfl (fun hg => have hg' := BP.t hg; OK1.len sl53 (Has.g rfl hg)) rfl ?_
  refine stT rfl rfl (fun hg => have hg' := BP.t hg; OK1.fieldAddr (Has.t rfl) fld55_0 ty3) rfl ?_
  refine stT rfl rfl (fun hg => have hg' := BP.t hg; OK1.load1 (Has.g rfl hg) (i := 0) rfl ty3 rfl) rfl ?_
  refine stT rfl rfl (fun hg => have hg' := BP.t hg; OK1.fieldAddr (Has.t rfl) fld55_1 ty3) rfl ?_
  refine stT rfl rfl (fun hg => have hg' := BP.t hg; OK1.load1 (Has.g rfl hg) (i := 0) rfl ty3 rfl) rfl ?_
  refine stT rfl rfl (fun hg => have hg' := BP.t hg; OK1.mulI (Has.g rfl hg) (Has.g rfl hg) (by have := mul_bnd ⟨hg'.1, hg'.2⟩; omega) (by have := mul_bnd ⟨hg'.1, hg'.2⟩; omega)) rfl ?_
  refine stT rfl rfl (fun hg => have hg' := BP.t hg; OK1.eqI (Has.g rfl hg) (Has.g rfl hg)) rfl ?_
  refine st (OK1.pickAnd (Has.t rfl) (fun h => Has.g rfl h)) rfl ?_
  refine st (OK1.as (Has.t rfl)) rfl ?_
  refine nl ?_
  refine At.thn (hK2 _ _ ?_); clear hK2
  refine Tri.cv (Cv.wk (.cons (t := 2) (Has.t rfl) .nil)) ?_
  refine Tri.ret ?_
  refine rt1 (.inl rfl) Try.results97 rfl (.tmp (Has.t' rfl ?_) .nil)
  all_goals (rfl)
set_option maxHeartbeats 4000000 in
theorem zmat_get {r : Int} {C i k : Nat} {xs : List (Bool × List Nat)} (hx : xs.length ≤ 4096) (hl : i * C + k < xs.length) : Ctr Try.prog 100 [isM r (C : Int) xs, isI (i : Int), isI (k : Int)] (Flat (zc (xs.getD (i * C + k) (false, [])))) := by
  refine Ctr.intro Try.func100 rfl (by kernel_rfl) Try.ntmps100 rfl fun w0 F0 => ?_
  refine Tri.cv (Cv.wk (.cons (t := 0) (Has.t rfl) (.cons (t := 1) (Has.t rfl) (.cons (t := 2) (Has.t rfl) .nil)))) ?_
  refine Tri.fact (Has.rngI (Has.t (t := 1) rfl)) fun lt1 => ?_
  refine Tri.fact (Has.rngI (Has.t (t := 2) rfl)) fun lt2 => ?_
  have hcp : ((i : Int) * (C : Int)) = ((i * C : Nat) : Int) := (Int.natCast_mul i C).symm
  refine Tri.seq fun K1 hK1 => ?_
  refine Tri.region ?_
  refine Ops.box (Has.t rfl) rfl fun b1 => ?_
  refine Ops.alloc [isB false, SlM isU []] zero59 (fun _ _ => ⟨rfl, nilM _ _, trivial⟩) rfl fun b2 => ?_
  refine nl ?_
  refine At.thn (hK1 _ _ ?_); clear hK1
  refine Tri.seq fun K2 hK2 => ?_
  refine Tri.region ?_
  refine st (OK1.fieldAddr (Has.t rfl) fld55_2 ty53) rfl ?_
  refine st (OK1.load1 (Has.t rfl) (i := 1) rfl ty53 rfl) rfl ?_
  refine st (OK1.mv (Has.t rfl)) rfl ?_
  refine st (OK1.fieldAddr (Has.t rfl) fld55_1 ty3) rfl ?_
  refine st (OK1.load1 (Has.t rfl) (i := 1) rfl ty3 rfl) rfl ?_
  refine st (OK1.eq (OK1.mulI (Has.t rfl) (Has.t rfl) (by first | omega | (rw [hcp]; omega)) (by first | omega | (rw [hcp]; omega))) ((show isI _ = isI ((i * C : Nat) : Int) from isI_eq hcp))) rfl ?_
  refine st (OK1.mv (Has.t rfl)) rfl ?_
  refine st (OK1.eq (OK1.addI (Has.t rfl) (Has.t rfl) (by first | omega | (rw [hcp]; omega)) (by first | omega | (rw [hcp]; omega))) ((show isI _ = isI ((i * C + k : Nat) : Int) from isI_eq (by omega)))) rfl ?_
  refine st (OK1.ixK sl53 ty59 (Has.t rfl) (Has.t rfl) zc_len ⟨by omega, by omega⟩ (getD_some (d := (false, [])) (by first | omega | (simp only [Int.toNat_natCast, List.length_set]; omega)))) rfl ?_
  refine st (OK1.loadP (Has.t rfl) ty59 rfl (Ss' := [_, _]) rfl) rfl ?_
  refine Ops.store (Has.t rfl) (Has.t rfl) (i := 0) rfl ty59 rfl rfl (Ss' := [_, _]) rfl (M' := [(some _, cellM [_, _]), _]) rfl ?_
  refine nl ?_
  refine At.thn (hK2 _ _ ?_); clear hK2
  refine Tri.cv (Cv.wk (.cons (t := 6) (Has.t rfl) .nil)) ?_
  refine Tri.ret ?_
  refine rt1 (.inl rfl) Try.results100 rfl (.cell rfl (i := 0) rfl ty59 rfl ?_ .nil)
  all_goals (rfl)
set_option maxHeartbeats 4000000 in
theorem zmat_has {r c i : Int} {xs : List (Bool × List Nat)} : Ctr Try.prog 136 [isM r c xs, isI i] (isB (decide (0 ≤ i) && decide (i < r))) := by
  refine Ctr.intro Try.func136 rfl (by kernel_rfl) Try.ntmps136 rfl fun w0 F0 => ?_
  refine Tri.cv (Cv.wk (.cons (t := 0) (Has.t rfl) (.cons (t := 1) (Has.t rfl) .nil))) ?_
  refine Tri.fact (Has.rngI (Has.t (t := 1) rfl)) fun lt1 => ?_
  refine Tri.seq fun K1 hK1 => ?_
  refine Tri.region ?_
  refine Ops.box (Has.t rfl) rfl fun b1 => ?_
  refine st (OK1.as (Has.cB false)) rfl ?_
  refine nl ?_
  refine At.thn (hK1 _ _ ?_); clear hK1
  refine Tri.seq fun K2 hK2 => ?_
  refine Tri.region ?_
  refine st (OK1.mv (Has.t rfl)) rfl ?_
  refine st (OK1.geI (Has.t rfl) (Has.cI 0 rfl)) rfl ?_
  refine st (OK1.mv (Has.t rfl)) rfl ?_
  refine stT rfl rfl (fun hg => have hg' := BP.t hg; OK1.mv (Has.t rfl)) rfl ?_
  refine stT rfl rfl (fun hg => have hg' := BP.t hg; OK1.fieldAddr (Has.t rfl) fld55_0 ty3) rfl ?_
  refine stT rfl rfl (fun hg => have hg' := BP.t hg; OK1.load1 (Has.g rfl hg) (i := 0) rfl ty3 rfl) rfl ?_
  refine stT rfl rfl (fun hg => have hg' := BP.t hg; OK1.ltI (Has.g rfl hg) (Has.g rfl hg)) rfl ?_
  refine st (OK1.pickAnd (Has.t rfl) (fun h => Has.g rfl h)) rfl ?_
  refine st (OK1.as (Has.t rfl)) rfl ?_
  refine nl ?_
  refine At.thn (hK2 _ _ ?_); clear hK2
  refine Tri.cv (Cv.wk (.cons (t := 4) (Has.t rfl) .nil)) ?_
  refine Tri.ret ?_
  refine rt1 (.inl rfl) Try.results136 rfl (.tmp (Has.t' rfl ?_) .nil)
  all_goals (rfl)
end Go.Proofs.Ytfoclelageohiaa
/- Contracts: products and transposes of matrices. -/
namespace Go.Proofs.Ytfoclelageohiaa
open Go.En Go.RowKit
set_option linter.unusedVariables false
set_option maxRecDepth 10000
open Go.Nt
open Go.Pz
open Go.Mz
set_option maxHeartbeats 4000000 in
theorem zmat_At {R C i k : Nat} {xs : List (Bool × List Nat)} {K : Nat} (hx : Bd (vals xs) K) (hK : K ≤ 4000000000) (hR : R ≤ 64) (hC : C ≤ 64) (hl : xs.length = R * C) (hi : i < R) (hk : k < C) : Ctr Try.prog 106 [isM (R : Int) (C : Int) xs, isI (i : Int), isI (k : Int)] (isZ (cf (vals xs) (i * C + k))) := by
  refine Ctr.intro Try.func106 rfl (by kernel_rfl) Try.ntmps106 rfl fun w0 F0 => ?_
  refine Tri.cv (Cv.wk (.cons (t := 0) (Has.t rfl) (.cons (t := 1) (Has.t rfl) (.cons (t := 2) (Has.t rfl) .nil)))) ?_
  refine Tri.fact (Has.rngI (Has.t (t := 1) rfl)) fun lt1 => ?_
  refine Tri.fact (Has.rngI (Has.t (t := 2) rfl)) fun lt2 => ?_
  have hRC := side_le hR hC
  have hpl := place_lt hi hk
  have hfo := formB_true hR hC hl
  have hxr := hx.raw (i * C + k)
  refine Tri.seq fun K1 hK1 => ?_
  refine Tri.region ?_
  refine Ops.box (Has.t rfl) rfl fun b1 => ?_
  refine Ops.alloc [isB false, SlM isU []] zero59 (fun _ _ => ⟨rfl, nilM _ _, trivial⟩) rfl fun b2 => ?_
  refine nl ?_
  refine At.thn (hK1 _ _ ?_); clear hK1
  refine Tri.seq fun K2 hK2 => ?_
  refine Tri.seq fun K3 hK3 => ?_
  refine Tri.region ?_
  refine st (OK1.load (Has.t rfl) (i := 1) rfl ty55 rfl (Ss' := [_, _, _]) rfl) rfl ?_
  refine st (OK1.eq (OK1.call (zmat_Formed) (.cons (Has.t rfl) .nil)) ((show isB _ = isB true from isB_eq hfo))) rfl ?_
  refine st (OK1.not (Has.t rfl)) rfl ?_
  refine st (OK1.mv (Has.t rfl)) rfl ?_
  refine stF rfl rfl (fun hg => have hg' := BP.t hg; OK1.load (Has.t rfl) (i := 1) rfl ty55 rfl (Ss' := [_, _, _]) rfl) rfl ?_
  refine stF rfl rfl (fun hg => have hg' := BP.t hg; OK1.mv (Has.t rfl)) rfl ?_
  refine stF rfl rfl (fun hg => have hg' := BP.t hg; OK1.call (zmat_has) (.cons (Has.g rfl hg) (.cons (Has.g rfl hg) .nil))) rfl ?_
  refine stF rfl rfl (fun hg => have hg' := BP.t hg; OK1.not (Has.g rfl hg)) rfl ?_
  refine st (OK1.pickOr (Has.t rfl) (fun h => Has.g rfl (ng h))) rfl ?_
  refine st (OK1.mv (Has.t rfl)) rfl ?_
  refine stF rfl rfl (fun hg => have hg' := BP.t hg; OK1.mv (Has.t rfl)) rfl ?_
  refine stF rfl rfl (fun hg => have hg' := BP.t hg; OK1.ltI (Has.g rfl hg) (Has.cI 0 rfl)) rfl ?_
  refine st (OK1.pickOr (Has.t rfl) (fun h => Has.g rfl (ng h))) rfl ?_
  refine st (OK1.mv (Has.t rfl)) rfl ?_
  refine stF rfl rfl (fun hg => have hg' := BP.t hg; OK1.mv (Has.t rfl)) rfl ?_
  refine stF rfl rfl (fun hg => have hg' := BP.t hg; OK1.fieldAddr (Has.t rfl) fld55_1 ty3) rfl ?_
  refine stF rfl rfl (fun hg => have hg' := BP.t hg; OK1.load1 (Has.g rfl hg) (i := 1) rfl ty3 rfl) rfl ?_
  refine stF rfl rfl (fun hg => have hg' := BP.t hg; OK1.geI (Has.g rfl hg) (Has.g rfl hg)) rfl ?_
  refine st (OK1.pickOr (Has.t rfl) (fun h => Has.g rfl (ng h))) rfl ?_
  refine nl ?_
  refine At.thn (hK3 _ _ ?_); clear hK3
  refine Tri.cv (Cv.wk (.cons (t := 1) (Has.t rfl) (.cons (t := 2) (Has.t rfl) (.cons (t := 3) (Has.t rfl) (.cons (t := 6) (Has.t rfl) (.cons (t := 26) (Has.t rfl) .nil)))))) ?_
  refine Tri.cond (Has.t rfl) (fun hc1 => ?_) (fun hc1 => ?_)
  · have hc1 := BP.t hc1
    simp at hc1; omega
  · have hc1 := BP.f hc1
    refine Tri.skip ?_
    refine At.thn (hK2 _ _ ?_); clear hK2
    refine Tri.seq fun K4 hK4 => ?_
    refine Tri.region ?_
    refine st (OK1.load (Has.t rfl) (i := 1) rfl ty55 rfl (Ss' := [_, _, _]) rfl) rfl ?_
    refine st (OK1.mv (Has.t rfl)) rfl ?_
    refine st (OK1.mv (Has.t rfl)) rfl ?_
    refine st (OK1.call (zmat_get (i := i) (k := k) (by omega) (by omega)) (.cons (Has.t rfl) (.cons (Has.t rfl) (.cons (Has.t rfl) .nil)))) rfl ?_
    refine Ops.alloc [isB false, SlM isU []] zero59 (fun _ _ => ⟨rfl, nilM _ _, trivial⟩) rfl fun b3 => ?_
    refine Ops.store (Has.t rfl) (Has.t rfl) (i := 0) rfl ty59 rfl rfl (Ss' := [_, _]) rfl (M' := [(some _, cellM [_, _]), _, _]) rfl ?_
    refine nl ?_
    refine At.thn (hK4 _ _ ?_); clear hK4
    refine Tri.cv (Cv.wk (.cons (t := 6) (Has.t rfl) (.cons (t := 7) (Has.t rfl) .nil))) ?_
    refine Tri.seq fun K5 hK5 => ?_
    refine Tri.region ?_
    refine st (OK1.fieldAddr (Has.t rfl) fld59_1 ty57) rfl ?_
    refine st (OK1.load1 (Has.t rfl) (i := 0) rfl ty57 rfl) rfl ?_
    refine st (OK1.fieldAddr (Has.t rfl) fld59_0 ty4) rfl ?_
    refine st (OK1.load1 (Has.t rfl) (i := 0) rfl ty4 rfl) rfl ?_
    refine st (OK1.call (zint_From (by first | omega | assumption)) (.cons (Has.t rfl) (.cons (Has.t rfl) .nil))) rfl ?_
    refine Ops.store (Has.t rfl) (Has.t rfl) (i := 1) rfl ty59 rfl rfl (Ss' := [_, _]) rfl (M' := [_, (some _, cellM [_, _]), _]) rfl ?_
    refine nl ?_
    refine At.thn (hK5 _ _ ?_); clear hK5
    refine Tri.cv (Cv.wk (.cons (t := 6) (Has.t rfl) .nil)) ?_
    refine Tri.ret ?_
    refine rt1 (.inl rfl) Try.results106 rfl (.cell rfl (i := 1) rfl ty59 rfl ?_ .nil)
    all_goals (exact isZ_eq (by rw [cf_vals]))
end Go.Proofs.Ytfoclelageohiaa
/- Contracts: a matrix's rows, to be reckoned on. -/
namespace Go.Proofs.Ytfoclelageohiaa
open Go.En Go.RowKit
set_option linter.unusedVariables false
set_option maxRecDepth 10000
open Go.Nt
open Go.Pz
open Go.Mz
set_option maxHeartbeats 4000000 in
theorem bareiss_begun {R C K : Nat} {xs : List (Bool × List Nat)} (hx : Bd (vals xs) K) (hK : K ≤ 4000000000) (hR : R ≤ 64) (hC : C ≤ 64) (hl : xs.length = R * C) : CtrX Try.prog 123 [isM (R : Int) (C : Int) xs] ([]) (fun S M => ∃ bw gt rs, S = isPtr bw 0 ∧ M = wkM bw Gr.nil gt rs C [] 1 false ∧ rs.map Prod.snd = rowsOf R C (vals xs)) := by
  refine CtrX.intro Try.func123 rfl (by kernel_rfl) Try.ntmps123 rfl fun w0 F0 => ?_
  refine Tri.cv (Cv.wk (.cons (t := 0) (Has.t rfl) .nil)) ?_
  refine Tri.seq fun K1 hK1 => ?_
  refine Tri.region ?_
  refine Ops.box (Has.t rfl) rfl fun b1 => ?_
  refine st (OK1.as Has.cP) rfl ?_
  refine nl ?_
  refine At.thn (hK1 _ _ ?_); clear hK1
  refine Tri.seq fun K2 hK2 => ?_
  refine Tri.dr ?_
  refine DrG.st (i := 0) [] rfl rfl rfl (by kernel_rfl) (OKG.o rfl (OK1.fieldAddr (Has.t rfl) fld55_1 ty3)) ?_
  refine DrG.st (i := 1) [7] rfl rfl rfl (by kernel_rfl) (OKG.o rfl (OK1.load1 (Has.t rfl) (i := 0) rfl ty3 rfl)) ?_
  refine DrG.st (i := 2) [] rfl rfl rfl (by kernel_rfl) (OKG.o rfl (OK1.call (zint_Of) (.cons (Has.cI 1 rfl) .nil))) ?_
  refine DrG.fin (n := 3) mixed (by kernel_rfl) (by kernel_rfl) (by kernel_rfl) ?_
  refine Ops.cv (Cv.wk (.cons (t := 1) (Has.t rfl) (.cons (t := 2) (Has.t rfl) (.cons (t := 8) (Has.t rfl) (.cons (t := 9) (Has.t rfl) .nil))))) ?_
  refine st (OK1.build [nilS, isI 0, nilS, isB false, SlM isU [], isB false] pl111 zero111 (fun _ _ => ⟨rfl, ⟨rfl, by decide, by decide⟩, rfl, rfl, nilM _ _, rfl, trivial⟩) (.cons (Has.t rfl) rfl rfl rfl (.cons (Has.t rfl) rfl rfl rfl .nil)) (Z'' := [_, _, _, _, _, _]) rfl) rfl ?_
  refine Ops.box (Has.t rfl) rfl fun b2 => ?_
  refine st (OK1.as (Has.t rfl)) rfl ?_
  refine nl ?_
  refine At.thn (hK2 _ _ ?_); clear hK2
  refine Tri.seq fun K3 hK3 => ?_
  refine Tri.seq fun K4 hK4 => ?_
  refine Tri.cv (Cv.growF (Row) (i := 0) (o := 0) rfl rfl rfl) ?_
  refine Tri.memEq (M' := [grM rowV Gr.nil [], _, _]) rfl ?_
  refine Tri.region ?_
  refine st (OK1.fieldAddr (Has.t rfl) fld55_0 ty3) rfl ?_
  refine st (OK1.load1 (Has.t rfl) (i := 2) rfl ty3 rfl) rfl ?_
  refine st (OK1.mv (Has.cI 0 rfl)) rfl ?_
  refine nl ?_
  refine At.thn (hK4 _ _ ?_); clear hK4
  refine Tri.cv (Cv.wk (.cons (t := 1) (Has.t rfl) (.cons (t := 2) (Has.t rfl) (.cons (t := 3) (Has.t rfl) (.cons (t := 13) (Has.t rfl) (.cons (t := 14) (Has.t rfl) .nil)))))) ?_
  refine Tri.block ?_
  refine Tri.memEq (M' := (_ :: _ :: _ :: ([] : List Row).map rowM)) rfl ?_
  refine Tri.loopF [1, 2, 3, 13] (fun (z : { z : Nat × Gr Row × List Row // z.1 ≤ R ∧ z.2.2.map Prod.snd = rowsOf z.1 C (vals xs) }) => match z with | ⟨(i, gt, rs), hI⟩ => [(14, isI (i : Int))]) (fun M => fun (z : { z : Nat × Gr Row × List Row // z.1 ≤ R ∧ z.2.2.map Prod.snd = rowsOf z.1 C (vals xs) }) => match z with | ⟨(i, gt, rs), hI⟩ => (grM rowV gt rs :: (some b2, cellM [isGr gt rs.length, isI (C : Int), nilS, isB (decide ((1 : Int) < 0)), SlM isU (words (1 : Int).natAbs), isB false]) :: (some b1, cellM [isI (R : Int), isI (C : Int), SlK 2 zc xs]) :: rs.map rowM)) (fun (z : { z : Nat × Gr Row × List Row // z.1 ≤ R ∧ z.2.2.map Prod.snd = rowsOf z.1 C (vals xs) }) => match z with | ⟨(i, gt, rs), hI⟩ => R - i) (⟨(0, Gr.nil, []), Nat.zero_le _, rfl⟩) (Cv.mem (.cons (t := 14) (Has.t' rfl ?_) (.cons (t := 1) (Has.t rfl) (.cons (t := 2) (Has.t rfl) (.cons (t := 3) (Has.t rfl) (.cons (t := 13) (Has.t rfl) .nil))))) ?_) ?_
  · rfl
  · rfl
  rintro ⟨⟨i, gt, rs⟩, hI⟩ K5 hK5
  refine Tri.cv (Cv.wk (.cons (t := 14) (Has.t rfl) (.cons (t := 1) (Has.t rfl) (.cons (t := 2) (Has.t rfl) (.cons (t := 3) (Has.t rfl) (.cons (t := 13) (Has.t rfl) .nil)))))) ?_
  refine Tri.memEq (M' := (grM rowV gt rs :: (some b2, cellM [isGr gt rs.length, isI (C : Int), nilS, isB (decide ((1 : Int) < 0)), SlM isU (words (1 : Int).natAbs), isB false]) :: (some b1, cellM [isI (R : Int), isI (C : Int), SlK 2 zc xs]) :: rs.map rowM)) rfl ?_
  simp only [] at hI
  obtain ⟨hi, hrs⟩ := hI
  have hrl : rs.length = i := by have := congrArg List.length hrs; rwa [List.length_map, rowsOf_len] at this
  refine Tri.seq fun K6 hK6 => ?_
  refine Tri.region ?_
  refine st (OK1.ltI (Has.t rfl) (Has.t rfl)) rfl ?_
  refine nl ?_
  refine At.thn (hK6 _ _ ?_); clear hK6
  refine Tri.seq fun K7 hK7 => ?_
  refine Tri.cond (Has.t rfl) (fun hc1 => ?_) (fun hc1 => ?_)
  · have hc1 := BP.t hc1
    refine Tri.skip ?_
    refine At.thn (hK7 _ _ ?_); clear hK7
    refine Tri.seq fun K8 hK8 => ?_
    refine Tri.block ?_
    refine Tri.seq fun K9 hK9 => ?_
    refine Tri.region ?_
    refine st (OK1.mv (Has.t rfl)) rfl ?_
    refine st (OK1.as (Has.t rfl)) rfl ?_
    refine nl ?_
    refine At.thn (hK9 _ _ ?_); clear hK9
    refine Tri.seq fun K10 hK10 => ?_
    refine Tri.region ?_
    refine Ops.cv (Cv.grow0K (α := Bool × List Nat) zc) ?_
    refine st (OK1.as (Has.cGr (α := Bool × List Nat))) rfl ?_
    refine nl ?_
    refine At.thn (hK10 _ _ ?_); clear hK10
    refine Tri.seq fun K11 hK11 => ?_
    refine Tri.seq fun K12 hK12 => ?_
    refine Tri.region ?_
    refine st (OK1.fieldAddr (Has.t rfl) fld55_1 ty3) rfl ?_
    refine st (OK1.load1 (Has.t rfl) (i := 3) rfl ty3 rfl) rfl ?_
    refine st (OK1.mv (Has.cI 0 rfl)) rfl ?_
    refine nl ?_
    refine At.thn (hK12 _ _ ?_); clear hK12
    refine Tri.block ?_
    refine Tri.loopF [1, 2, 3, 13, 14, 15, 16, 4, 17, 18] (fun (z : { z : Nat × Gr (Bool × List Nat) // z.1 ≤ C }) => match z with | ⟨(k, g), hK2⟩ => [(19, isI (k : Int)), (5, isGr g (((List.range k).map fun k => cf (vals xs) (i * C + k)).map nz).length)]) (fun M => fun (z : { z : Nat × Gr (Bool × List Nat) // z.1 ≤ C }) => match z with | ⟨(k, g), hK2⟩ => (grMK zc g (((List.range k).map fun k => cf (vals xs) (i * C + k)).map nz) :: grM rowV gt rs :: (some b2, cellM [isGr gt rs.length, isI (C : Int), nilS, isB (decide ((1 : Int) < 0)), SlM isU (words (1 : Int).natAbs), isB false]) :: (some b1, cellM [isI (R : Int), isI (C : Int), SlK 2 zc xs]) :: rs.map rowM)) (fun (z : { z : Nat × Gr (Bool × List Nat) // z.1 ≤ C }) => match z with | ⟨(k, g), hK2⟩ => C - k) (⟨(0, Gr.nil), Nat.zero_le _⟩) (Cv.mem (.cons (t := 19) (Has.t' rfl ?_) (.cons (t := 5) (Has.t' rfl ?_) (.cons (t := 1) (Has.t rfl) (.cons (t := 2) (Has.t rfl) (.cons (t := 3) (Has.t rfl) (.cons (t := 13) (Has.t rfl) (.cons (t := 14) (Has.t rfl) (.cons (t := 15) (Has.t rfl) (.cons (t := 16) (Has.t rfl) (.cons (t := 4) (Has.t rfl) (.cons (t := 17) (Has.t rfl) (.cons (t := 18) (Has.t rfl) .nil)))))))))))) ?_) ?_
    · rfl
    · rfl
    · rfl
    rintro ⟨⟨k, g⟩, hK2⟩ K13 hK13
    refine Tri.cv (Cv.wk (.cons (t := 19) (Has.t rfl) (.cons (t := 5) (Has.t rfl) (.cons (t := 1) (Has.t rfl) (.cons (t := 2) (Has.t rfl) (.cons (t := 3) (Has.t rfl) (.cons (t := 13) (Has.t rfl) (.cons (t := 14) (Has.t rfl) (.cons (t := 15) (Has.t rfl) (.cons (t := 16) (Has.t rfl) (.cons (t := 4) (Has.t rfl) (.cons (t := 17) (Has.t rfl) (.cons (t := 18) (Has.t rfl) .nil))))))))))))) ?_
    refine Tri.memEq (M' := (grMK zc g (((List.range k).map fun k => cf (vals xs) (i * C + k)).map nz) :: grM rowV gt rs :: (some b2, cellM [isGr gt rs.length, isI (C : Int), nilS, isB (decide ((1 : Int) < 0)), SlM isU (words (1 : Int).natAbs), isB false]) :: (some b1, cellM [isI (R : Int), isI (C : Int), SlK 2 zc xs]) :: rs.map rowM)) rfl ?_
    simp only [] at hK2
    refine Tri.seq fun K14 hK14 => ?_
    refine Tri.region ?_
    refine st (OK1.ltI (Has.t rfl) (Has.t rfl)) rfl ?_
    refine nl ?_
    refine At.thn (hK14 _ _ ?_); clear hK14
    refine Tri.seq fun K15 hK15 => ?_
    refine Tri.cond (Has.t rfl) (fun hc2 => ?_) (fun hc2 => ?_)
    · have hc2 := BP.t hc2
      refine Tri.skip ?_
      refine At.thn (hK15 _ _ ?_); clear hK15
      refine Tri.seq fun K16 hK16 => ?_
      refine Tri.block ?_
      refine Tri.seq fun K17 hK17 => ?_
      refine Tri.region ?_
      refine st (OK1.mv (Has.t rfl)) rfl ?_
      refine st (OK1.as (Has.t rfl)) rfl ?_
      refine nl ?_
      refine At.thn (hK17 _ _ ?_); clear hK17
      refine Tri.region ?_
      refine st (OK1.mv (Has.t rfl)) rfl ?_
      refine st (OK1.load (Has.t rfl) (i := 3) rfl ty55 rfl (Ss' := [_, _, _]) rfl) rfl ?_
      refine st (OK1.mv (Has.t rfl)) rfl ?_
      refine st (OK1.mv (Has.t rfl)) rfl ?_
      refine st (OK1.call (zmat_At hx hK hR hC hl (i := i) (k := k) (by omega) (by omega)) (.cons (Has.t rfl) (.cons (Has.t rfl) (.cons (Has.t rfl) .nil)))) rfl ?_
      refine st (OK1.buildS [isB false, SlM isU []] sl53 ty59 zero59 (fun _ _ => ⟨rfl, nilM _ _, trivial⟩) rfl rfl (.cons (Has.t rfl) rfl rfl rfl .nil) rfl (S := SlK 2 zc [nz (cf (vals xs) (i * C + k))]) rfl) rfl ?_
      refine Ops.appendGK (fk := zc) (u := (false, [])) zc_len (by decide) (fun _ => inferInstance) sl53 ty59 zero59 (fun _ _ => ⟨rfl, nilM _ _, trivial⟩) by59 (Has.t rfl) (i := 0) rfl (Has.t rfl) (by rw [List.length_map, List.length_map, List.length_range]; show k + 1 ≤ _; omega) (by simp) rfl fun gr1 => ?_
      refine Ops.memEq (M' := (grMK _ _ _ :: _ :: _ :: _ :: _)) rfl ?_
      refine st (OK1.as (Has.t rfl)) rfl ?_
      refine nl ?_
      refine At.bln ?_
      refine At.thn (hK16 _ _ ?_); clear hK16
      refine Tri.region ?_
      refine st (OK1.addI (Has.t rfl) (Has.cI 1 rfl) (by first | omega | assumption) (by first | omega | assumption)) rfl ?_
      refine st (OK1.mv (Has.t rfl)) rfl ?_
      refine nl ?_
      refine At.thn ?_
      refine hK13 (⟨(k + 1, gr1), by show k + 1 ≤ C; omega⟩) _ _ ?_ (Cv.mem (.cons (t := 19) (Has.t' rfl ?_) (.cons (t := 5) (Has.t' rfl ?_) (.cons (t := 1) (Has.t rfl) (.cons (t := 2) (Has.t rfl) (.cons (t := 3) (Has.t rfl) (.cons (t := 13) (Has.t rfl) (.cons (t := 14) (Has.t rfl) (.cons (t := 15) (Has.t rfl) (.cons (t := 16) (Has.t rfl) (.cons (t := 4) (Has.t rfl) (.cons (t := 17) (Has.t rfl) (.cons (t := 18) (Has.t rfl) .nil)))))))))))) ?_)
      · show C - (k + 1) < C - k; omega
      · exact isI_eq (by omega)
      · exact isGr_eq (by rw [range_succ_nz, List.length_append])
      · exact grMK_eq (range_succ_nz _ _).symm
    · have hc2 := BP.f hc2
      refine Tri.exit ?_
      refine At.the ?_
      refine At.the ?_
      refine At.blh ?_
      refine At.thn (hK11 _ _ ?_); clear hK11
      refine Tri.region ?_
      refine st (OK1.mv (Has.t rfl)) rfl ?_
      refine st (OK1.mv (Has.t rfl)) rfl ?_
      refine st (OK1.nilc (Has.t rfl)) rfl ?_
      refine st (OK1.fieldAddr (Has.t rfl) fld111_0 ty109) rfl ?_
      refine st (OK1.load1 (Has.t rfl) (i := 2) rfl ty109 rfl) rfl ?_
      refine st (OK1.mv (Has.t rfl)) rfl ?_
      refine st (OK1.buildS [nilS] sl109 ty53 zero53 (fun _ _ => ⟨rfl, trivial⟩) rfl rfl (.cons (Has.t rfl) rfl rfl rfl .nil) rfl (S := SlM rowV [(g, ((List.range k).map fun k => cf (vals xs) (i * C + k)))]) rfl) rfl ?_
      refine Ops.appendG (f := rowV) (u := (Gr.nil, [])) sl109 ty53 zero53 (fun _ _ => ⟨gr0, trivial⟩) (fun _ => inferInstance) by53 (Has.t rfl) (i := 1) rfl (Has.t rfl) (by rw [hrl]; show i + 1 ≤ _; omega) (by simp) rfl fun gr1 => ?_
      refine Ops.memEq (M' := (_ :: grM _ _ _ :: _ :: _ :: _)) rfl ?_
      refine st (OK1.nilc (Has.t rfl)) rfl ?_
      refine st (OK1.fieldAddr (Has.t rfl) fld111_0 ty109) rfl ?_
      refine Ops.store (Has.t rfl) (Has.t rfl) (i := 2) rfl ty109 rfl rfl (Ss' := [_, _, _, _, _, _]) rfl (M' := (_ :: _ :: (some _, cellM [_, _, _, _, _, _]) :: _ :: _)) rfl ?_
      refine nl ?_
      refine At.bln ?_
      refine At.thn (hK8 _ _ ?_); clear hK8
      refine Tri.region ?_
      refine st (OK1.addI (Has.t rfl) (Has.cI 1 rfl) (by first | omega | assumption) (by first | omega | assumption)) rfl ?_
      refine st (OK1.mv (Has.t rfl)) rfl ?_
      refine nl ?_
      refine At.thn ?_
      have hkC : C = k := by omega
      subst hkC
      refine hK5 (⟨(i + 1, gr1, rs ++ [(g, ((List.range C).map fun k => cf (vals xs) (i * C + k)))]), by show i + 1 ≤ R; omega, by show (rs ++ [(g, ((List.range C).map fun k => cf (vals xs) (i * C + k)))]).map Prod.snd = _; rw [List.map_append, hrs, rowsOf_succ]; rfl⟩) _ _ ?_ (Cv.trans (Cv.perm perm_end) (Cv.mem (.cons (t := 14) (Has.t' rfl ?_) (.cons (t := 1) (Has.t rfl) (.cons (t := 2) (Has.t rfl) (.cons (t := 3) (Has.t rfl) (.cons (t := 13) (Has.t rfl) .nil))))) ?_))
      · show R - (i + 1) < R - i; omega
      · exact isI_eq (by omega)
      · show _ = grM rowV gr1 (rs ++ [_]) :: (some b2, cellM [isGr gr1 (rs ++ [_]).length, _, _, _, _, _]) :: _ :: (rs ++ [_]).map rowM; rw [List.map_append, List.length_append]; rfl
  · have hc1 := BP.f hc1
    refine Tri.exit ?_
    refine At.the ?_
    refine At.the ?_
    refine At.blh ?_
    refine At.thn (hK3 _ _ ?_); clear hK3
    refine Tri.seq fun K18 hK18 => ?_
    refine Tri.cv (Cv.growF (Int) (i := 1) (o := 2) rfl rfl rfl) ?_
    refine Tri.memEq (M' := (grM isI Gr.nil [] :: _ :: _ :: _ :: _)) rfl ?_
    refine Tri.cv (Cv.drop ((.cons_cons _ (.cons_cons _ (.cons_cons _ (.cons _ (List.Sublist.refl _))))))) ?_
    refine Tri.cv (Cv.wk (.cons (t := 2) (Has.t rfl) (.cons (t := 3) (Has.t rfl) (.cons (t := 13) (Has.t rfl) (.cons (t := 14) (Has.t rfl) (.cons (t := 15) (Has.t rfl) .nil)))))) ?_
    refine Tri.cv (Cv.perm perm_rot) ?_
    refine Tri.region ?_
    refine st (OK1.mv (Has.t rfl)) rfl ?_
    refine st (OK1.as (Has.t rfl)) rfl ?_
    refine nl ?_
    refine At.thn (hK18 _ _ ?_); clear hK18
    refine Tri.cv (Cv.wk (.cons (t := 2) (Has.t rfl) .nil)) ?_
    refine Tri.ret ?_
    refine rtX1 (.inl rfl) Try.results123 rfl (.tmp (Has.t rfl) .nil) ?_
    exact ⟨b2, gt, rs, rfl, rfl, by obtain rfl : i = R := (by omega); exact hrs⟩
end Go.Proofs.Ytfoclelageohiaa
/- Contracts: a row is looked for. -/
namespace Go.Proofs.Ytfoclelageohiaa
open Go.En Go.RowKit
set_option linter.unusedVariables false
set_option maxRecDepth 10000
open Go.Nt
open Go.Pz
open Go.Mz
set_option maxHeartbeats 4000000 in
theorem bareiss_find {bw C : Nat} {gp : Gr Int} {gt : Gr Row} {rs : List Row} {ps : List Nat} {last : Int} {odd : Bool} {K : Nat} (hrow : ∀ r ∈ rs, r.2.length = C) (hb : ∀ r ∈ rs, Bd r.2 K) (hC : C ≤ 64) (hR : rs.length ≤ 64) (hpl : ps.length ≤ 64) {col : Nat} (hcol : col < C) (hK : K ≤ 400000000) : CtrX Try.prog 147 [isPtr bw 0, isI (col : Int)] (wkM bw gp gt rs C ps last odd) (fun S M => ∃ rs' odd' ok, S = isB ok ∧ M = wkM bw gp gt rs' C ps last odd' ∧ FindR rs ps.length col odd rs' odd' ok) := by
  refine CtrX.intro Try.func147 rfl (by kernel_rfl) Try.ntmps147 rfl fun w0 F0 => ?_
  refine Tri.cv (Cv.wk (.cons (t := 0) (Has.t rfl) (.cons (t := 1) (Has.t rfl) .nil))) ?_
  refine Tri.fact (Has.rngI (Has.t (t := 1) rfl)) fun lt1 => ?_
  have hpv := pv_len ps
  refine Tri.seq fun K1 hK1 => ?_
  refine Tri.region ?_
  refine st (OK1.as (Has.cB false)) rfl ?_
  refine nl ?_
  refine At.thn (hK1 _ _ ?_); clear hK1
  refine Tri.seq fun K2 hK2 => ?_
  refine Tri.region ?_
  refine st (OK1.mv (Has.t rfl)) rfl ?_
  refine st (OK1.nilc (Has.t rfl)) rfl ?_
  refine st (OK1.fieldAddr (Has.t rfl) fld111_2 ty32) rfl ?_
  refine st (OK1.load1 (Has.t rfl) (i := 0) rfl ty32 rfl) rfl ?_
  refine st (OK1.eq (OK1.len sl32 (Has.t rfl)) ((show isI _ = isI (ps.length : Int) from isI_eq (by omega)))) rfl ?_
  refine st (OK1.eq (OK1.as (Has.t rfl)) ((show isI _ = isI (ps.length : Int) from isI_eq (by omega)))) rfl ?_
  refine nl ?_
  refine At.thn (hK2 _ _ ?_); clear hK2
  refine Tri.cv (Cv.wk (.cons (t := 0) (Has.t rfl) (.cons (t := 1) (Has.t rfl) (.cons (t := 4) (Has.t rfl) (.cons (t := 5) (Has.t rfl) .nil))))) ?_
  refine Tri.seq fun K3 hK3 => ?_
  refine Tri.seq fun K4 hK4 => ?_
  refine Tri.region ?_
  refine st (OK1.mv (Has.t rfl)) rfl ?_
  refine st (OK1.as (Has.t rfl)) rfl ?_
  refine nl ?_
  refine At.thn (hK4 _ _ ?_); clear hK4
  refine Tri.block ?_
  refine Tri.loopF [0, 1, 5] (fun (z : { i : Nat // ps.length ≤ i ∧ (i ≤ rs.length ∨ i = ps.length) ∧ ∀ (j : Nat) (r : Row), ps.length ≤ j → j < i → rs[j]? = some r → cf r.2 col = 0 }) => match z with | ⟨i, hi⟩ => [(6, isI (i : Int))]) (fun M => fun (z : { i : Nat // ps.length ≤ i ∧ (i ≤ rs.length ∨ i = ps.length) ∧ ∀ (j : Nat) (r : Row), ps.length ≤ j → j < i → rs[j]? = some r → cf r.2 col = 0 }) => match z with | ⟨i, hi⟩ => M) (fun (z : { i : Nat // ps.length ≤ i ∧ (i ≤ rs.length ∨ i = ps.length) ∧ ∀ (j : Nat) (r : Row), ps.length ≤ j → j < i → rs[j]? = some r → cf r.2 col = 0 }) => match z with | ⟨i, hi⟩ => rs.length - i) (⟨ps.length, Nat.le_refl _, .inr rfl, fun j r h1 h2 => absurd h2 (by omega)⟩) (Cv.mem (.cons (t := 6) (Has.t' rfl ?_) (.cons (t := 0) (Has.t rfl) (.cons (t := 1) (Has.t rfl) (.cons (t := 5) (Has.t rfl) .nil)))) ?_) ?_
  · exact isI_eq (by omega)
  · rfl
  rintro ⟨i, hi, hi2, hz⟩ K5 hK5
  refine Tri.cv (Cv.wk (.cons (t := 6) (Has.t rfl) (.cons (t := 0) (Has.t rfl) (.cons (t := 1) (Has.t rfl) (.cons (t := 5) (Has.t rfl) .nil))))) ?_
  refine Tri.seq fun K6 hK6 => ?_
  refine Tri.seq fun K7 hK7 => ?_
  refine Tri.region ?_
  refine st (OK1.mv (Has.t rfl)) rfl ?_
  refine st (OK1.mv (Has.t rfl)) rfl ?_
  refine st (OK1.nilc (Has.t rfl)) rfl ?_
  refine st (OK1.fieldAddr (Has.t rfl) fld111_0 ty109) rfl ?_
  refine st (OK1.load1 (Has.t rfl) (i := 0) rfl ty109 rfl) rfl ?_
  refine st (OK1.len sl109 (Has.t rfl)) rfl ?_
  refine st (OK1.ltI (Has.t rfl) (Has.t rfl)) rfl ?_
  refine nl ?_
  refine At.thn (hK7 _ _ ?_); clear hK7
  refine Tri.cond (Has.t rfl) (fun hc1 => ?_) (fun hc1 => ?_)
  · have hc1 := BP.t hc1
    obtain ⟨r, hr⟩ : ∃ r, rs[i]? = some r := ⟨_, List.getElem?_eq_getElem (by omega)⟩
    have hrC := hrow r (List.mem_of_getElem? hr)
    have hrB := hb r (List.mem_of_getElem? hr)
    have hrL : (r.2.map nz).length = C := by rw [List.length_map, hrC]
    refine Tri.skip ?_
    refine At.thn (hK6 _ _ ?_); clear hK6
    refine Tri.seq fun K8 hK8 => ?_
    refine Tri.block ?_
    refine Tri.seq fun K9 hK9 => ?_
    refine Tri.region ?_
    refine st (OK1.mv (Has.t rfl)) rfl ?_
    refine st (OK1.nilc (Has.t rfl)) rfl ?_
    refine st (OK1.fieldAddr (Has.t rfl) fld111_0 ty109) rfl ?_
    refine st (OK1.load1 (Has.t rfl) (i := 0) rfl ty109 rfl) rfl ?_
    refine st (OK1.mv (Has.t rfl)) rfl ?_
    refine st (OK1.ixGr sl109 ty53 (Has.t rfl) (Has.t rfl) ⟨by omega, by omega⟩) rfl ?_
    refine st (OK1.loadGM (Has.t rfl) (i := 2) rfl ty53 hr) rfl ?_
    refine st (OK1.mv (Has.t rfl)) rfl ?_
    refine st (OK1.ixGr sl53 ty59 (Has.t rfl) (Has.t rfl) ⟨by omega, by omega⟩) rfl ?_
    refine st (OK1.loadGK zc_len (Has.t rfl) (i := 3 + i) (wkAt (pre := [_, _, _]) hr) ty59 (getZ (i := col) (by omega))) rfl ?_
    refine st (OK1.eq (OK1.call (zint_Sign (by rw [val_words]; have := hrB col; omega)) (.cons (Has.t rfl) .nil)) ((show isI _ = isI (sgn (cf r.2 col)) from isI_eq (by rw [zv_nz])))) rfl ?_
    refine st (OK1.neI (Has.t rfl) (Has.cI 0 rfl)) rfl ?_
    refine nl ?_
    refine At.thn (hK9 _ _ ?_); clear hK9
    refine Tri.cond (Has.t rfl) (fun hc2 => ?_) (fun hc2 => ?_)
    · have hc2 := BP.t hc2
      have he : cf r.2 col ≠ 0 := fun e => hc2 ((sgn_eq0 _).2 e)
      refine Tri.seq fun K10 hK10 => ?_
      refine Tri.seq fun K11 hK11 => ?_
      refine Tri.region ?_
      refine st (OK1.mv (Has.t rfl)) rfl ?_
      refine st (OK1.mv (Has.t rfl)) rfl ?_
      refine st (OK1.neI (Has.t rfl) (Has.t rfl)) rfl ?_
      refine nl ?_
      refine At.thn (hK11 _ _ ?_); clear hK11
      refine Tri.cond (Has.t rfl) (fun hc3 => ?_) (fun hc3 => ?_)
      · have hc3 := BP.t hc3
        obtain ⟨rt, hrt⟩ : ∃ rt, rs[ps.length]? = some rt := ⟨_, List.getElem?_eq_getElem (by omega)⟩
        have hne : i ≠ ps.length := fun e => hc3 (congrArg Nat.cast e)
        refine Tri.seq fun K12 hK12 => ?_
        refine Tri.dry mixed ?_
        refine DrB.take (i := 0) rfl rfl rfl rfl (by kernel_rfl) (by kernel_rfl) (by kernel_rfl) (by kernel_rfl) (fun _ _ _ _ h => h) (OKY.mv (Has.t rfl)) ?_
        refine DrB.take (i := 1) rfl rfl rfl rfl (by kernel_rfl) (by kernel_rfl) (by kernel_rfl) (by kernel_rfl) (fun _ _ _ _ h => h) (OKY.nilc (Has.t rfl)) ?_
        refine DrB.take (i := 2) rfl rfl rfl rfl (by kernel_rfl) (by kernel_rfl) (by kernel_rfl) (by kernel_rfl) (fun _ _ _ _ h => h) (OKY.fieldAddr (Has.t rfl) fld111_0 ty109) ?_
        refine DrB.take (i := 4) rfl rfl rfl rfl (by kernel_rfl) (by kernel_rfl) (by kernel_rfl) (by kernel_rfl) (fun _ _ _ _ h => h) (OKY.mv (Has.t rfl)) ?_
        refine DrB.take (i := 5) rfl rfl rfl rfl (by kernel_rfl) (by kernel_rfl) (by kernel_rfl) (by kernel_rfl) (fun _ _ _ _ h => h) (OKY.mv (Has.t rfl)) ?_
        refine DrB.take (i := 6) rfl rfl rfl rfl (by kernel_rfl) (by kernel_rfl) (by kernel_rfl) (by kernel_rfl) (fun _ _ _ _ h => h) (OKY.nilc (Has.t rfl)) ?_
        refine DrB.take (i := 7) rfl rfl rfl rfl (by kernel_rfl) (by kernel_rfl) (by kernel_rfl) (by kernel_rfl) (fun _ _ _ _ h => h) (OKY.fieldAddr (Has.t rfl) fld111_0 ty109) ?_
        refine DrB.take (i := 9) rfl rfl rfl rfl (by kernel_rfl) (by kernel_rfl) (by kernel_rfl) (by kernel_rfl) (fun _ _ _ _ h => h) (OKY.mv (Has.t rfl)) ?_
        refine DrB.take (i := 10) rfl rfl rfl rfl (by kernel_rfl) (by kernel_rfl) (by kernel_rfl) (by kernel_rfl) (fun _ _ _ _ h => h) (OKY.mv (Has.t rfl)) ?_
        refine DrB.take (i := 11) rfl rfl rfl rfl (by kernel_rfl) (by kernel_rfl) (by kernel_rfl) (by kernel_rfl) (fun _ _ _ _ h => h) (OKY.nilc (Has.t rfl)) ?_
        refine DrB.take (i := 12) rfl rfl rfl rfl (by kernel_rfl) (by kernel_rfl) (by kernel_rfl) (by kernel_rfl) (fun _ _ _ _ h => h) (OKY.fieldAddr (Has.t rfl) fld111_0 ty109) ?_
        refine DrB.take (i := 14) rfl rfl rfl rfl (by kernel_rfl) (by kernel_rfl) (by kernel_rfl) (by kernel_rfl) (fun _ _ _ _ h => h) (OKY.mv (Has.t rfl)) ?_
        refine DrB.take (i := 17) rfl rfl rfl rfl (by kernel_rfl) (by kernel_rfl) (by kernel_rfl) (by kernel_rfl) (fun _ _ _ _ h => h) (OKY.mv (Has.t rfl)) ?_
        refine DrB.take (i := 18) rfl rfl rfl rfl (by kernel_rfl) (by kernel_rfl) (by kernel_rfl) (by kernel_rfl) (fun _ _ _ _ h => h) (OKY.nilc (Has.t rfl)) ?_
        refine DrB.take (i := 19) rfl rfl rfl rfl (by kernel_rfl) (by kernel_rfl) (by kernel_rfl) (by kernel_rfl) (fun _ _ _ _ h => h) (OKY.fieldAddr (Has.t rfl) fld111_0 ty109) ?_
        refine DrB.take (i := 21) rfl rfl rfl rfl (by kernel_rfl) (by kernel_rfl) (by kernel_rfl) (by kernel_rfl) (fun _ _ _ _ h => h) (OKY.mv (Has.t rfl)) ?_
        refine DrB.go [] ?_
        refine DrC.st (i := 3) [] rfl rfl rfl (by kernel_rfl) (by kernel_rfl) (OKG.o rfl (OK1.load1 (Has.t rfl) (i := 0) rfl ty109 rfl)) ?_
        refine DrC.st (i := 8) [] rfl rfl rfl (by kernel_rfl) (by kernel_rfl) (OKG.o rfl (OK1.load1 (Has.t rfl) (i := 0) rfl ty109 rfl)) ?_
        refine DrC.st (i := 13) [] rfl rfl rfl (by kernel_rfl) (by kernel_rfl) (OKG.o rfl (OK1.load1 (Has.t rfl) (i := 0) rfl ty109 rfl)) ?_
        refine DrC.st (i := 15) [50] rfl rfl rfl (by kernel_rfl) (by kernel_rfl) (OKG.o rfl (OK1.ixGr sl109 ty53 (Has.t rfl) (Has.t rfl) ⟨by omega, by omega⟩)) ?_
        refine DrC.st (i := 16) [52] rfl rfl rfl (by kernel_rfl) (by kernel_rfl) (OKG.o rfl (OK1.loadGM (Has.t rfl) (i := 2) rfl ty53 hrt)) ?_
        refine DrC.st (i := 20) [] rfl rfl rfl (by kernel_rfl) (by kernel_rfl) (OKG.o rfl (OK1.load1 (Has.t rfl) (i := 0) rfl ty109 rfl)) ?_
        refine DrC.st (i := 22) [57] rfl rfl rfl (by kernel_rfl) (by kernel_rfl) (OKG.o rfl (OK1.ixGr sl109 ty53 (Has.t rfl) (Has.t rfl) ⟨by omega, by omega⟩)) ?_
        refine DrC.st (i := 23) [59] rfl rfl rfl (by kernel_rfl) (by kernel_rfl) (OKG.o rfl (OK1.loadGM (Has.t rfl) (i := 2) rfl ty53 hr)) ?_
        refine DrC.fin [24, 25, 26, 27] (by kernel_rfl) (by kernel_rfl) (fun _ _ _ _ _ h => h) (by kernel_rfl) (by kernel_rfl) (by kernel_rfl) (by kernel_rfl) (by kernel_rfl) (by kernel_rfl) (by kernel_rfl) (by kernel_rfl) (by kernel_rfl) ?_
        refine Ops.cv (Cv.wk (.cons (t := 0) (Has.t rfl) (.cons (t := 1) (Has.t rfl) (.cons (t := 5) (Has.t rfl) (.cons (t := 6) (Has.t rfl) (.cons (t := 13) (Has.t rfl) (.cons (t := 14) (Has.t rfl) (.cons (t := 15) (Has.t rfl) (.cons (t := 16) (Has.t rfl) (.cons (t := 17) (Has.t rfl) (.cons (t := 18) (Has.t rfl) (.cons (t := 19) (Has.t rfl) (.cons (t := 22) (Has.t rfl) (.cons (t := 23) (Has.t rfl) (.cons (t := 24) (Has.t rfl) (.cons (t := 25) (Has.t rfl) (.cons (t := 26) (Has.t rfl) (.cons (t := 27) (Has.t rfl) (.cons (t := 28) (Has.t rfl) (.cons (t := 29) (Has.t rfl) (.cons (t := 30) (Has.t rfl) (.cons (t := 31) (Has.t rfl) (.cons (t := 32) (Has.t rfl) (.cons (t := 33) (Has.t rfl) (.cons (t := 34) (Has.t rfl) (.cons (t := 35) (Has.t rfl) (.cons (t := 36) (Has.t rfl) (.cons (t := 37) (Has.t rfl) (.cons (t := 38) (Has.t rfl) (.cons (t := 39) (Has.t rfl) (.cons (t := 41) (Has.t rfl) (.cons (t := 42) (Has.t rfl) (.cons (t := 43) (Has.t rfl) (.cons (t := 44) (Has.t rfl) (.cons (t := 46) (Has.t rfl) (.cons (t := 47) (Has.t rfl) (.cons (t := 48) (Has.t rfl) (.cons (t := 49) (Has.t rfl) (.cons (t := 51) (Has.t rfl) (.cons (t := 54) (Has.t rfl) (.cons (t := 55) (Has.t rfl) (.cons (t := 56) (Has.t rfl) (.cons (t := 58) (Has.t rfl) (.cons (t := 40) (Has.t rfl) (.cons (t := 45) (Has.t rfl) (.cons (t := 50) (Has.t rfl) (.cons (t := 52) (Has.t rfl) (.cons (t := 53) (Has.t rfl) (.cons (t := 57) (Has.t rfl) (.cons (t := 59) (Has.t rfl) (.cons (t := 60) (Has.t rfl) .nil))))))))))))))))))))))))))))))))))))))))))))))))))) ?_
        refine st (OK1.ixGr sl109 ty53 (Has.t rfl) (Has.t rfl) ⟨by omega, by omega⟩) rfl ?_
        refine Ops.storeGM (z := rt) (Has.t rfl) (Has.t rfl) (i := 2) rfl ty53 (by omega) (M' := (_ :: _ :: grM _ _ _ :: _)) rfl ?_
        refine st (OK1.ixGr sl109 ty53 (Has.t rfl) (Has.t rfl) ⟨by omega, by omega⟩) rfl ?_
        refine Ops.storeGM (z := r) (Has.t rfl) (Has.t rfl) (i := 2) rfl ty53 (by rw [List.length_set]; omega) (M' := (_ :: _ :: grM _ _ _ :: _)) rfl ?_
        refine nl ?_
        refine At.thn (hK12 _ _ ?_); clear hK12
        refine Tri.region ?_
        refine st (OK1.mv (Has.t rfl)) rfl ?_
        refine st (OK1.mv (Has.t rfl)) rfl ?_
        refine st (OK1.nilc (Has.t rfl)) rfl ?_
        refine st (OK1.fieldAddr (Has.t rfl) fld111_4 ty4) rfl ?_
        refine st (OK1.load1 (Has.t rfl) (i := 0) rfl ty4 rfl) rfl ?_
        refine st (OK1.not (Has.t rfl)) rfl ?_
        refine st (OK1.nilc (Has.t rfl)) rfl ?_
        refine st (OK1.fieldAddr (Has.t rfl) fld111_4 ty4) rfl ?_
        refine Ops.store (Has.t rfl) (Has.t rfl) (i := 0) rfl ty4 rfl rfl (Ss' := [_, _, _, _, _, _]) rfl (M' := ((some _, cellM [_, _, _, _, _, _]) :: _ :: _ :: _)) rfl ?_
        refine nl ?_
        refine At.thn (hK10 _ _ ?_); clear hK10
        refine Tri.seq fun K13 hK13 => ?_
        refine Tri.cv (Cv.perm (perm_tail (pre := [_, _, _]) (swap_perm hr hrt hne))) ?_
        refine Tri.region ?_
        refine st (OK1.as (Has.cB true)) rfl ?_
        refine nl ?_
        refine At.thn (hK13 _ _ ?_); clear hK13
        refine Tri.ret ?_
        refine At.blr ?_
        refine At.thr ?_
        refine At.thr ?_
        refine At.blr ?_
        refine At.thr ?_
        refine rtX1 (.inl rfl) Try.results147 rfl (.tmp (Has.t rfl) .nil) ?_
        exact ⟨_, _, true, rfl, wkM_len (by rw [List.length_set, List.length_set]), .inr ⟨rfl, i, r, rt, by omega, hr, hrt, he, hz, by rw [if_neg hne]; rfl, by rw [if_neg hne]⟩⟩
      · have hc3 := BP.f hc3
        have hie : i = ps.length := by omega
        refine Tri.skip ?_
        refine At.thn (hK10 _ _ ?_); clear hK10
        refine Tri.seq fun K14 hK14 => ?_
        refine Tri.region ?_
        refine st (OK1.as (Has.cB true)) rfl ?_
        refine nl ?_
        refine At.thn (hK14 _ _ ?_); clear hK14
        refine Tri.ret ?_
        refine At.blr ?_
        refine At.thr ?_
        refine At.thr ?_
        refine At.blr ?_
        refine At.thr ?_
        refine rtX1 (.inl rfl) Try.results147 rfl (.tmp (Has.t rfl) .nil) ?_
        exact ⟨_, _, true, rfl, rfl, .inr ⟨rfl, i, r, r, by omega, hr, hie ▸ hr, he, hz, by rw [if_pos hie], by rw [if_pos hie]⟩⟩
    · have hc2 := BP.f hc2
      have he : cf r.2 col = 0 := (sgn_eq0 _).1 hc2
      refine Tri.skip ?_
      refine At.bln ?_
      refine At.thn (hK8 _ _ ?_); clear hK8
      refine Tri.region ?_
      refine st (OK1.mv (Has.t rfl)) rfl ?_
      refine st (OK1.addI (Has.t rfl) (Has.cI 1 rfl) (by first | omega | assumption) (by first | omega | assumption)) rfl ?_
      refine st (OK1.as (Has.t rfl)) rfl ?_
      refine nl ?_
      refine At.thn ?_
      refine hK5 (⟨i + 1, by omega, .inl (by omega), fun j r' h1 h2 h3 => by rcases Nat.lt_or_ge j i with h | h; exact hz j r' h1 h h3; obtain rfl : j = i := (by omega); rw [hr] at h3; obtain rfl := Option.some.inj h3; exact he⟩) _ _ ?_ (Cv.mem (.cons (t := 6) (Has.t' rfl ?_) (.cons (t := 0) (Has.t rfl) (.cons (t := 1) (Has.t rfl) (.cons (t := 5) (Has.t rfl) .nil)))) ?_)
      · show rs.length - (i + 1) < rs.length - i; omega
      · exact isI_eq (by omega)
      · rfl
  · have hc1 := BP.f hc1
    skip
    refine Tri.exit ?_
    refine At.the ?_
    refine At.the ?_
    refine At.blh ?_
    refine At.thn (hK3 _ _ ?_); clear hK3
    refine Tri.cv (Cv.wk .nil) ?_
    refine Tri.seq fun K15 hK15 => ?_
    refine Tri.region ?_
    refine st (OK1.as (Has.cB false)) rfl ?_
    refine nl ?_
    refine At.thn (hK15 _ _ ?_); clear hK15
    refine Tri.ret ?_
    refine rtX1 (.inl rfl) Try.results147 rfl (.tmp (Has.t rfl) .nil) ?_
    exact ⟨_, _, false, rfl, rfl, .inl ⟨rfl, rfl, rfl, fun j r h1 h2 => by rcases Nat.lt_or_ge j i with h | h; exact hz j r h1 h h2; rw [List.getElem?_eq_none (by omega)] at h2; cases h2⟩⟩
end Go.Proofs.Ytfoclelageohiaa
/- Contracts: the pivot's row is taken out of those below. -/
namespace Go.Proofs.Ytfoclelageohiaa
open Go.En Go.RowKit
set_option linter.unusedVariables false
set_option maxRecDepth 10000
open Go.Nt
open Go.Pz
open Go.Mz
set_option maxHeartbeats 4000000 in
theorem bareiss_clear {bw C : Nat} {gp : Gr Int} {gt : Gr Row} {rs : List Row} {ps : List Nat} {last : Int} {odd : Bool} {K : Nat} (hrow : ∀ r ∈ rs, r.2.length = C) (hb : ∀ r ∈ rs, Bd r.2 K) (hC : C ≤ 64) (hR : rs.length ≤ 64) (hpl : ps.length ≤ 64) {col : Nat} {r0 : Row} (hcol : col < C) (hK : K ≤ 100000000) (hlast : (List.length (words last.natAbs)) ≤ K) (h0 : rs[ps.length]? = some r0) : CtrX Try.prog 148 [isPtr bw 0, isI (col : Int)] (wkM bw gp gt rs C ps last odd) (fun S M => ∃ gp' gt' rs', S = isTup [] ∧ M = wkM bw gp' gt' rs' C (ps ++ [col]) (cf r0.2 col) odd ∧ ClrI rs ps.length col last r0.2 rs.length rs') := by
  refine CtrX.intro Try.func148 rfl (by kernel_rfl) Try.ntmps148 rfl fun w0 F0 => ?_
  refine Tri.cv (Cv.wk (.cons (t := 0) (Has.t rfl) (.cons (t := 1) (Has.t rfl) .nil))) ?_
  refine Tri.fact (Has.rngI (Has.t (t := 1) rfl)) fun lt1 => ?_
  have hpv := pv_len ps
  have hr0C := hrow r0 (List.mem_of_getElem? h0)
  have hr0B := hb r0 (List.mem_of_getElem? h0)
  have hr0L : (r0.2.map nz).length = C := by rw [List.length_map, hr0C]
  have htl : ps.length < rs.length := by rcases Nat.lt_or_ge ps.length rs.length with h | h; exact h; rw [List.getElem?_eq_none h] at h0; cases h0
  refine Tri.seq fun K1 hK1 => ?_
  refine Tri.region ?_
  refine st (OK1.mv (Has.t rfl)) rfl ?_
  refine st (OK1.nilc (Has.t rfl)) rfl ?_
  refine st (OK1.fieldAddr (Has.t rfl) fld111_2 ty32) rfl ?_
  refine st (OK1.load1 (Has.t rfl) (i := 0) rfl ty32 rfl) rfl ?_
  refine st (OK1.eq (OK1.len sl32 (Has.t rfl)) ((show isI _ = isI (ps.length : Int) from isI_eq (by omega)))) rfl ?_
  refine st (OK1.as (Has.t rfl)) rfl ?_
  refine nl ?_
  refine At.thn (hK1 _ _ ?_); clear hK1
  refine Tri.cv (Cv.wk (.cons (t := 0) (Has.t rfl) (.cons (t := 1) (Has.t rfl) (.cons (t := 4) (Has.t rfl) .nil)))) ?_
  refine Tri.seq fun K2 hK2 => ?_
  refine Tri.region ?_
  refine st (OK1.mv (Has.t rfl)) rfl ?_
  refine st (OK1.nilc (Has.t rfl)) rfl ?_
  refine st (OK1.fieldAddr (Has.t rfl) fld111_0 ty109) rfl ?_
  refine st (OK1.load1 (Has.t rfl) (i := 0) rfl ty109 rfl) rfl ?_
  refine st (OK1.mv (Has.t rfl)) rfl ?_
  refine st (OK1.ixGr sl109 ty53 (Has.t rfl) (Has.t rfl) ⟨by omega, by omega⟩) rfl ?_
  refine st (OK1.loadGM (Has.t rfl) (i := 2) rfl ty53 h0) rfl ?_
  refine st (OK1.as (Has.t rfl)) rfl ?_
  refine nl ?_
  refine At.thn (hK2 _ _ ?_); clear hK2
  refine Tri.cv (Cv.wk (.cons (t := 0) (Has.t rfl) (.cons (t := 1) (Has.t rfl) (.cons (t := 4) (Has.t rfl) (.cons (t := 5) (Has.t rfl) .nil))))) ?_
  refine Tri.seq fun K3 hK3 => ?_
  refine Tri.seq fun K4 hK4 => ?_
  refine Tri.region ?_
  refine st (OK1.mv (Has.t rfl)) rfl ?_
  refine st (OK1.addI (Has.t rfl) (Has.cI 1 rfl) (by first | omega | assumption) (by first | omega | assumption)) rfl ?_
  refine st (OK1.as (Has.t rfl)) rfl ?_
  refine nl ?_
  refine At.thn (hK4 _ _ ?_); clear hK4
  refine Tri.block ?_
  refine Tri.loopF [0, 1, 5] (fun (z : { z : Nat × List Row // ps.length < z.1 ∧ (z.1 ≤ rs.length) ∧ ClrI rs ps.length col last r0.2 z.1 z.2 }) => match z with | ⟨(i, rs'), hI⟩ => [(6, isI (i : Int))]) (fun M => fun (z : { z : Nat × List Row // ps.length < z.1 ∧ (z.1 ≤ rs.length) ∧ ClrI rs ps.length col last r0.2 z.1 z.2 }) => match z with | ⟨(i, rs'), hI⟩ => (wk0 bw gp gt rs.length C ps last odd :: grM isI gp (pv ps) :: grM rowV gt rs' :: rs'.map rowM)) (fun (z : { z : Nat × List Row // ps.length < z.1 ∧ (z.1 ≤ rs.length) ∧ ClrI rs ps.length col last r0.2 z.1 z.2 }) => match z with | ⟨(i, rs'), hI⟩ => rs.length - i) (⟨(ps.length + 1, rs), Nat.lt_succ_self _, htl, ClrI.start _ _ _ _ _⟩) (Cv.mem (.cons (t := 6) (Has.t' rfl ?_) (.cons (t := 0) (Has.t rfl) (.cons (t := 1) (Has.t rfl) (.cons (t := 5) (Has.t rfl) .nil)))) ?_) ?_
  · exact isI_eq (by omega)
  · rfl
  rintro ⟨⟨i, rs'⟩, hI⟩ K5 hK5
  refine Tri.cv (Cv.wk (.cons (t := 6) (Has.t rfl) (.cons (t := 0) (Has.t rfl) (.cons (t := 1) (Has.t rfl) (.cons (t := 5) (Has.t rfl) .nil))))) ?_
  refine Tri.memEq (M' := (wk0 bw gp gt rs.length C ps last odd :: grM isI gp (pv ps) :: grM rowV gt rs' :: rs'.map rowM)) rfl ?_
  simp only [] at hI
  obtain ⟨hti, hin, hcl⟩ := hI
  have hlen := hcl.len
  have h0' := (hcl.at (.inl (Nat.le_refl _))).trans h0
  refine Tri.seq fun K6 hK6 => ?_
  refine Tri.seq fun K7 hK7 => ?_
  refine Tri.region ?_
  refine st (OK1.mv (Has.t rfl)) rfl ?_
  refine st (OK1.mv (Has.t rfl)) rfl ?_
  refine st (OK1.nilc (Has.t rfl)) rfl ?_
  refine st (OK1.fieldAddr (Has.t rfl) fld111_0 ty109) rfl ?_
  refine st (OK1.load1 (Has.t rfl) (i := 0) rfl ty109 rfl) rfl ?_
  refine st (OK1.len sl109 (Has.t rfl)) rfl ?_
  refine st (OK1.ltI (Has.t rfl) (Has.t rfl)) rfl ?_
  refine nl ?_
  refine At.thn (hK7 _ _ ?_); clear hK7
  refine Tri.cond (Has.t rfl) (fun hc1 => ?_) (fun hc1 => ?_)
  · have hc1 := BP.t hc1
    obtain ⟨r, hr⟩ : ∃ r, rs[i]? = some r := ⟨_, List.getElem?_eq_getElem (by omega)⟩
    have hrC := hrow r (List.mem_of_getElem? hr)
    have hrB := hb r (List.mem_of_getElem? hr)
    have hrL : (r.2.map nz).length = C := by rw [List.length_map, hrC]
    have hri := (hcl.at (.inr (Nat.le_refl _))).trans hr
    refine Tri.skip ?_
    refine At.thn (hK6 _ _ ?_); clear hK6
    refine Tri.seq fun K8 hK8 => ?_
    refine Tri.block ?_
    refine Tri.seq fun K9 hK9 => ?_
    refine Tri.region ?_
    refine st (OK1.mv (Has.t rfl)) rfl ?_
    refine st (OK1.nilc (Has.t rfl)) rfl ?_
    refine st (OK1.fieldAddr (Has.t rfl) fld111_0 ty109) rfl ?_
    refine st (OK1.load1 (Has.t rfl) (i := 0) rfl ty109 rfl) rfl ?_
    refine st (OK1.mv (Has.t rfl)) rfl ?_
    refine st (OK1.ixGr sl109 ty53 (Has.t rfl) (Has.t rfl) ⟨by omega, by omega⟩) rfl ?_
    refine st (OK1.loadGM (Has.t rfl) (i := 2) rfl ty53 hri) rfl ?_
    refine st (OK1.as (Has.t rfl)) rfl ?_
    refine nl ?_
    refine At.thn (hK9 _ _ ?_); clear hK9
    refine Tri.seq fun K10 hK10 => ?_
    refine Tri.region ?_
    refine st (OK1.mv (Has.t rfl)) rfl ?_
    refine st (OK1.mv (Has.t rfl)) rfl ?_
    refine st (OK1.ixGr sl53 ty59 (Has.t rfl) (Has.t rfl) ⟨by omega, by omega⟩) rfl ?_
    refine st (OK1.loadGK zc_len (Has.t rfl) (i := 3 + i) (wkAt (pre := [_, _, _]) hri) ty59 (getZ (i := col) (by omega))) rfl ?_
    refine Ops.alloc [isB false, SlM isU []] zero59 (fun _ _ => ⟨rfl, nilM _ _, trivial⟩) rfl fun b1 => ?_
    refine Ops.store (Has.t rfl) (Has.t rfl) (i := 0) rfl ty59 rfl rfl (Ss' := [_, _]) rfl (M' := ((some _, cellM [_, _]) :: _ :: _ :: _ :: _)) rfl ?_
    refine nl ?_
    refine At.thn (hK10 _ _ ?_); clear hK10
    refine Tri.seq fun K11 hK11 => ?_
    refine Tri.region ?_
    refine st (OK1.mv (Has.t rfl)) rfl ?_
    refine st (OK1.len sl53 (Has.t rfl)) rfl ?_
    refine st (OK1.mv (Has.cI 0 rfl)) rfl ?_
    refine nl ?_
    refine At.thn (hK11 _ _ ?_); clear hK11
    refine Tri.block ?_
    refine Tri.loopF [0, 1, 5, 6, 25, 26, 27, 28, 29, 30, 31, 34, 35, 36, 37, 38, 39, 40, 7, 41, 42, 43, 44, 8, 45, 46] (fun (z : { k : Nat // k ≤ C }) => match z with | ⟨k, hk⟩ => [(47, isI (k : Int))]) (fun M => fun (z : { k : Nat // k ≤ C }) => match z with | ⟨k, hk⟩ => (zM b1 (cf r.2 col) :: wk0 bw gp gt rs.length C ps last odd :: grM isI gp (pv ps) :: grM rowV gt rs' :: (rs'.set i (r.1, mixR r0.2 r.2 col last k)).map rowM)) (fun (z : { k : Nat // k ≤ C }) => match z with | ⟨k, hk⟩ => C - k) (⟨0, Nat.zero_le _⟩) (Cv.mem (.cons (t := 47) (Has.t' rfl ?_) (.cons (t := 0) (Has.t rfl) (.cons (t := 1) (Has.t rfl) (.cons (t := 5) (Has.t rfl) (.cons (t := 6) (Has.t rfl) (.cons (t := 25) (Has.t rfl) (.cons (t := 26) (Has.t rfl) (.cons (t := 27) (Has.t rfl) (.cons (t := 28) (Has.t rfl) (.cons (t := 29) (Has.t rfl) (.cons (t := 30) (Has.t rfl) (.cons (t := 31) (Has.t rfl) (.cons (t := 34) (Has.t rfl) (.cons (t := 35) (Has.t rfl) (.cons (t := 36) (Has.t rfl) (.cons (t := 37) (Has.t rfl) (.cons (t := 38) (Has.t rfl) (.cons (t := 39) (Has.t rfl) (.cons (t := 40) (Has.t rfl) (.cons (t := 7) (Has.t rfl) (.cons (t := 41) (Has.t rfl) (.cons (t := 42) (Has.t rfl) (.cons (t := 43) (Has.t rfl) (.cons (t := 44) (Has.t rfl) (.cons (t := 8) (Has.t rfl) (.cons (t := 45) (Has.t rfl) (.cons (t := 46) (Has.t rfl) .nil))))))))))))))))))))))))))) ?_) ?_
    · rfl
    · exact tail4 (mix_start hri)
    rintro ⟨k, hk⟩ K12 hK12
    refine Tri.cv (Cv.wk (.cons (t := 47) (Has.t rfl) (.cons (t := 0) (Has.t rfl) (.cons (t := 1) (Has.t rfl) (.cons (t := 5) (Has.t rfl) (.cons (t := 6) (Has.t rfl) (.cons (t := 25) (Has.t rfl) (.cons (t := 26) (Has.t rfl) (.cons (t := 27) (Has.t rfl) (.cons (t := 28) (Has.t rfl) (.cons (t := 29) (Has.t rfl) (.cons (t := 30) (Has.t rfl) (.cons (t := 31) (Has.t rfl) (.cons (t := 34) (Has.t rfl) (.cons (t := 35) (Has.t rfl) (.cons (t := 36) (Has.t rfl) (.cons (t := 37) (Has.t rfl) (.cons (t := 38) (Has.t rfl) (.cons (t := 39) (Has.t rfl) (.cons (t := 40) (Has.t rfl) (.cons (t := 7) (Has.t rfl) (.cons (t := 41) (Has.t rfl) (.cons (t := 42) (Has.t rfl) (.cons (t := 43) (Has.t rfl) (.cons (t := 44) (Has.t rfl) (.cons (t := 8) (Has.t rfl) (.cons (t := 45) (Has.t rfl) (.cons (t := 46) (Has.t rfl) .nil)))))))))))))))))))))))))))) ?_
    refine Tri.memEq (M' := (zM b1 (cf r.2 col) :: wk0 bw gp gt rs.length C ps last odd :: grM isI gp (pv ps) :: grM rowV gt rs' :: (rs'.set i (r.1, mixR r0.2 r.2 col last k)).map rowM)) rfl ?_
    have hset : (rs'.set i (r.1, mixR r0.2 r.2 col last k))[i]? = some (r.1, mixR r0.2 r.2 col last k) := List.getElem?_set_self (by omega)
    have hset0 : (rs'.set i (r.1, mixR r0.2 r.2 col last k))[ps.length]? = some r0 := (List.getElem?_set_ne (by omega)).trans h0'
    refine Tri.seq fun K13 hK13 => ?_
    refine Tri.region ?_
    refine st (OK1.ltI (Has.t rfl) (Has.t rfl)) rfl ?_
    refine nl ?_
    refine At.thn (hK13 _ _ ?_); clear hK13
    refine Tri.seq fun K14 hK14 => ?_
    refine Tri.cond (Has.t rfl) (fun hc2 => ?_) (fun hc2 => ?_)
    · have hc2 := BP.t hc2
      refine Tri.skip ?_
      refine At.thn (hK14 _ _ ?_); clear hK14
      refine Tri.seq fun K15 hK15 => ?_
      refine Tri.block ?_
      refine Tri.seq fun K16 hK16 => ?_
      refine Tri.region ?_
      refine st (OK1.mv (Has.t rfl)) rfl ?_
      refine st (OK1.as (Has.t rfl)) rfl ?_
      refine nl ?_
      refine At.thn (hK16 _ _ ?_); clear hK16
      refine Tri.seq fun K17 hK17 => ?_
      refine Tri.drhS (.cons_cons _ (.cons_cons _ (.cons_cons _ (.cons_cons _ (List.Sublist.refl _))))) ?_
      refine DrH.st (i := 0) [] rfl rfl rfl (by kernel_rfl) (OKG.o rfl (OK1.mv (Has.t rfl))) ?_
      refine DrH.st (i := 1) [] rfl rfl rfl (by kernel_rfl) (OKG.o rfl (OK1.mv (Has.t rfl))) ?_
      refine DrH.st (i := 2) [50, 51] rfl rfl rfl (by kernel_rfl) (OKG.o rfl (OK1.ixGr sl53 ty59 (Has.t rfl) (Has.t rfl) ⟨by omega, by omega⟩)) ?_
      refine DrH.st (i := 3) [52] rfl rfl rfl (by kernel_rfl) (OKG.o rfl (OK1.loadGK zc_len (Has.t rfl) (i := 4 + i) (wkAt (pre := [_, _, _, _]) (r := (r.1, mixR r0.2 r.2 col last k)) hset) ty59 (show ((mixR r0.2 r.2 col last k).map nz)[k]? = some (nz (cf r.2 k)) from by rw [List.getElem?_map, mixR_at _ _ _ _ (by omega)]; rfl))) ?_
      refine DrH.st (i := 4) [] rfl rfl rfl (by kernel_rfl) (OKG.o rfl (OK1.mv (Has.t rfl))) ?_
      refine DrH.st (i := 5) [] rfl rfl rfl (by kernel_rfl) (OKG.o rfl (OK1.mv (Has.t rfl))) ?_
      refine DrH.st (i := 6) [54, 55] rfl rfl rfl (by kernel_rfl) (OKG.o rfl (OK1.ixGr sl53 ty59 (Has.t rfl) (Has.t rfl) ⟨by omega, by omega⟩)) ?_
      refine DrH.st (i := 7) [56] rfl rfl rfl (by kernel_rfl) (OKG.o rfl (OK1.loadGK zc_len (Has.t rfl) (i := 4 + ps.length) (wkAt (pre := [_, _, _, _]) hset0) ty59 (getZ (i := col) (by omega)))) ?_
      refine DrH.st (i := 8) [53, 57] rfl rfl rfl (by kernel_rfl) (OKG.o rfl (OK1.eq (OK1.call (zint_Mul (by rw [val_words]; have := hrB k; omega) (by rw [val_words]; have := hr0B col; omega)) (.cons (Has.t rfl) (.cons (Has.t rfl) .nil))) ((show isZ _ = isZ (cf r.2 k * cf r0.2 col) from isZ_eq (by (try simp only [zv_nz]); (try simp only [zv_nf])))))) ?_
      refine DrH.st (i := 9) [] rfl rfl rfl (by kernel_rfl) (OKG.o rfl (OK1.load (Has.t rfl) (i := 0) rfl ty59 rfl (Ss' := [_, _]) rfl)) ?_
      refine DrH.st (i := 10) [] rfl rfl rfl (by kernel_rfl) (OKG.o rfl (OK1.mv (Has.t rfl))) ?_
      refine DrH.st (i := 11) [] rfl rfl rfl (by kernel_rfl) (OKG.o rfl (OK1.mv (Has.t rfl))) ?_
      refine DrH.st (i := 12) [60, 61] rfl rfl rfl (by kernel_rfl) (OKG.o rfl (OK1.ixGr sl53 ty59 (Has.t rfl) (Has.t rfl) ⟨by omega, by omega⟩)) ?_
      refine DrH.st (i := 13) [62] rfl rfl rfl (by kernel_rfl) (OKG.o rfl (OK1.loadGK zc_len (Has.t rfl) (i := 4 + ps.length) (wkAt (pre := [_, _, _, _]) hset0) ty59 (getZ (i := k) (by omega)))) ?_
      refine DrH.st (i := 14) [59, 63] rfl rfl rfl (by kernel_rfl) (OKG.o rfl (OK1.eq (OK1.call (zint_Mul (by rw [val_words]; have := hrB col; omega) (by rw [val_words]; have := hr0B k; omega)) (.cons (Has.t rfl) (.cons (Has.t rfl) .nil))) ((show isZ _ = isZ (cf r.2 col * cf r0.2 k) from isZ_eq (by rw [zv_nf, zv_nz]))))) ?_
      refine DrH.st (i := 15) [58, 64] rfl rfl rfl (by kernel_rfl) (OKG.o rfl (OK1.eq (OK1.call (zint_Sub (by rw [val_words]; have := nz_mul (cf r.2 k) (cf r0.2 col); have := hrB k; have := hr0B col; omega) (by rw [val_words]; have := nz_mul (cf r.2 col) (cf r0.2 k); have := hrB col; have := hr0B k; omega)) (.cons (Has.t rfl) (.cons (Has.t rfl) .nil))) ((show isZ _ = isZ (cf r.2 k * cf r0.2 col - cf r.2 col * cf r0.2 k) from isZ_eq (by simp only [zv_nf]))))) ?_
      refine DrH.als (n1 := 17) (ds := [10]) (zs := [[isB false, SlM isU []]]) rfl (.cons rfl rfl zero59 (fun _ _ => ⟨rfl, nilM _ _, trivial⟩) .nil) (.cons_cons _ (.cons_cons _ (.cons_cons _ (.cons_cons _ (List.Sublist.refl _))))) (Cs := [_]) rfl ?_
      refine DrN.fin (n := 17) mixed rfl (by kernel_rfl) (by kernel_rfl) (by kernel_rfl) (fun bs hbs => ?_)
      obtain ⟨b2, rfl⟩ := len1 hbs
      refine Ops.memEq (M' := (_ :: _ :: _ :: _ :: _ :: _)) rfl ?_
      refine Ops.cv (Cv.wk (.cons (t := 0) (Has.t rfl) (.cons (t := 1) (Has.t rfl) (.cons (t := 5) (Has.t rfl) (.cons (t := 6) (Has.t rfl) (.cons (t := 25) (Has.t rfl) (.cons (t := 26) (Has.t rfl) (.cons (t := 27) (Has.t rfl) (.cons (t := 28) (Has.t rfl) (.cons (t := 29) (Has.t rfl) (.cons (t := 30) (Has.t rfl) (.cons (t := 31) (Has.t rfl) (.cons (t := 34) (Has.t rfl) (.cons (t := 35) (Has.t rfl) (.cons (t := 36) (Has.t rfl) (.cons (t := 37) (Has.t rfl) (.cons (t := 38) (Has.t rfl) (.cons (t := 39) (Has.t rfl) (.cons (t := 40) (Has.t rfl) (.cons (t := 7) (Has.t rfl) (.cons (t := 41) (Has.t rfl) (.cons (t := 42) (Has.t rfl) (.cons (t := 43) (Has.t rfl) (.cons (t := 44) (Has.t rfl) (.cons (t := 8) (Has.t rfl) (.cons (t := 45) (Has.t rfl) (.cons (t := 46) (Has.t rfl) (.cons (t := 47) (Has.t rfl) (.cons (t := 48) (Has.t rfl) (.cons (t := 49) (Has.t rfl) (.cons (t := 9) (Has.t rfl) (.cons (t := 50) (Has.t rfl) (.cons (t := 51) (Has.t rfl) (.cons (t := 52) (Has.t rfl) (.cons (t := 53) (Has.t rfl) (.cons (t := 54) (Has.t rfl) (.cons (t := 55) (Has.t rfl) (.cons (t := 56) (Has.t rfl) (.cons (t := 57) (Has.t rfl) (.cons (t := 58) (Has.t rfl) (.cons (t := 59) (Has.t rfl) (.cons (t := 60) (Has.t rfl) (.cons (t := 61) (Has.t rfl) (.cons (t := 62) (Has.t rfl) (.cons (t := 63) (Has.t rfl) (.cons (t := 64) (Has.t rfl) (.cons (t := 65) (Has.t rfl) (.cons (t := 10) (Has.op rfl) .nil)))))))))))))))))))))))))))))))))))))))))))))))) ?_
      refine Ops.store (Has.t rfl) (Has.t rfl) (i := 0) rfl ty59 rfl rfl (Ss' := [_, _]) rfl (M' := ((some _, cellM [_, _]) :: _ :: _ :: _ :: _ :: _)) rfl ?_
      refine nl ?_
      refine At.thn (hK17 _ _ ?_); clear hK17
      refine Tri.dry mixed ?_
      refine DrB.take (i := 0) rfl rfl rfl rfl (by kernel_rfl) (by kernel_rfl) (by kernel_rfl) (by kernel_rfl) (fun _ _ _ _ h => h) (OKY.mv (Has.t rfl)) ?_
      refine DrB.take (i := 1) rfl rfl rfl rfl (by kernel_rfl) (by kernel_rfl) (by kernel_rfl) (by kernel_rfl) (fun _ _ _ _ h => h) (OKY.mv (Has.t rfl)) ?_
      refine DrB.take (i := 3) rfl rfl rfl rfl (by kernel_rfl) (by kernel_rfl) (by kernel_rfl) (by kernel_rfl) (fun _ _ _ _ h => h) (OKY.mv (Has.t rfl)) ?_
      refine DrB.take (i := 4) rfl rfl rfl rfl (by kernel_rfl) (by kernel_rfl) (by kernel_rfl) (by kernel_rfl) (fun _ _ _ _ h => h) (OKY.nilc (Has.t rfl)) ?_
      refine DrB.take (i := 5) rfl rfl rfl rfl (by kernel_rfl) (by kernel_rfl) (by kernel_rfl) (by kernel_rfl) (fun _ _ _ _ h => h) (OKY.fieldAddr (Has.t rfl) fld111_3 ty59) ?_
      refine DrB.go [10] ?_
      refine DrC.st (i := 2) [] rfl rfl rfl (by kernel_rfl) (by kernel_rfl) (OKG.o rfl (OK1.load (Has.t rfl) (i := 0) rfl ty59 rfl (Ss' := [_, _]) rfl)) ?_
      refine DrC.st (i := 6) [] rfl rfl rfl (by kernel_rfl) (by kernel_rfl) (OKG.o rfl (OK1.load (Has.t rfl) (i := 2) rfl ty59 rfl (Ss' := [_, _]) rfl)) ?_
      refine DrC.st (i := 7) [69, 73] rfl rfl rfl (by kernel_rfl) (by kernel_rfl) (OKG.o rfl (OK1.call (zint_Exact (by rw [val_words]; have := nz_sub (cf r.2 k * cf r0.2 col) (cf r.2 col * cf r0.2 k); have := nz_mul (cf r.2 k) (cf r0.2 col); have := nz_mul (cf r.2 col) (cf r0.2 k); have := hrB k; have := hrB col; have := hr0B k; have := hr0B col; omega) (by rw [val_words]; omega)) (.cons (Has.t rfl) (.cons (Has.t rfl) .nil)))) ?_
      refine DrC.st (i := 8) [74] rfl rfl rfl (by kernel_rfl) (by kernel_rfl) (OKG.o rfl (OK1.mv (Has.t rfl))) ?_
      refine DrC.ea (i := 10) [66] rfl rfl rfl (by kernel_rfl) rfl (OKY.ext (Has.t rfl) rfl) ?_
      refine DrC.fin [9, 11, 12] (by kernel_rfl) (by kernel_rfl) (fun _ _ _ _ _ h => h) (by kernel_rfl) (by kernel_rfl) (by kernel_rfl) (by kernel_rfl) (by kernel_rfl) (by kernel_rfl) (by kernel_rfl) (by kernel_rfl) (by kernel_rfl) ?_
      refine Ops.cv (Cv.wk (.cons (t := 0) (Has.t rfl) (.cons (t := 1) (Has.t rfl) (.cons (t := 5) (Has.t rfl) (.cons (t := 6) (Has.t rfl) (.cons (t := 25) (Has.t rfl) (.cons (t := 26) (Has.t rfl) (.cons (t := 27) (Has.t rfl) (.cons (t := 28) (Has.t rfl) (.cons (t := 29) (Has.t rfl) (.cons (t := 30) (Has.t rfl) (.cons (t := 31) (Has.t rfl) (.cons (t := 34) (Has.t rfl) (.cons (t := 35) (Has.t rfl) (.cons (t := 36) (Has.t rfl) (.cons (t := 37) (Has.t rfl) (.cons (t := 38) (Has.t rfl) (.cons (t := 39) (Has.t rfl) (.cons (t := 40) (Has.t rfl) (.cons (t := 7) (Has.t rfl) (.cons (t := 41) (Has.t rfl) (.cons (t := 42) (Has.t rfl) (.cons (t := 43) (Has.t rfl) (.cons (t := 44) (Has.t rfl) (.cons (t := 8) (Has.t rfl) (.cons (t := 45) (Has.t rfl) (.cons (t := 46) (Has.t rfl) (.cons (t := 47) (Has.t rfl) (.cons (t := 48) (Has.t rfl) (.cons (t := 49) (Has.t rfl) (.cons (t := 9) (Has.t rfl) (.cons (t := 50) (Has.t rfl) (.cons (t := 51) (Has.t rfl) (.cons (t := 52) (Has.t rfl) (.cons (t := 53) (Has.t rfl) (.cons (t := 54) (Has.t rfl) (.cons (t := 55) (Has.t rfl) (.cons (t := 56) (Has.t rfl) (.cons (t := 57) (Has.t rfl) (.cons (t := 58) (Has.t rfl) (.cons (t := 59) (Has.t rfl) (.cons (t := 60) (Has.t rfl) (.cons (t := 61) (Has.t rfl) (.cons (t := 62) (Has.t rfl) (.cons (t := 63) (Has.t rfl) (.cons (t := 64) (Has.t rfl) (.cons (t := 65) (Has.t rfl) (.cons (t := 10) (Has.t rfl) (.cons (t := 67) (Has.t rfl) (.cons (t := 68) (Has.t rfl) (.cons (t := 70) (Has.t rfl) (.cons (t := 71) (Has.t rfl) (.cons (t := 72) (Has.t rfl) (.cons (t := 69) (Has.t rfl) (.cons (t := 73) (Has.t rfl) (.cons (t := 74) (Has.t rfl) (.cons (t := 66) (Has.t rfl) .nil))))))))))))))))))))))))))))))))))))))))))))))))))))))))) ?_
      refine st (OK1.eq (OK1.ext (Has.t rfl) rfl) ((show isZ _ = Flat (zc (nz (clr r0.2 r.2 col last k))) from isZ_eq (by rw [zv_nf, zv_nf]; rfl)))) rfl ?_
      refine st (OK1.ixGr sl53 ty59 (Has.t rfl) (Has.t rfl) ⟨by omega, by omega⟩) rfl ?_
      refine Ops.storeGK (z := nz (clr r0.2 r.2 col last k)) zc_len (Has.t rfl) (Has.t rfl) (i := 5 + i) (wkAt (pre := [_, _, _, _, _]) (r := (r.1, mixR r0.2 r.2 col last k)) hset) ty59 (by rw [List.length_map, mixR_len _ _ _ _ (by omega)]; omega) (M' := (_ :: _ :: _ :: _ :: _ :: (rs'.set i (r.1, mixR r0.2 r.2 col last (k + 1))).map rowM)) (wkStore (pre := [_, _, _, _, _]) (X := (r.1, mixR r0.2 r.2 col last k)) hset (mixR_set _ _ _ _ (by omega))) ?_
      refine nl ?_
      refine At.bln ?_
      refine At.thn (hK15 _ _ ?_); clear hK15
      refine Tri.region ?_
      refine st (OK1.addI (Has.t rfl) (Has.cI 1 rfl) (by first | omega | assumption) (by first | omega | assumption)) rfl ?_
      refine st (OK1.mv (Has.t rfl)) rfl ?_
      refine nl ?_
      refine At.thn ?_
      refine hK12 (⟨k + 1, by omega⟩) _ _ ?_ (Cv.trans (Cv.drop ((.cons _ (.cons_cons _ (.cons_cons _ (.cons_cons _ (.cons_cons _ (List.Sublist.refl _)))))))) (Cv.mem (.cons (t := 47) (Has.t' rfl ?_) (.cons (t := 0) (Has.t rfl) (.cons (t := 1) (Has.t rfl) (.cons (t := 5) (Has.t rfl) (.cons (t := 6) (Has.t rfl) (.cons (t := 25) (Has.t rfl) (.cons (t := 26) (Has.t rfl) (.cons (t := 27) (Has.t rfl) (.cons (t := 28) (Has.t rfl) (.cons (t := 29) (Has.t rfl) (.cons (t := 30) (Has.t rfl) (.cons (t := 31) (Has.t rfl) (.cons (t := 34) (Has.t rfl) (.cons (t := 35) (Has.t rfl) (.cons (t := 36) (Has.t rfl) (.cons (t := 37) (Has.t rfl) (.cons (t := 38) (Has.t rfl) (.cons (t := 39) (Has.t rfl) (.cons (t := 40) (Has.t rfl) (.cons (t := 7) (Has.t rfl) (.cons (t := 41) (Has.t rfl) (.cons (t := 42) (Has.t rfl) (.cons (t := 43) (Has.t rfl) (.cons (t := 44) (Has.t rfl) (.cons (t := 8) (Has.t rfl) (.cons (t := 45) (Has.t rfl) (.cons (t := 46) (Has.t rfl) .nil))))))))))))))))))))))))))) ?_))
      · show C - (k + 1) < C - k; omega
      · exact isI_eq (by omega)
      · rfl
    · have hc2 := BP.f hc2
      refine Tri.exit ?_
      refine At.the ?_
      refine At.the ?_
      refine At.blh ?_
      refine At.bln ?_
      refine At.thn (hK8 _ _ ?_); clear hK8
      refine Tri.region ?_
      refine st (OK1.mv (Has.t rfl)) rfl ?_
      refine st (OK1.addI (Has.t rfl) (Has.cI 1 rfl) (by first | omega | assumption) (by first | omega | assumption)) rfl ?_
      refine st (OK1.as (Has.t rfl)) rfl ?_
      refine nl ?_
      refine At.thn ?_
      have hkC : k = r.2.length := by omega
      subst hkC
      refine hK5 (⟨(i + 1, rs'.set i (r.1, clrL r0.2 r.2 col last)), by show ps.length < i + 1; omega, by show i + 1 ≤ _; omega, hcl.step hti hr⟩) _ _ ?_ (Cv.trans (Cv.drop ((.cons _ (.cons_cons _ (.cons_cons _ (.cons_cons _ (List.Sublist.refl _))))))) (Cv.mem (.cons (t := 6) (Has.t' rfl ?_) (.cons (t := 0) (Has.t rfl) (.cons (t := 1) (Has.t rfl) (.cons (t := 5) (Has.t rfl) .nil)))) ?_))
      · show rs.length - (i + 1) < rs.length - i; omega
      · exact isI_eq (by omega)
      · exact wk_round hri
  · have hc1 := BP.f hc1
    refine Tri.exit ?_
    refine At.the ?_
    refine At.the ?_
    refine At.blh ?_
    refine At.thn (hK3 _ _ ?_); clear hK3
    refine Tri.cv (Cv.wk (.cons (t := 0) (Has.t rfl) (.cons (t := 1) (Has.t rfl) (.cons (t := 5) (Has.t rfl) .nil)))) ?_
    refine Tri.seq fun K18 hK18 => ?_
    refine Tri.region ?_
    refine st (OK1.mv (Has.t rfl)) rfl ?_
    refine st (OK1.mv (Has.t rfl)) rfl ?_
    refine st (OK1.mv (Has.t rfl)) rfl ?_
    refine st (OK1.ixGr sl53 ty59 (Has.t rfl) (Has.t rfl) ⟨by omega, by omega⟩) rfl ?_
    refine st (OK1.loadGK zc_len (Has.t rfl) (i := 3 + ps.length) (wkAt (pre := [_, _, _]) h0') ty59 (getZ (i := col) (by omega))) rfl ?_
    refine st (OK1.nilc (Has.t rfl)) rfl ?_
    refine st (OK1.fieldAddr (Has.t rfl) fld111_3 ty59) rfl ?_
    refine Ops.store (Has.t rfl) (Has.t rfl) (i := 0) rfl ty59 rfl rfl (Ss' := [_, _, _, _, _, _]) rfl (M' := ((some _, cellM [_, _, _, _, _, _]) :: _ :: _ :: _)) rfl ?_
    refine nl ?_
    refine At.thn (hK18 _ _ ?_); clear hK18
    refine Tri.cv (Cv.wk (.cons (t := 0) (Has.t rfl) (.cons (t := 1) (Has.t rfl) .nil))) ?_
    refine Tri.region ?_
    refine st (OK1.mv (Has.t rfl)) rfl ?_
    refine st (OK1.mv (Has.t rfl)) rfl ?_
    refine st (OK1.nilc (Has.t rfl)) rfl ?_
    refine st (OK1.fieldAddr (Has.t rfl) fld111_2 ty32) rfl ?_
    refine st (OK1.load1 (Has.t rfl) (i := 0) rfl ty32 rfl) rfl ?_
    refine st (OK1.mv (Has.t rfl)) rfl ?_
    refine st (OK1.buildS [isI 0] sl32 ty3 zero3 (fun _ _ => ⟨⟨rfl, by decide, by decide⟩, trivial⟩) rfl rfl (.cons (Has.t rfl) rfl rfl rfl .nil) rfl (S := SlM isI [(col : Int)]) rfl) rfl ?_
    refine Ops.appendG (f := isI) (u := 0) sl32 ty3 zero3 (fun _ _ => ⟨⟨rfl, by decide, by decide⟩, trivial⟩) (fun _ => inferInstance) by3 (Has.t rfl) (i := 1) rfl (Has.t rfl) (by rw [hpv]; show ps.length + 1 ≤ _; omega) (by simp) rfl fun gr1 => ?_
    refine Ops.memEq (M' := (_ :: grM _ _ _ :: _ :: _)) rfl ?_
    refine st (OK1.nilc (Has.t rfl)) rfl ?_
    refine st (OK1.fieldAddr (Has.t rfl) fld111_2 ty32) rfl ?_
    refine Ops.store (Has.t rfl) (Has.t rfl) (i := 0) rfl ty32 rfl rfl (Ss' := [_, _, _, _, _, _]) rfl (M' := ((some _, cellM [_, _, _, _, _, _]) :: _ :: _ :: _)) rfl ?_
    refine nl ?_
    refine rtX0 (.inr rfl) Try.results148 rfl ?_
    exact ⟨gr1, gt, rs', rfl, wk_clr hlen.symm rfl, by obtain rfl : i = rs.length := (by omega); exact hcl⟩
end Go.Proofs.Ytfoclelageohiaa
/- Contracts: all steps. -/
namespace Go.Proofs.Ytfoclelageohiaa
open Go.En Go.RowKit
set_option linter.unusedVariables false
set_option maxRecDepth 10000
open Go.Nt
open Go.Pz
open Go.Mz
set_option maxHeartbeats 4000000 in
theorem bareiss_run {bw C : Nat} {gp : Gr Int} {gt : Gr Row} {rs : List Row} {K : Nat} (hrow : ∀ r ∈ rs, r.2.length = C) (hb : ∀ r ∈ rs, Bd r.2 K) (hC : C ≤ 64) (hR : rs.length ≤ 64) (hK1 : 1 ≤ K) (hK : (K + 1) * 2 ^ rs.length ≤ 100000000) : CtrX Try.prog 124 [isPtr bw 0] (wkM bw gp gt rs C [] 1 false) (fun S M => ∃ gp' gt' rs' ps' last' odd', S = isTup [] ∧ M = wkM bw gp' gt' rs' C ps' last' odd' ∧ RunI ⟨rs.map Prod.snd, [], 1, false⟩ C K rs.length C rs' ps' last' odd') := by
  refine CtrX.intro Try.func124 rfl (by kernel_rfl) Try.ntmps124 rfl fun w0 F0 => ?_
  refine Tri.cv (Cv.wk (.cons (t := 0) (Has.t rfl) .nil)) ?_
  refine Tri.seq fun K1 hK1 => ?_
  refine Tri.region ?_
  refine st (OK1.as (Has.cI 0 rfl)) rfl ?_
  refine nl ?_
  refine At.thn (hK1 _ _ ?_); clear hK1
  refine Tri.block ?_
  refine Tri.loopF [0] (fun (z : { z : Nat × Gr Int × Gr Row × List Row × List Nat × Int × Bool // RunI ⟨rs.map Prod.snd, [], 1, false⟩ C K rs.length z.1 z.2.2.2.1 z.2.2.2.2.1 z.2.2.2.2.2.1 z.2.2.2.2.2.2 }) => match z with | ⟨(c, gp1, gt1, rs1, ps1, last1, odd1), hI⟩ => [(2, isI (c : Int))]) (fun M => fun (z : { z : Nat × Gr Int × Gr Row × List Row × List Nat × Int × Bool // RunI ⟨rs.map Prod.snd, [], 1, false⟩ C K rs.length z.1 z.2.2.2.1 z.2.2.2.2.1 z.2.2.2.2.2.1 z.2.2.2.2.2.2 }) => match z with | ⟨(c, gp1, gt1, rs1, ps1, last1, odd1), hI⟩ => wkM bw gp1 gt1 rs1 C ps1 last1 odd1) (fun (z : { z : Nat × Gr Int × Gr Row × List Row × List Nat × Int × Bool // RunI ⟨rs.map Prod.snd, [], 1, false⟩ C K rs.length z.1 z.2.2.2.1 z.2.2.2.2.1 z.2.2.2.2.2.1 z.2.2.2.2.2.2 }) => match z with | ⟨(c, gp1, gt1, rs1, ps1, last1, odd1), hI⟩ => C - c) (⟨(0, gp, gt, rs, [], 1, false), Nat.zero_le _, rfl, hrow, Nat.zero_le _, fun r hr => (hb r hr).mono (by show K ≤ (K + 1) * 1 - 1; omega), (by show (List.length (words (1 : Int).natAbs)) ≤ (K + 1) * 1 - 1; rw [nz_one]; omega), .zero⟩) (Cv.mem (.cons (t := 2) (Has.t' rfl ?_) (.cons (t := 0) (Has.t rfl) .nil)) ?_) ?_
  · rfl
  · rfl
  rintro ⟨⟨c, gp1, gt1, rs1, ps1, last1, odd1⟩, hI⟩ K2 hK2
  refine Tri.cv (Cv.wk (.cons (t := 2) (Has.t rfl) (.cons (t := 0) (Has.t rfl) .nil))) ?_
  refine Tri.memEq (M' := wkM bw gp1 gt1 rs1 C ps1 last1 odd1) rfl ?_
  simp only [] at hI
  have hbn := hI.bnd
  have hpv := pv_len ps1
  have hlen1 := hI.hlen
  have hps1 := hI.hps
  have hcC := hI.hc
  refine Tri.seq fun K3 hK3 => ?_
  refine Tri.seq fun K4 hK4 => ?_
  refine Tri.dr ?_
  refine DrG.st (i := 0) [] rfl rfl rfl (by kernel_rfl) (OKG.o rfl (OK1.mv (Has.t rfl))) ?_
  refine DrG.st (i := 1) [] rfl rfl rfl (by kernel_rfl) (OKG.o rfl (OK1.mv (Has.t rfl))) ?_
  refine DrG.st (i := 2) [4] rfl rfl rfl (by kernel_rfl) (OKG.o rfl (OK1.nilc (Has.t rfl))) ?_
  refine DrG.st (i := 3) [5] rfl rfl rfl (by kernel_rfl) (OKG.o rfl (OK1.fieldAddr (Has.t rfl) fld111_1 ty3)) ?_
  refine DrG.st (i := 4) [6] rfl rfl rfl (by kernel_rfl) (OKG.o rfl (OK1.load1 (Has.t rfl) (i := 0) rfl ty3 rfl)) ?_
  refine DrG.st (i := 5) [3, 7] rfl rfl rfl (by kernel_rfl) (OKG.o rfl (OK1.ltI (Has.t rfl) (Has.t rfl))) ?_
  refine DrG.st (i := 6) [8] rfl rfl rfl (by kernel_rfl) (OKG.o rfl (OK1.mv (Has.t rfl))) ?_
  refine DrG.st (i := 7) [9] rfl rfl rfl (by kernel_rfl) (OKG.T rfl rfl rfl (fun hg => have hg' := BP.t hg; OK1.mv (Has.t rfl))) ?_
  refine DrG.st (i := 8) [9, 10] rfl rfl rfl (by kernel_rfl) (OKG.T rfl rfl rfl (fun hg => have hg' := BP.t hg; OK1.nilc (Has.g rfl hg))) ?_
  refine DrG.st (i := 9) [9, 11] rfl rfl rfl (by kernel_rfl) (OKG.T rfl rfl rfl (fun hg => have hg' := BP.t hg; OK1.fieldAddr (Has.g rfl hg) fld111_2 ty32)) ?_
  refine DrG.st (i := 10) [9, 12] rfl rfl rfl (by kernel_rfl) (OKG.T rfl rfl rfl (fun hg => have hg' := BP.t hg; OK1.load1 (Has.g rfl hg) (i := 0) rfl ty32 rfl)) ?_
  refine DrG.st (i := 11) [9, 13] rfl rfl rfl (by kernel_rfl) (OKG.T rfl rfl rfl (fun hg => have hg' := BP.t hg; OK1.len sl32 (Has.g rfl hg))) ?_
  refine DrG.st (i := 12) [9] rfl rfl rfl (by kernel_rfl) (OKG.T rfl rfl rfl (fun hg => have hg' := BP.t hg; OK1.mv (Has.t rfl))) ?_
  refine DrG.st (i := 13) [9, 15] rfl rfl rfl (by kernel_rfl) (OKG.T rfl rfl rfl (fun hg => have hg' := BP.t hg; OK1.nilc (Has.g rfl hg))) ?_
  refine DrG.st (i := 14) [9, 16] rfl rfl rfl (by kernel_rfl) (OKG.T rfl rfl rfl (fun hg => have hg' := BP.t hg; OK1.fieldAddr (Has.g rfl hg) fld111_0 ty109)) ?_
  refine DrG.st (i := 15) [9, 17] rfl rfl rfl (by kernel_rfl) (OKG.T rfl rfl rfl (fun hg => have hg' := BP.t hg; OK1.load1 (Has.g rfl hg) (i := 0) rfl ty109 rfl)) ?_
  refine DrG.st (i := 16) [9, 18] rfl rfl rfl (by kernel_rfl) (OKG.T rfl rfl rfl (fun hg => have hg' := BP.t hg; OK1.len sl109 (Has.g rfl hg))) ?_
  refine DrG.fin (n := 17) mixed (by kernel_rfl) (by kernel_rfl) (by kernel_rfl) ?_
  refine Ops.cv (Cv.wk (.cons (t := 0) (Has.t rfl) (.cons (t := 2) (Has.t rfl) (.cons (t := 3) (Has.t rfl) (.cons (t := 4) (Has.t rfl) (.cons (t := 5) (Has.t rfl) (.cons (t := 6) (Has.t rfl) (.cons (t := 7) (Has.t rfl) (.cons (t := 8) (Has.t rfl) (.cons (t := 9) (Has.t rfl) (.cons (t := 10) (Has.t rfl) (.cons (t := 11) (Has.t rfl) (.cons (t := 12) (Has.t rfl) (.cons (t := 13) (Has.t rfl) (.cons (t := 14) (Has.t rfl) (.cons (t := 15) (Has.t rfl) (.cons (t := 16) (Has.t rfl) (.cons (t := 17) (Has.t rfl) (.cons (t := 18) (Has.t rfl) (.cons (t := 19) (Has.t rfl) .nil)))))))))))))))))))) ?_
  refine stT rfl rfl (fun hg => have hg' := BP.t hg; OK1.ltI (Has.g rfl hg) (Has.g rfl hg)) rfl ?_
  refine st (OK1.pickAnd (Has.t rfl) (fun h => Has.g rfl h)) rfl ?_
  refine nl ?_
  refine At.thn (hK4 _ _ ?_); clear hK4
  refine Tri.cond (Has.t rfl) (fun hc1 => ?_) (fun hc1 => ?_)
  · have hc1 := BP.t hc1
    refine Tri.skip ?_
    refine At.thn (hK3 _ _ ?_); clear hK3
    refine Tri.seq fun K5 hK5 => ?_
    refine Tri.block ?_
    refine Tri.seq fun K6 hK6 => ?_
    refine Tri.region ?_
    refine st (OK1.mv (Has.t rfl)) rfl ?_
    refine st (OK1.mv (Has.t rfl)) rfl ?_
    refine Ops.callX (bareiss_find (col := c) hI.hrow hI.hb hC (by omega) (by omega) (by omega) (by omega)) (perm0 _) (.cons (Has.t rfl) (.cons (Has.t rfl) .nil)) rfl ?_
    rintro _ _ ⟨rs2, odd2, ok, rfl, rfl, hF⟩
    refine Ops.memEq (M' := wkM bw gp1 gt1 rs2 C ps1 last1 odd2) (List.append_nil _) ?_
    refine nl ?_
    refine At.thn (hK6 _ _ ?_); clear hK6
    refine Tri.cond (Has.t rfl) (fun hc2 => ?_) (fun hc2 => ?_)
    · have hc2 := BP.t hc2
      subst hc2
      obtain ⟨r0, h0, hl2, htR, hrow2, hb2, hrun⟩ := hI.yes (by omega) hF
      refine Tri.region ?_
      refine st (OK1.mv (Has.t rfl)) rfl ?_
      refine st (OK1.mv (Has.t rfl)) rfl ?_
      refine Ops.callX (bareiss_clear (col := c) (r0 := r0) hrow2 hb2 hC (by omega) (by omega) (by omega) (by omega) hI.hl h0) (perm0 _) (.cons (Has.t rfl) (.cons (Has.t rfl) .nil)) rfl ?_
      rintro _ _ ⟨gp3, gt3, rs3, rfl, rfl, hcl⟩
      refine Ops.memEq (M' := wkM bw gp3 gt3 rs3 C (ps1 ++ [c]) (cf r0.2 c) odd2) (List.append_nil _) ?_
      refine nl ?_
      refine At.bln ?_
      refine At.thn (hK5 _ _ ?_); clear hK5
      refine Tri.region ?_
      refine st (OK1.mv (Has.t rfl)) rfl ?_
      refine st (OK1.addI (Has.t rfl) (Has.cI 1 rfl) (by first | omega | assumption) (by first | omega | assumption)) rfl ?_
      refine st (OK1.as (Has.t rfl)) rfl ?_
      refine nl ?_
      refine At.thn ?_
      refine hK2 (⟨(c + 1, gp3, gt3, rs3, ps1 ++ [c], cf r0.2 c, odd2), hrun rs3 hcl⟩) _ _ ?_ (Cv.mem (.cons (t := 2) (Has.t' rfl ?_) (.cons (t := 0) (Has.t rfl) .nil)) ?_)
      · show C - (c + 1) < C - c; omega
      · exact isI_eq (by omega)
      · rfl
    · have hc2 := BP.f hc2
      subst hc2
      have hno := hI.no (by omega) hF
      refine Tri.skip ?_
      refine At.bln ?_
      refine At.thn (hK5 _ _ ?_); clear hK5
      refine Tri.region ?_
      refine st (OK1.mv (Has.t rfl)) rfl ?_
      refine st (OK1.addI (Has.t rfl) (Has.cI 1 rfl) (by first | omega | assumption) (by first | omega | assumption)) rfl ?_
      refine st (OK1.as (Has.t rfl)) rfl ?_
      refine nl ?_
      refine At.thn ?_
      refine hK2 (⟨(c + 1, gp1, gt1, rs2, ps1, last1, odd2), hno⟩) _ _ ?_ (Cv.mem (.cons (t := 2) (Has.t' rfl ?_) (.cons (t := 0) (Has.t rfl) .nil)) ?_)
      · show C - (c + 1) < C - c; omega
      · exact isI_eq (by omega)
      · rfl
  · have hc1 := BP.f hc1
    refine Tri.exit ?_
    refine At.the ?_
    refine At.the ?_
    refine At.blh ?_
    refine rtX0 (.inr rfl) Try.results124 rfl ?_
    exact ⟨gp1, gt1, rs1, ps1, last1, odd1, rfl, rfl, hI.fin (by omega)⟩
end Go.Proofs.Ytfoclelageohiaa
/- Contracts: a determinant, as it is reckoned. -/
namespace Go.Proofs.Ytfoclelageohiaa
open Go.En Go.RowKit
set_option linter.unusedVariables false
set_option maxRecDepth 10000
open Go.Nt
open Go.Pz
open Go.Mz
set_option maxHeartbeats 4000000 in
theorem bareiss_done {R C K : Nat} {xs : List (Bool × List Nat)} (hx : Bd (vals xs) K) (hK1 : 1 ≤ K) (hR : R ≤ 64) (hC : C ≤ 64) (hl : xs.length = R * C) (hK : (K + 1) * 2 ^ R ≤ 100000000) : CtrX Try.prog 92 [isM (R : Int) (C : Int) xs] ([]) (fun S M => ∃ rs ps last odd, S = isTup [wkF (rs.map Prod.snd) C ps last odd, isI 0] ∧ M = [] ∧ RunI ⟨rowsOf R C (vals xs), [], 1, false⟩ C K R C rs ps last odd) := by
  refine CtrX.intro Try.func92 rfl (by kernel_rfl) Try.ntmps92 rfl fun w0 F0 => ?_
  refine Tri.cv (Cv.wk (.cons (t := 0) (Has.t rfl) .nil)) ?_
  have hfo := formB_true hR hC hl
  refine Tri.seq fun K1 hK1 => ?_
  refine Tri.region ?_
  refine Ops.box (Has.t rfl) rfl fun b1 => ?_
  refine st (OK1.as Has.cP) rfl ?_
  refine st (OK1.as (Has.cI 0 rfl)) rfl ?_
  refine nl ?_
  refine At.thn (hK1 _ _ ?_); clear hK1
  refine Tri.seq fun K2 hK2 => ?_
  refine Tri.seq fun K3 hK3 => ?_
  refine Tri.region ?_
  refine st (OK1.load (Has.t rfl) (i := 0) rfl ty55 rfl (Ss' := [_, _, _]) rfl) rfl ?_
  refine st (OK1.eq (OK1.call (zmat_Formed) (.cons (Has.t rfl) .nil)) ((show isB _ = isB true from isB_eq hfo))) rfl ?_
  refine st (OK1.not (Has.t rfl)) rfl ?_
  refine nl ?_
  refine At.thn (hK3 _ _ ?_); clear hK3
  refine Tri.cond (Has.t rfl) (fun hc1 => ?_) (fun hc1 => ?_)
  · have hc1 := BP.t hc1
    simp at hc1
  · have hc1 := BP.f hc1
    refine Tri.skip ?_
    refine At.thn (hK2 _ _ ?_); clear hK2
    refine Tri.seq fun K4 hK4 => ?_
    refine Tri.region ?_
    refine st (OK1.load (Has.t rfl) (i := 0) rfl ty55 rfl (Ss' := [_, _, _]) rfl) rfl ?_
    refine Ops.cv (Cv.drop ((.cons _ .slnil))) ?_
    refine Ops.cv (Cv.wk (.cons (t := 0) (Has.t rfl) (.cons (t := 2) (Has.t rfl) (.cons (t := 3) (Has.t rfl) (.cons (t := 5) (Has.t rfl) (.cons (t := 6) (Has.t rfl) (.cons (t := 7) (Has.t rfl) (.cons (t := 8) (Has.t rfl) .nil)))))))) ?_
    refine Ops.callX (bareiss_begun hx (by have := Nat.mul_le_mul_left (K + 1) (Nat.one_le_pow R 2 (by decide)); omega) hR hC hl) (perm0 _) (.cons (Has.t rfl) .nil) rfl ?_
    rintro _ _ ⟨bw, gt, rs0, rfl, rfl, hrs0⟩
    have hl0 : rs0.length = R := by have := congrArg List.length hrs0; rwa [List.length_map, rowsOf_len] at this
    obtain ⟨hrow0, hb0⟩ := rowsOf_all hx hrs0
    refine Ops.memEq (M' := wkM bw Gr.nil gt rs0 C [] 1 false) (List.append_nil _) ?_
    refine st (OK1.as (Has.t rfl)) rfl ?_
    refine nl ?_
    refine At.thn (hK4 _ _ ?_); clear hK4
    refine Tri.cv (Cv.wk (.cons (t := 2) (Has.t rfl) (.cons (t := 3) (Has.t rfl) (.cons (t := 4) (Has.t rfl) .nil)))) ?_
    refine Tri.seq fun K5 hK5 => ?_
    refine Tri.region ?_
    refine st (OK1.mv (Has.t rfl)) rfl ?_
    refine Ops.callX (bareiss_run (rs := rs0) hrow0 hb0 hC (by omega) hK1 (by rw [hl0]; exact hK)) (perm0 _) (.cons (Has.t rfl) .nil) rfl ?_
    rintro _ _ ⟨gp, gt2, rs, ps, last, odd, rfl, rfl, hRun⟩
    rw [hrs0, hl0] at hRun
    refine Ops.memEq (M' := wkM bw gp gt2 rs C ps last odd) (List.append_nil _) ?_
    refine nl ?_
    refine At.thn (hK5 _ _ ?_); clear hK5
    refine Tri.seq fun K6 hK6 => ?_
    refine Tri.cv (Cv.freezeWk (t := 4) rfl rfl) ?_
    refine Tri.region ?_
    refine st (OK1.mv (Has.t rfl)) rfl ?_
    refine st (OK1.as (Has.t rfl)) rfl ?_
    refine st (OK1.as (Has.cI 0 rfl)) rfl ?_
    refine nl ?_
    refine At.thn (hK6 _ _ ?_); clear hK6
    refine Tri.ret ?_
    refine rtXN (.inl rfl) Try.results92 rfl rfl (.tmp (Has.t rfl) (.tmp (Has.t rfl) .nil)) ?_
    exact ⟨rs, ps, last, odd, rfl, rfl, hRun⟩
set_option maxHeartbeats 4000000 in
theorem bareiss_done_bad {r c : Int} {xs : List (Bool × List Nat)} (hf : formB r c xs.length = false) : Ctr Try.prog 92 [isM r c xs] (isTup [nilP, isI 2]) := by
  refine Ctr.intro Try.func92 rfl (by kernel_rfl) Try.ntmps92 rfl fun w0 F0 => ?_
  refine Tri.cv (Cv.wk (.cons (t := 0) (Has.t rfl) .nil)) ?_
  refine Tri.seq fun K1 hK1 => ?_
  refine Tri.region ?_
  refine Ops.box (Has.t rfl) rfl fun b1 => ?_
  refine st (OK1.as Has.cP) rfl ?_
  refine st (OK1.as (Has.cI 0 rfl)) rfl ?_
  refine nl ?_
  refine At.thn (hK1 _ _ ?_); clear hK1
  refine Tri.seq fun K2 hK2 => ?_
  refine Tri.seq fun K3 hK3 => ?_
  refine Tri.region ?_
  refine st (OK1.load (Has.t rfl) (i := 0) rfl ty55 rfl (Ss' := [_, _, _]) rfl) rfl ?_
  refine st (OK1.eq (OK1.call (zmat_Formed) (.cons (Has.t rfl) .nil)) ((show isB _ = isB false from isB_eq hf))) rfl ?_
  refine st (OK1.not (Has.t rfl)) rfl ?_
  refine nl ?_
  refine At.thn (hK3 _ _ ?_); clear hK3
  refine Tri.cond (Has.t rfl) (fun hc1 => ?_) (fun hc1 => ?_)
  · have hc1 := BP.t hc1
    refine Tri.seq fun K4 hK4 => ?_
    refine Tri.region ?_
    refine st (OK1.as Has.cP) rfl ?_
    refine st (OK1.as (Has.cI 2 rfl)) rfl ?_
    refine nl ?_
    refine At.thn (hK4 _ _ ?_); clear hK4
    refine Tri.ret ?_
    refine At.thr ?_
    refine rtN (.inl rfl) Try.results92 rfl rfl (.tmp (Has.t' rfl ?_) (.tmp (Has.t' rfl ?_) .nil))
    all_goals (rfl)
  · have hc1 := BP.f hc1
    simp at hc1
set_option maxHeartbeats 4000000 in
theorem bareiss_DetX {R K : Nat} {xs : List (Bool × List Nat)} (hx : Bd (vals xs) K) (hK1 : 1 ≤ K) (hR : R ≤ 64) (hl : xs.length = R * R) (hK : (K + 1) * 2 ^ R ≤ 100000000) : CtrX Try.prog 43 [isM (R : Int) (R : Int) xs] ([]) (fun S M => ∃ rs ps last odd, S = isTup [isZ (if ps.length < R then 0 else if odd = true then -last else last), isI 0] ∧ RunI ⟨rowsOf R R (vals xs), [], 1, false⟩ R K R R rs ps last odd) := by
  refine CtrX.intro Try.func43 rfl (by kernel_rfl) Try.ntmps43 rfl fun w0 F0 => ?_
  refine Tri.cv (Cv.wk (.cons (t := 0) (Has.t rfl) .nil)) ?_
  refine Tri.seq fun K1 hK1 => ?_
  refine Tri.region ?_
  refine Ops.box (Has.t rfl) rfl fun b1 => ?_
  refine Ops.alloc [isB false, SlM isU []] zero59 (fun _ _ => ⟨rfl, nilM _ _, trivial⟩) rfl fun b2 => ?_
  refine st (OK1.as (Has.cI 0 rfl)) rfl ?_
  refine nl ?_
  refine At.thn (hK1 _ _ ?_); clear hK1
  refine Tri.seq fun K2 hK2 => ?_
  refine Tri.seq fun K3 hK3 => ?_
  refine Tri.region ?_
  refine st (OK1.fieldAddr (Has.t rfl) fld55_0 ty3) rfl ?_
  refine st (OK1.load1 (Has.t rfl) (i := 1) rfl ty3 rfl) rfl ?_
  refine st (OK1.fieldAddr (Has.t rfl) fld55_1 ty3) rfl ?_
  refine st (OK1.load1 (Has.t rfl) (i := 1) rfl ty3 rfl) rfl ?_
  refine st (OK1.neI (Has.t rfl) (Has.t rfl)) rfl ?_
  refine nl ?_
  refine At.thn (hK3 _ _ ?_); clear hK3
  refine Tri.cv (Cv.wk (.cons (t := 1) (Has.t rfl) (.cons (t := 2) (Has.t rfl) (.cons (t := 3) (Has.t rfl) (.cons (t := 10) (Has.t rfl) .nil))))) ?_
  refine Tri.cond (Has.t rfl) (fun hc1 => ?_) (fun hc1 => ?_)
  · have hc1 := BP.t hc1
    exact absurd rfl hc1
  · have hc1 := BP.f hc1
    refine Tri.skip ?_
    refine At.thn (hK2 _ _ ?_); clear hK2
    refine Tri.seq fun K4 hK4 => ?_
    refine Tri.region ?_
    refine st (OK1.load (Has.t rfl) (i := 1) rfl ty55 rfl (Ss' := [_, _, _]) rfl) rfl ?_
    refine Ops.callX (bareiss_done hx hK1 hR hR hl hK) (List.Perm.refl _) (.cons (Has.t rfl) .nil) rfl ?_
    rintro _ _ ⟨rs, ps, last, odd, rfl, rfl, hRun⟩
    have hpv := pv_len ps
    have hps := hRun.hps
    have hbn := hRun.bnd
    have hl1 := hRun.hl
    refine st (OK1.mv (Has.t rfl)) rfl ?_
    refine st (OK1.ext (Has.t rfl) rfl) rfl ?_
    refine st (OK1.ext (Has.t rfl) rfl) rfl ?_
    refine st (OK1.as (Has.t rfl)) rfl ?_
    refine st (OK1.as (Has.t rfl)) rfl ?_
    refine nl ?_
    refine At.thn (hK4 _ _ ?_); clear hK4
    refine Tri.cv (Cv.wk (.cons (t := 1) (Has.t rfl) (.cons (t := 2) (Has.t rfl) (.cons (t := 3) (Has.t rfl) (.cons (t := 4) (Has.t rfl) (.cons (t := 5) (Has.t rfl) .nil)))))) ?_
    refine Tri.seq fun K5 hK5 => ?_
    refine Tri.block ?_
    refine Tri.seq fun K6 hK6 => ?_
    refine Tri.region ?_
    refine st (OK1.mv (Has.t rfl)) rfl ?_
    refine st (OK1.neI (Has.t rfl) (Has.cI 0 rfl)) rfl ?_
    refine st (OK1.as (Has.t rfl)) rfl ?_
    refine nl ?_
    refine At.thn (hK6 _ _ ?_); clear hK6
    refine Tri.cond (Has.t rfl) (fun hc2 => ?_) (fun hc2 => ?_)
    · have hc2 := BP.t hc2
      simp at hc2
    · have hc2 := BP.f hc2
      refine Tri.seq fun K7 hK7 => ?_
      refine Tri.dr ?_
      refine DrG.st (i := 0) [] rfl rfl rfl (by kernel_rfl) (OKG.o rfl (OK1.mv (Has.t rfl))) ?_
      refine DrG.st (i := 1) [23] rfl rfl rfl (by kernel_rfl) (OKG.o rfl (OK1.nilcP (Has.t rfl))) ?_
      refine DrG.st (i := 2) [24] rfl rfl rfl (by kernel_rfl) (OKG.o rfl (OK1.fieldAddrP (Has.t rfl) fld111_2 ty32 (Ss' := [_, _, _, _]) rfl)) ?_
      refine DrG.st (i := 3) [25] rfl rfl rfl (by kernel_rfl) (OKG.o rfl (OK1.loadP1 (Has.t rfl) ty32)) ?_
      refine DrG.st (i := 4) [26] rfl rfl rfl (by kernel_rfl) (OKG.o rfl (OK1.len sl32 (Has.t rfl))) ?_
      refine DrG.st (i := 5) [] rfl rfl rfl (by kernel_rfl) (OKG.o rfl (OK1.fieldAddr (Has.t rfl) fld55_0 ty3)) ?_
      refine DrG.st (i := 6) [28] rfl rfl rfl (by kernel_rfl) (OKG.o rfl (OK1.load1 (Has.t rfl) (i := 1) rfl ty3 rfl)) ?_
      refine DrG.fin (n := 7) mixed (by kernel_rfl) (by kernel_rfl) (by kernel_rfl) ?_
      refine Ops.cv (Cv.wk (.cons (t := 2) (Has.t rfl) (.cons (t := 3) (Has.t rfl) (.cons (t := 4) (Has.t rfl) (.cons (t := 27) (Has.t rfl) (.cons (t := 29) (Has.t rfl) .nil)))))) ?_
      refine st (OK1.ltI (Has.t rfl) (Has.t rfl)) rfl ?_
      refine st (OK1.as (Has.t rfl)) rfl ?_
      refine nl ?_
      refine At.thn (hK7 _ _ ?_); clear hK7
      refine Tri.cond (Has.t rfl) (fun hc3 => ?_) (fun hc3 => ?_)
      · have hc3 := BP.t hc3
        refine Tri.seq fun K8 hK8 => ?_
        refine Tri.region ?_
        refine st (OK1.build [isB false, SlM isU []] pl59 zero59 (fun _ _ => ⟨rfl, nilM _ _, trivial⟩) .nil (Z'' := [_, _]) rfl) rfl ?_
        refine Ops.store (Has.t rfl) (Has.t rfl) (i := 0) rfl ty59 rfl rfl (Ss' := [_, _]) rfl (M' := [(some _, cellM [_, _]), _]) rfl ?_
        refine st (OK1.as (Has.cI 0 rfl)) rfl ?_
        refine nl ?_
        refine At.thn (hK8 _ _ ?_); clear hK8
        refine Tri.cv (Cv.wk (.cons (t := 2) (Has.t rfl) (.cons (t := 3) (Has.t rfl) (.cons (t := 4) (Has.t rfl) .nil)))) ?_
        refine Tri.ret ?_
        refine At.blr ?_
        refine At.thr ?_
        refine rtXN (.inl rfl) Try.results43 rfl rfl (.cell rfl (i := 0) rfl ty59 rfl rfl (.tmp (Has.t rfl) .nil)) ?_
        exact ⟨rs, ps, last, odd, congrArg (fun s => isTup [s, isI 0]) (isZ0.trans (isZ_eq (by rw [if_pos (by omega)]))), hRun⟩
      · have hc3 := BP.f hc3
        refine Tri.seq fun K9 hK9 => ?_
        refine Tri.region ?_
        refine st (OK1.mv (Has.t rfl)) rfl ?_
        refine st (OK1.nilcP (Has.t rfl)) rfl ?_
        refine st (OK1.fieldAddrP (Has.t rfl) fld111_4 ty4 (Ss' := [_]) rfl) rfl ?_
        refine st (OK1.loadP1 (Has.t rfl) ty4) rfl ?_
        refine st (OK1.as (Has.t rfl)) rfl ?_
        refine nl ?_
        refine At.thn (hK9 _ _ ?_); clear hK9
        refine Tri.cv (Cv.wk (.cons (t := 2) (Has.t rfl) (.cons (t := 3) (Has.t rfl) (.cons (t := 4) (Has.t rfl) (.cons (t := 32) (Has.t rfl) .nil))))) ?_
        refine Tri.cond (Has.t rfl) (fun hc4 => ?_) (fun hc4 => ?_)
        · have hc4 := BP.t hc4
          refine Tri.seq fun K10 hK10 => ?_
          refine Tri.region ?_
          refine st (OK1.mv (Has.t rfl)) rfl ?_
          refine st (OK1.nilcP (Has.t rfl)) rfl ?_
          refine st (OK1.fieldAddrP (Has.t rfl) fld111_3 ty59 (Ss' := [_, _, _]) rfl) rfl ?_
          refine st (OK1.loadP (Has.t rfl) ty59 rfl (Ss' := [_, _]) rfl) rfl ?_
          refine st (OK1.eq (OK1.call (zint_Neg (by rw [val_words]; omega)) (.cons (Has.t rfl) .nil)) ((show isZ _ = isZ (-last) from isZ_eq (by rw [zv_nf])))) rfl ?_
          refine Ops.store (Has.t rfl) (Has.t rfl) (i := 0) rfl ty59 rfl rfl (Ss' := [_, _]) rfl (M' := [(some _, cellM [_, _]), _]) rfl ?_
          refine st (OK1.as (Has.cI 0 rfl)) rfl ?_
          refine nl ?_
          refine At.thn (hK10 _ _ ?_); clear hK10
          refine Tri.cv (Cv.wk (.cons (t := 2) (Has.t rfl) (.cons (t := 3) (Has.t rfl) (.cons (t := 4) (Has.t rfl) .nil)))) ?_
          refine Tri.ret ?_
          refine At.blr ?_
          refine At.thr ?_
          refine rtXN (.inl rfl) Try.results43 rfl rfl (.cell rfl (i := 0) rfl ty59 rfl rfl (.tmp (Has.t rfl) .nil)) ?_
          exact ⟨rs, ps, last, odd, congrArg (fun s => isTup [s, isI 0]) (isZ_eq (by rw [if_neg (by omega), if_pos (by assumption)])), hRun⟩
        · have hc4 := BP.f hc4
          refine Tri.skip ?_
          refine At.bln ?_
          refine At.thn (hK5 _ _ ?_); clear hK5
          refine Tri.seq fun K11 hK11 => ?_
          refine Tri.region ?_
          refine st (OK1.mv (Has.t rfl)) rfl ?_
          refine st (OK1.nilcP (Has.t rfl)) rfl ?_
          refine st (OK1.fieldAddrP (Has.t rfl) fld111_3 ty59 (Ss' := [_, _, _]) rfl) rfl ?_
          refine st (OK1.loadP (Has.t rfl) ty59 rfl (Ss' := [_, _]) rfl) rfl ?_
          refine Ops.store (Has.t rfl) (Has.t rfl) (i := 0) rfl ty59 rfl rfl (Ss' := [_, _]) rfl (M' := [(some _, cellM [_, _]), _]) rfl ?_
          refine st (OK1.as (Has.cI 0 rfl)) rfl ?_
          refine nl ?_
          refine At.thn (hK11 _ _ ?_); clear hK11
          refine Tri.cv (Cv.wk (.cons (t := 2) (Has.t rfl) (.cons (t := 3) (Has.t rfl) .nil))) ?_
          refine Tri.ret ?_
          refine rtXN (.inl rfl) Try.results43 rfl rfl (.cell rfl (i := 0) rfl ty59 rfl rfl (.tmp (Has.t rfl) .nil)) ?_
          exact ⟨rs, ps, last, odd, congrArg (fun s => isTup [s, isI 0]) (isZ_eq (by rw [if_neg (by omega), if_neg (by simp [*])])), hRun⟩
set_option maxHeartbeats 4000000 in
theorem bareiss_Det_bad {r c : Int} {xs : List (Bool × List Nat)} (hf : r ≠ c ∨ formB r c xs.length = false) : Ctr Try.prog 43 [isM r c xs] (isTup [isZ 0, isI 2]) := by
  refine Ctr.intro Try.func43 rfl (by kernel_rfl) Try.ntmps43 rfl fun w0 F0 => ?_
  refine Tri.cv (Cv.wk (.cons (t := 0) (Has.t rfl) .nil)) ?_
  refine Tri.seq fun K1 hK1 => ?_
  refine Tri.region ?_
  refine Ops.box (Has.t rfl) rfl fun b1 => ?_
  refine Ops.alloc [isB false, SlM isU []] zero59 (fun _ _ => ⟨rfl, nilM _ _, trivial⟩) rfl fun b2 => ?_
  refine st (OK1.as (Has.cI 0 rfl)) rfl ?_
  refine nl ?_
  refine At.thn (hK1 _ _ ?_); clear hK1
  refine Tri.seq fun K2 hK2 => ?_
  refine Tri.seq fun K3 hK3 => ?_
  refine Tri.region ?_
  refine st (OK1.fieldAddr (Has.t rfl) fld55_0 ty3) rfl ?_
  refine st (OK1.load1 (Has.t rfl) (i := 1) rfl ty3 rfl) rfl ?_
  refine st (OK1.fieldAddr (Has.t rfl) fld55_1 ty3) rfl ?_
  refine st (OK1.load1 (Has.t rfl) (i := 1) rfl ty3 rfl) rfl ?_
  refine st (OK1.neI (Has.t rfl) (Has.t rfl)) rfl ?_
  refine nl ?_
  refine At.thn (hK3 _ _ ?_); clear hK3
  refine Tri.cv (Cv.wk (.cons (t := 1) (Has.t rfl) (.cons (t := 2) (Has.t rfl) (.cons (t := 3) (Has.t rfl) (.cons (t := 10) (Has.t rfl) .nil))))) ?_
  refine Tri.cond (Has.t rfl) (fun hc1 => ?_) (fun hc1 => ?_)
  · have hc1 := BP.t hc1
    skip
    refine Tri.seq fun K4 hK4 => ?_
    refine Tri.region ?_
    refine st (OK1.build [isB false, SlM isU []] pl59 zero59 (fun _ _ => ⟨rfl, nilM _ _, trivial⟩) .nil (Z'' := [_, _]) rfl) rfl ?_
    refine Ops.store (Has.t rfl) (Has.t rfl) (i := 0) rfl ty59 rfl rfl (Ss' := [_, _]) rfl (M' := [(some _, cellM [_, _]), _]) rfl ?_
    refine st (OK1.as (Has.cI 2 rfl)) rfl ?_
    refine nl ?_
    refine At.thn (hK4 _ _ ?_); clear hK4
    refine Tri.ret ?_
    refine At.thr ?_
    refine rtN (.inl rfl) Try.results43 rfl rfl (.cell rfl (i := 0) rfl ty59 rfl ?_ (.tmp (Has.t' rfl ?_) .nil))
    · exact isZ0
    · rfl
  · have hc1 := BP.f hc1
    have hrc : r = c := (by omega)
    refine Tri.skip ?_
    refine At.thn (hK2 _ _ ?_); clear hK2
    refine Tri.seq fun K5 hK5 => ?_
    refine Tri.region ?_
    refine st (OK1.load (Has.t rfl) (i := 1) rfl ty55 rfl (Ss' := [_, _, _]) rfl) rfl ?_
    refine st (OK1.call (bareiss_done_bad (hf.resolve_left (fun h => h (by omega)))) (.cons (Has.t rfl) .nil)) rfl ?_
    refine st (OK1.mv (Has.t rfl)) rfl ?_
    refine st (OK1.ext (Has.t rfl) rfl) rfl ?_
    refine st (OK1.ext (Has.t rfl) rfl) rfl ?_
    refine st (OK1.as (Has.t rfl)) rfl ?_
    refine st (OK1.as (Has.t rfl)) rfl ?_
    refine nl ?_
    refine At.thn (hK5 _ _ ?_); clear hK5
    refine Tri.cv (Cv.wk (.cons (t := 1) (Has.t rfl) (.cons (t := 2) (Has.t rfl) (.cons (t := 3) (Has.t rfl) (.cons (t := 4) (Has.t rfl) (.cons (t := 5) (Has.t rfl) .nil)))))) ?_
    refine Tri.seq fun K6 hK6 => ?_
    refine Tri.block ?_
    refine Tri.seq fun K7 hK7 => ?_
    refine Tri.region ?_
    refine st (OK1.mv (Has.t rfl)) rfl ?_
    refine st (OK1.neI (Has.t rfl) (Has.cI 0 rfl)) rfl ?_
    refine st (OK1.as (Has.t rfl)) rfl ?_
    refine nl ?_
    refine At.thn (hK7 _ _ ?_); clear hK7
    refine Tri.cond (Has.t rfl) (fun hc2 => ?_) (fun hc2 => ?_)
    · have hc2 := BP.t hc2
      refine Tri.seq fun K8 hK8 => ?_
      refine Tri.region ?_
      refine st (OK1.build [isB false, SlM isU []] pl59 zero59 (fun _ _ => ⟨rfl, nilM _ _, trivial⟩) .nil (Z'' := [_, _]) rfl) rfl ?_
      refine st (OK1.mv (Has.t rfl)) rfl ?_
      refine Ops.store (Has.t rfl) (Has.t rfl) (i := 0) rfl ty59 rfl rfl (Ss' := [_, _]) rfl (M' := [(some _, cellM [_, _]), _]) rfl ?_
      refine st (OK1.as (Has.t rfl)) rfl ?_
      refine nl ?_
      refine At.thn (hK8 _ _ ?_); clear hK8
      refine Tri.cv (Cv.wk (.cons (t := 2) (Has.t rfl) (.cons (t := 3) (Has.t rfl) (.cons (t := 4) (Has.t rfl) .nil)))) ?_
      refine Tri.ret ?_
      refine At.blr ?_
      refine At.thr ?_
      refine rtN (.inl rfl) Try.results43 rfl rfl (.cell rfl (i := 0) rfl ty59 rfl ?_ (.tmp (Has.t' rfl ?_) .nil))
      · exact isZ0
      · rfl
    · have hc2 := BP.f hc2
      simp at hc2
end Go.Proofs.Ytfoclelageohiaa
/- Contracts: a determinant. -/
namespace Go.Proofs.Ytfoclelageohiaa
open Go.En Go.RowKit
set_option linter.unusedVariables false
set_option maxRecDepth 10000
open Go.Nt
open Go.Pz
open Go.Mz
open Go.Dt
theorem bareiss_Det {R K : Nat} {xs : List (Bool × List Nat)} (hx : Bd (vals xs) K) (hK1 : 1 ≤ K) (hR : R ≤ 64) (hl : xs.length = R * R) (hK : (K + 1) * 2 ^ R ≤ 100000000) : Ctr Try.prog 43 [isM (R : Int) (R : Int) xs] (isTup [isZ (det R (mf R (vals xs))), isI 0]) :=
  (bareiss_DetX hx hK1 hR hl hK).toCtr fun S' M' hh => by
    obtain ⟨rs, ps, last, odd, e, hr⟩ := hh
    obtain ⟨q, hq⟩ := BI.all (BI.start (mf R (vals xs)) (R := R) (C := R) (L := vals xs) fun _ _ _ _ => rfl) hr.run (Nat.le_refl _)
    have hd := hq.detE
    simp only [] at hd
    rw [e, ← hd]
theorem bareiss_DetAll {r c : Int} {K N : Nat} {xs : List (Bool × List Nat)} (hx : Bd (vals xs) K) (hK1 : 1 ≤ K) (hr : r ≤ (N : Int)) (hK : (K + 1) * 2 ^ N ≤ 100000000) : Ctr Try.prog 43 [isM r c xs] (isTup [isZ (if sqB r c xs.length = true then det r.toNat (mf r.toNat (vals xs)) else 0), isI (if sqB r c xs.length = true then 0 else 2)]) := by
  by_cases h : sqB r c xs.length = true
  · obtain ⟨R, rfl, rfl, h1, h2⟩ := sqB_true h
    rw [if_pos h, if_pos h, Int.toNat_natCast]
    exact bareiss_Det hx hK1 h1 h2 (Nat.le_trans (Nat.mul_le_mul_left _ (Nat.pow_le_pow_right (by decide) (by omega))) hK)
  · rw [if_neg h, if_neg h]
    exact bareiss_Det_bad (sqB_false h)
end Go.Proofs.Ytfoclelageohiaa
/- Polynomials over the whole numbers: what the document's answers are. No program here, but the numbers' cells. -/
namespace Go.Pz
open Go.Nt Go.En
/-- lists of a size that is looked at -/
def fewB (xs : List (Bool × List Nat)) (n w : Int) : Bool := (xs.take 100).all (fun p => decide ((p.2.length : Int) ≤ w)) && decide ((xs.length : Int) ≤ n)
theorem fewB_no {xs : List (Bool × List Nat)} {n w : Int} {i : Nat} (hi : i < xs.length) (h1 : i < 100) (h : ¬ ((xs.getD i (false, [])).2.length : Int) ≤ w) : fewB xs n w = false := by
  unfold fewB
  have hm : xs.getD i (false, []) ∈ xs.take 100 := by
    rw [List.getD, List.getElem?_eq_getElem hi]
    exact List.mem_take_iff_getElem.2 ⟨i, by omega, rfl⟩
  have : (xs.take 100).all (fun p => decide ((p.2.length : Int) ≤ w)) = false := by
    rw [List.all_eq_false]
    exact ⟨_, hm, by rw [decide_eq_true_eq]; exact h⟩
  rw [this]; rfl
theorem fewB_yes {xs : List (Bool × List Nat)} {n w : Int} {i : Nat} (hi : xs.length ≤ i ∨ 100 ≤ i) (h : ∀ j, j < i → ((xs.getD j (false, [])).2.length : Int) ≤ w) : fewB xs n w = decide ((xs.length : Int) ≤ n) := by
  unfold fewB
  have : (xs.take 100).all (fun p => decide ((p.2.length : Int) ≤ w)) = true := by
    rw [List.all_eq_true]
    intro p hp
    obtain ⟨j, hj, rfl⟩ := List.mem_take_iff_getElem.1 hp
    have := h j (by omega)
    rw [List.getD, List.getElem?_eq_getElem (by omega)] at this
    exact decide_eq_true this
  rw [this]; rfl
theorem fewB_bd {xs : List (Bool × List Nat)} {n w : Int} {N K : Nat} (ok : ∀ p ∈ xs, (∀ y ∈ p.2, y < 18446744073709551616) ∧ p.2.length ≤ 9223372036854775807) (h : fewB xs n w = true) (hn : n = (N : Int)) (hw : w = (K : Int)) (h1 : N ≤ 100) : xs.length ≤ N ∧ Bd (vals xs) K := by
  unfold fewB at h
  rw [Bool.and_eq_true, decide_eq_true_eq, List.all_eq_true] at h
  subst hn; subst hw
  refine ⟨by omega, fun i => ?_⟩
  rw [cf_vals, zv_nw]
  rcases Nat.lt_or_ge i xs.length with hi | hi
  · rw [List.getD, List.getElem?_eq_getElem hi]
    have h2 := h.1 xs[i] (List.mem_take_iff_getElem.2 ⟨i, by omega, rfl⟩)
    rw [decide_eq_true_eq] at h2
    exact Nat.le_trans (nw_val (ok _ (List.getElem_mem hi)).1) (by show xs[i].2.length ≤ K; omega)
  · rw [List.getD, List.getElem?_eq_none (by omega)]
    show (List.length (words (val []))) ≤ K
    rw [show val [] = 0 from rfl, words_zero]; exact Nat.zero_le _
end Go.Pz
/- Contracts: the document's answers on polynomials. -/
namespace Go.Proofs.Ytfoclelageohiaa
open Go.En Go.RowKit
set_option linter.unusedVariables false
set_option maxRecDepth 10000
open Go.Nt
open Go.Pz
set_option maxHeartbeats 4000000 in
theorem ref10_Few {xs : List (Bool × List Nat)} {n w : Int} : Ctr Try.prog 91 [SlK 2 zc xs, isI n, isI w] (isB (fewB xs n w)) := by
  refine Ctr.intro Try.func91 rfl (by kernel_rfl) Try.ntmps91 rfl fun w0 F0 => ?_
  refine Tri.cv (Cv.wk (.cons (t := 0) (Has.t rfl) (.cons (t := 1) (Has.t rfl) (.cons (t := 2) (Has.t rfl) .nil)))) ?_
  refine Tri.fact (Has.lenLt (Has.t (t := 0) rfl)) fun lt0 => ?_
  refine Tri.fact (Has.rngI (Has.t (t := 1) rfl)) fun lt1 => ?_
  refine Tri.fact (Has.rngI (Has.t (t := 2) rfl)) fun lt2 => ?_
  refine Tri.seq fun K1 hK1 => ?_
  refine Tri.region ?_
  refine st (OK1.as (Has.cB false)) rfl ?_
  refine nl ?_
  refine At.thn (hK1 _ _ ?_); clear hK1
  refine Tri.seq fun K2 hK2 => ?_
  refine Tri.seq fun K3 hK3 => ?_
  refine Tri.region ?_
  refine st (OK1.as (Has.cI 0 rfl)) rfl ?_
  refine nl ?_
  refine At.thn (hK3 _ _ ?_); clear hK3
  refine Tri.block ?_
  refine Tri.loopF [0, 1, 2] (fun (z : { i : Nat // i ≤ xs.length ∧ i ≤ 100 ∧ ∀ j, j < i → ((xs.getD j (false, [])).2.length : Int) ≤ w }) => match z with | ⟨i, hi⟩ => [(7, isI (i : Int))]) (fun M => fun (z : { i : Nat // i ≤ xs.length ∧ i ≤ 100 ∧ ∀ j, j < i → ((xs.getD j (false, [])).2.length : Int) ≤ w }) => match z with | ⟨i, hi⟩ => []) (fun (z : { i : Nat // i ≤ xs.length ∧ i ≤ 100 ∧ ∀ j, j < i → ((xs.getD j (false, [])).2.length : Int) ≤ w }) => match z with | ⟨i, hi⟩ => xs.length - i) (⟨0, Nat.zero_le _, by omega, fun j h => absurd h (Nat.not_lt_zero _)⟩) (Cv.mem (.cons (t := 7) (Has.t' rfl ?_) (.cons (t := 0) (Has.t rfl) (.cons (t := 1) (Has.t rfl) (.cons (t := 2) (Has.t rfl) .nil)))) ?_) ?_
  · rfl
  · rfl
  rintro ⟨i, hi, h1, hj⟩ K4 hK4
  refine Tri.cv (Cv.wk (.cons (t := 7) (Has.t rfl) (.cons (t := 0) (Has.t rfl) (.cons (t := 1) (Has.t rfl) (.cons (t := 2) (Has.t rfl) .nil))))) ?_
  refine Tri.memEq (M' := []) rfl ?_
  refine Tri.seq fun K5 hK5 => ?_
  refine Tri.seq fun K6 hK6 => ?_
  refine Tri.region ?_
  refine st (OK1.mv (Has.t rfl)) rfl ?_
  refine st (OK1.mv (Has.t rfl)) rfl ?_
  refine st (OK1.len sl53 (Has.t rfl)) rfl ?_
  refine st (OK1.ltI (Has.t rfl) (Has.t rfl)) rfl ?_
  refine st (OK1.mv (Has.t rfl)) rfl ?_
  refine stT rfl rfl (fun hg => have hg' := BP.t hg; OK1.mv (Has.t rfl)) rfl ?_
  refine stT rfl rfl (fun hg => have hg' := BP.t hg; OK1.ltI (Has.g rfl hg) (Has.cI 100 rfl)) rfl ?_
  refine st (OK1.pickAnd (Has.t rfl) (fun h => Has.g rfl h)) rfl ?_
  refine nl ?_
  refine At.thn (hK6 _ _ ?_); clear hK6
  refine Tri.cond (Has.t rfl) (fun hc1 => ?_) (fun hc1 => ?_)
  · have hc1 := BP.t hc1
    refine Tri.skip ?_
    refine At.thn (hK5 _ _ ?_); clear hK5
    refine Tri.seq fun K7 hK7 => ?_
    refine Tri.block ?_
    refine Tri.seq fun K8 hK8 => ?_
    refine Tri.region ?_
    refine st (OK1.mv (Has.t rfl)) rfl ?_
    refine st (OK1.mv (Has.t rfl)) rfl ?_
    refine st (OK1.ixK sl53 ty59 (Has.t rfl) (Has.t rfl) zc_len ⟨by omega, by omega⟩ (getD_some (d := (false, [])) (by first | omega | (simp only [Int.toNat_natCast, List.length_set]; omega)))) rfl ?_
    refine st (OK1.fieldAddrP (Has.t rfl) fld59_1 ty57 (Ss' := [_]) rfl) rfl ?_
    refine st (OK1.loadP1 (Has.t rfl) ty57) rfl ?_
    refine st (OK1.len sl57 (Has.t rfl)) rfl ?_
    refine st (OK1.mv (Has.t rfl)) rfl ?_
    refine st (OK1.gtI (Has.t rfl) (Has.t rfl)) rfl ?_
    refine nl ?_
    refine At.thn (hK8 _ _ ?_); clear hK8
    refine Tri.cond (Has.t rfl) (fun hc2 => ?_) (fun hc2 => ?_)
    · have hc2 := BP.t hc2
      have hNo : ¬ ((xs.getD i (false, [])).2.length : Int) ≤ w := (by simp only [Int.toNat_natCast] at hc2; omega)
      refine Tri.seq fun K9 hK9 => ?_
      refine Tri.region ?_
      refine st (OK1.as (Has.cB false)) rfl ?_
      refine nl ?_
      refine At.thn (hK9 _ _ ?_); clear hK9
      refine Tri.ret ?_
      refine At.blr ?_
      refine At.thr ?_
      refine At.thr ?_
      refine At.blr ?_
      refine At.thr ?_
      refine rt1 (.inl rfl) Try.results91 rfl (.tmp (Has.t' rfl ?_) .nil)
      all_goals (exact isB_eq (fewB_no (by omega) (by omega) hNo).symm)
    · have hc2 := BP.f hc2
      have hLe : ((xs.getD i (false, [])).2.length : Int) ≤ w := (by simp only [Int.toNat_natCast] at hc2; omega)
      refine Tri.skip ?_
      refine At.bln ?_
      refine At.thn (hK7 _ _ ?_); clear hK7
      refine Tri.region ?_
      refine st (OK1.mv (Has.t rfl)) rfl ?_
      refine st (OK1.addI (Has.t rfl) (Has.cI 1 rfl) (by first | omega | assumption) (by first | omega | assumption)) rfl ?_
      refine st (OK1.as (Has.t rfl)) rfl ?_
      refine nl ?_
      refine At.thn ?_
      refine hK4 (⟨i + 1, by omega, by omega, fun j h => by rcases Nat.lt_or_ge j i with h2 | h2; exact hj j h2; rw [show j = i by omega]; exact hLe⟩) _ _ ?_ (Cv.mem (.cons (t := 7) (Has.t' rfl ?_) (.cons (t := 0) (Has.t rfl) (.cons (t := 1) (Has.t rfl) (.cons (t := 2) (Has.t rfl) .nil)))) ?_)
      · show xs.length - (i + 1) < xs.length - i; omega
      · exact isI_eq (by omega)
      · rfl
  · have hc1 := BP.f hc1
    refine Tri.exit ?_
    refine At.the ?_
    refine At.the ?_
    refine At.blh ?_
    refine At.thn (hK2 _ _ ?_); clear hK2
    refine Tri.cv (Cv.wk (.cons (t := 0) (Has.t rfl) (.cons (t := 1) (Has.t rfl) .nil))) ?_
    refine Tri.seq fun K10 hK10 => ?_
    refine Tri.region ?_
    refine st (OK1.mv (Has.t rfl)) rfl ?_
    refine st (OK1.len sl53 (Has.t rfl)) rfl ?_
    refine st (OK1.mv (Has.t rfl)) rfl ?_
    refine st (OK1.leI (Has.t rfl) (Has.t rfl)) rfl ?_
    refine st (OK1.as (Has.t rfl)) rfl ?_
    refine nl ?_
    refine At.thn (hK10 _ _ ?_); clear hK10
    refine Tri.cv (Cv.wk (.cons (t := 6) (Has.t rfl) .nil)) ?_
    refine Tri.ret ?_
    refine rt1 (.inl rfl) Try.results91 rfl (.tmp (Has.t' rfl ?_) .nil)
    all_goals (exact isB_eq (fewB_yes (by omega) hj).symm)
end Go.Proofs.Ytfoclelageohiaa
/- Contracts: the document's matrices. -/
namespace Go.Proofs.Ytfoclelageohiaa
open Go.En Go.RowKit
set_option linter.unusedVariables false
set_option maxRecDepth 10000
open Go.Nt
open Go.Pz
open Go.Mz
open Go.Dt
set_option maxHeartbeats 4000000 in
theorem ref11_Formed {r c : Int} {xs : List (Bool × List Nat)} : Ctr Try.prog 53 [isM r c xs] (isB (formB r c xs.length)) := by
  refine Ctr.intro Try.func53 rfl (by kernel_rfl) Try.ntmps53 rfl fun w0 F0 => ?_
  refine Tri.cv (Cv.wk (.cons (t := 0) (Has.t rfl) .nil)) ?_
  refine Tri.seq fun K1 hK1 => ?_
  refine Tri.region ?_
  refine Ops.box (Has.t rfl) rfl fun b1 => ?_
  refine st (OK1.as (Has.cB false)) rfl ?_
  refine nl ?_
  refine At.thn (hK1 _ _ ?_); clear hK1
  refine Tri.seq fun K2 hK2 => ?_
  refine Tri.region ?_
  refine st (OK1.fieldAddr (Has.t rfl) fld55_0 ty3) rfl ?_
  refine st (OK1.load1 (Has.t rfl) (i := 0) rfl ty3 rfl) rfl ?_
  refine st (OK1.geI (Has.t rfl) (Has.cI 0 rfl)) rfl ?_
  refine st (OK1.mv (Has.t rfl)) rfl ?_
  refine stT rfl rfl (fun hg => have hg' := BP.t hg; OK1.fieldAddr (Has.t rfl) fld55_0 ty3) rfl ?_
  refine stT rfl rfl (fun hg => have hg' := BP.t hg; OK1.load1 (Has.g rfl hg) (i := 0) rfl ty3 rfl) rfl ?_
  refine stT rfl rfl (fun hg => have hg' := BP.t hg; OK1.leI (Has.g rfl hg) (Has.cI 64 rfl)) rfl ?_
  refine st (OK1.pickAnd (Has.t rfl) (fun h => Has.g rfl h)) rfl ?_
  refine st (OK1.mv (Has.t rfl)) rfl ?_
  refine stT rfl rfl (fun hg => have hg' := BP.t hg; OK1.fieldAddr (Has.t rfl) fld55_1 ty3) rfl ?_
  refine stT rfl rfl (fun hg => have hg' := BP.t hg; OK1.load1 (Has.g rfl hg) (i := 0) rfl ty3 rfl) rfl ?_
  refine stT rfl rfl (fun hg => have hg' := BP.t hg; OK1.geI (Has.g rfl hg) (Has.cI 0 rfl)) rfl ?_
  refine st (OK1.pickAnd (Has.t rfl) (fun h => Has.g rfl h)) rfl ?_
  refine st (OK1.mv (Has.t rfl)) rfl ?_
  refine stT rfl rfl (fun hg => have hg' := BP.t hg; OK1.fieldAddr (Has.t rfl) fld55_1 ty3) rfl ?_
  refine stT rfl rfl (fun hg => have hg' := BP.t hg; OK1.load1 (Has.g rfl hg) (i := 0) rfl ty3 rfl) rfl ?_
  refine stT rfl rfl (fun hg => have hg' := BP.t hg; OK1.leI (Has.g rfl hg) (Has.cI 64 rfl)) rfl ?_
  refine st (OK1.pickAnd (Has.t rfl) (fun h => Has.g rfl h)) rfl ?_
  refine st (OK1.mv (Has.t rfl)) rfl ?_
  refine stT rfl rfl (fun hg => have hg' := BP.t hg; OK1.fieldAddr (Has.t rfl) fld55_2 ty53) rfl ?_
  refine stT rfl rfl (fun hg => have hg' := BP.t hg; OK1.load1 (Has.g rfl hg) (i := 0) rfl ty53 rfl) rfl ?_
  refine stT rfl rfl (fun hg => have hg' := BP.t hg; OK1.len sl53 (Has.g rfl hg)) rfl ?_
  refine stT rfl rfl (fun hg => have hg' := BP.t hg; OK1.fieldAddr (Has.t rfl) fld55_0 ty3) rfl ?_
  refine stT rfl rfl (fun hg => have hg' := BP.t hg; OK1.load1 (Has.g rfl hg) (i := 0) rfl ty3 rfl) rfl ?_
  refine stT rfl rfl (fun hg => have hg' := BP.t hg; OK1.fieldAddr (Has.t rfl) fld55_1 ty3) rfl ?_
  refine stT rfl rfl (fun hg => have hg' := BP.t hg; OK1.load1 (Has.g rfl hg) (i := 0) rfl ty3 rfl) rfl ?_
  refine stT rfl rfl (fun hg => have hg' := BP.t hg; OK1.mulI (Has.g rfl hg) (Has.g rfl hg) (by have := mul_bnd ⟨⟨hg'.1.1.1, hg'.1.1.2⟩, hg'.1.2, hg'.2⟩; omega) (by have := mul_bnd ⟨⟨hg'.1.1.1, hg'.1.1.2⟩, hg'.1.2, hg'.2⟩; omega)) rfl ?_
  refine stT rfl rfl (fun hg => have hg' := BP.t hg; OK1.eqI (Has.g rfl hg) (Has.g rfl hg)) rfl ?_
  refine st (OK1.pickAnd (Has.t rfl) (fun h => Has.g rfl h)) rfl ?_
  refine st (OK1.as (Has.t rfl)) rfl ?_
  refine nl ?_
  refine At.thn (hK2 _ _ ?_); clear hK2
  refine Tri.cv (Cv.wk (.cons (t := 2) (Has.t rfl) .nil)) ?_
  refine Tri.ret ?_
  refine rt1 (.inl rfl) Try.results53 rfl (.tmp (Has.t' rfl ?_) .nil)
  all_goals (exact isB_eq (by unfold formB; simp only [Bool.and_assoc]))
set_option maxHeartbeats 4000000 in
theorem ref11_Few {r c n w : Int} {xs : List (Bool × List Nat)} : Ctr Try.prog 42 [isM r c xs, isI n, isI w] (isB (decide (r ≤ n) && decide (c ≤ n) && fewB xs 100 w)) := by
  refine Ctr.intro Try.func42 rfl (by kernel_rfl) Try.ntmps42 rfl fun w0 F0 => ?_
  refine Tri.cv (Cv.wk (.cons (t := 0) (Has.t rfl) (.cons (t := 1) (Has.t rfl) (.cons (t := 2) (Has.t rfl) .nil)))) ?_
  refine Tri.fact (Has.rngI (Has.t (t := 1) rfl)) fun lt1 => ?_
  refine Tri.fact (Has.rngI (Has.t (t := 2) rfl)) fun lt2 => ?_
  refine Tri.seq fun K1 hK1 => ?_
  refine Tri.region ?_
  refine Ops.box (Has.t rfl) rfl fun b1 => ?_
  refine st (OK1.as (Has.cB false)) rfl ?_
  refine nl ?_
  refine At.thn (hK1 _ _ ?_); clear hK1
  refine Tri.seq fun K2 hK2 => ?_
  refine Tri.region ?_
  refine st (OK1.fieldAddr (Has.t rfl) fld55_0 ty3) rfl ?_
  refine st (OK1.load1 (Has.t rfl) (i := 0) rfl ty3 rfl) rfl ?_
  refine st (OK1.mv (Has.t rfl)) rfl ?_
  refine st (OK1.leI (Has.t rfl) (Has.t rfl)) rfl ?_
  refine st (OK1.mv (Has.t rfl)) rfl ?_
  refine stT rfl rfl (fun hg => have hg' := BP.t hg; OK1.fieldAddr (Has.t rfl) fld55_1 ty3) rfl ?_
  refine stT rfl rfl (fun hg => have hg' := BP.t hg; OK1.load1 (Has.g rfl hg) (i := 0) rfl ty3 rfl) rfl ?_
  refine stT rfl rfl (fun hg => have hg' := BP.t hg; OK1.mv (Has.t rfl)) rfl ?_
  refine stT rfl rfl (fun hg => have hg' := BP.t hg; OK1.leI (Has.g rfl hg) (Has.g rfl hg)) rfl ?_
  refine st (OK1.pickAnd (Has.t rfl) (fun h => Has.g rfl h)) rfl ?_
  refine st (OK1.mv (Has.t rfl)) rfl ?_
  refine stT rfl rfl (fun hg => have hg' := BP.t hg; OK1.fieldAddr (Has.t rfl) fld55_2 ty53) rfl ?_
  refine stT rfl rfl (fun hg => have hg' := BP.t hg; OK1.load1 (Has.g rfl hg) (i := 0) rfl ty53 rfl) rfl ?_
  refine stT rfl rfl (fun hg => have hg' := BP.t hg; OK1.mv (Has.t rfl)) rfl ?_
  refine stT rfl rfl (fun hg => have hg' := BP.t hg; OK1.call (ref10_Few) (.cons (Has.g rfl hg) (.cons (Has.cI 100 rfl) (.cons (Has.g rfl hg) .nil)))) rfl ?_
  refine st (OK1.pickAnd (Has.t rfl) (fun h => Has.g rfl h)) rfl ?_
  refine st (OK1.as (Has.t rfl)) rfl ?_
  refine nl ?_
  refine At.thn (hK2 _ _ ?_); clear hK2
  refine Tri.cv (Cv.wk (.cons (t := 6) (Has.t rfl) .nil)) ?_
  refine Tri.ret ?_
  refine rt1 (.inl rfl) Try.results42 rfl (.tmp (Has.t' rfl ?_) .nil)
  all_goals (rfl)
end Go.Proofs.Ytfoclelageohiaa
/- Contracts: the greatest common divisor with what makes it; rests, inverses. -/
namespace Go.Proofs.Ytfoclelageohiaa
open Go.En Go.RowKit
set_option linter.unusedVariables false
set_option maxRecDepth 10000
open Go.Nt
set_option maxHeartbeats 4000000 in
theorem modn_Mod {m n : Bool} {xs ys : List Nat} (hx : (List.length (words (val xs))) < 4294700000) (hy : (List.length (words (val ys))) < 4294700000) : Ctr Try.prog 112 [Flat [isB m, isWords xs], Flat [isB n, isWords ys]] (isTup [isZ (if 0 < zv n ys then zv m xs % zv n ys else 0), isB (decide (0 < zv n ys))]) := by
  refine Ctr.intro Try.func112 rfl (by kernel_rfl) Try.ntmps112 rfl fun w0 F0 => ?_
  refine Tri.cv (Cv.wk (.cons (t := 0) (Has.t rfl) (.cons (t := 1) (Has.t rfl) .nil))) ?_
  refine Tri.fact (Has.okZ (Has.t (t := 0) rfl)) fun okz0 => ?_
  refine Tri.fact (Has.okZ (Has.t (t := 1) rfl)) fun okz1 => ?_
  refine Tri.seq fun K1 hK1 => ?_
  refine Tri.region ?_
  refine Ops.box (Has.t rfl) rfl fun b1 => ?_
  refine Ops.box (Has.t rfl) rfl fun b2 => ?_
  refine Ops.alloc [isB false, SlM isU []] zero59 (fun _ _ => ⟨rfl, nilM _ _, trivial⟩) rfl fun b3 => ?_
  refine st (OK1.as (Has.cB false)) rfl ?_
  refine nl ?_
  refine At.thn (hK1 _ _ ?_); clear hK1
  refine Tri.seq fun K2 hK2 => ?_
  refine Tri.seq fun K3 hK3 => ?_
  refine Tri.region ?_
  refine st (OK1.load (Has.t rfl) (i := 1) rfl ty59 rfl (Ss' := [_, _]) rfl) rfl ?_
  refine st (OK1.call (zint_Sign (by first | with_reducible assumption | omega | (simp only [val_words, zv_nf]; omega) | (simp only [val_words, zv_nf, Int.natAbs_natCast]; omega) | (simp only [val_words]; exact Nat.le_trans (nw_small' (by omega)) (by decide)))) (.cons (Has.t rfl) .nil)) rfl ?_
  refine st (OK1.leI (Has.t rfl) (Has.cI 0 rfl)) rfl ?_
  refine nl ?_
  refine At.thn (hK3 _ _ ?_); clear hK3
  refine Tri.cond (Has.t rfl) (fun hc1 => ?_) (fun hc1 => ?_)
  · have hc1 := BP.t hc1
    have hN : ¬ 0 < zv n ys := fun e => by have := (sgn_pos _).2 e; omega
    refine Tri.seq fun K4 hK4 => ?_
    refine Tri.region ?_
    refine st (OK1.eq (OK1.build [isB false, SlM isU []] pl59 zero59 (fun _ _ => ⟨rfl, nilM _ _, trivial⟩) .nil (Z'' := [_, _]) rfl) (isZ0)) rfl ?_
    refine Ops.store (Has.t rfl) (Has.t rfl) (i := 0) rfl ty59 rfl rfl (Ss' := [_, _]) rfl (M' := [(some _, cellM [_, _]), _, _]) rfl ?_
    refine st (OK1.as (Has.cB false)) rfl ?_
    refine nl ?_
    refine At.thn (hK4 _ _ ?_); clear hK4
    refine Tri.cv (Cv.wk (.cons (t := 2) (Has.t rfl) (.cons (t := 3) (Has.t rfl) (.cons (t := 4) (Has.t rfl) (.cons (t := 5) (Has.t rfl) .nil))))) ?_
    refine Tri.ret ?_
    refine At.thr ?_
    refine rtN (.inl rfl) Try.results112 rfl rfl (.cell rfl (i := 0) rfl ty59 rfl ?_ (.tmp (Has.t' rfl ?_) .nil))
    · exact isZ_eq (if_neg hN).symm
    · exact isB_eq (decide_eq_false hN).symm
  · have hc1 := BP.f hc1
    have hP : 0 < zv n ys := (sgn_pos _).1 (by omega)
    refine Tri.skip ?_
    refine At.thn (hK2 _ _ ?_); clear hK2
    refine Tri.cv (Cv.wk (.cons (t := 2) (Has.t rfl) (.cons (t := 3) (Has.t rfl) (.cons (t := 4) (Has.t rfl) (.cons (t := 5) (Has.t rfl) .nil))))) ?_
    refine Tri.seq fun K5 hK5 => ?_
    refine Tri.region ?_
    refine st (OK1.load (Has.t rfl) (i := 2) rfl ty59 rfl (Ss' := [_, _]) rfl) rfl ?_
    refine st (OK1.load (Has.t rfl) (i := 1) rfl ty59 rfl (Ss' := [_, _]) rfl) rfl ?_
    refine st (OK1.call (zint_Euclid (by first | with_reducible assumption | omega | (simp only [val_words, zv_nf]; omega) | (simp only [val_words, zv_nf, Int.natAbs_natCast]; omega) | (simp only [val_words]; exact Nat.le_trans (nw_small' (by omega)) (by decide))) (by first | with_reducible assumption | omega | (simp only [val_words, zv_nf]; omega) | (simp only [val_words, zv_nf, Int.natAbs_natCast]; omega) | (simp only [val_words]; exact Nat.le_trans (nw_small' (by omega)) (by decide)))) (.cons (Has.t rfl) (.cons (Has.t rfl) .nil))) rfl ?_
    refine st (OK1.mv (Has.t rfl)) rfl ?_
    refine st (OK1.ext (Has.t rfl) rfl) rfl ?_
    refine st (OK1.ext (Has.t rfl) rfl) rfl ?_
    refine st (OK1.ext (Has.t rfl) rfl) rfl ?_
    refine Ops.alloc [isB false, SlM isU []] zero59 (fun _ _ => ⟨rfl, nilM _ _, trivial⟩) rfl fun b4 => ?_
    refine Ops.alloc [isB false, SlM isU []] zero59 (fun _ _ => ⟨rfl, nilM _ _, trivial⟩) rfl fun b5 => ?_
    refine Ops.store (Has.t rfl) (Has.t rfl) (i := 1) rfl ty59 rfl rfl (Ss' := [_, _]) rfl (M' := [_, (some _, cellM [_, _]), _, _, _]) rfl ?_
    refine Ops.store (Has.t rfl) (Has.t rfl) (i := 0) rfl ty59 rfl rfl (Ss' := [_, _]) rfl (M' := [(some _, cellM [_, _]), _, _, _, _]) rfl ?_
    refine st (OK1.as (Has.t rfl)) rfl ?_
    refine nl ?_
    refine At.thn (hK5 _ _ ?_); clear hK5
    refine Tri.cv (Cv.wk (.cons (t := 4) (Has.t rfl) (.cons (t := 5) (Has.t rfl) (.cons (t := 7) (Has.t rfl) (.cons (t := 8) (Has.t rfl) .nil))))) ?_
    refine Tri.seq fun K6 hK6 => ?_
    refine Tri.region ?_
    refine st (OK1.load (Has.t rfl) (i := 0) rfl ty59 rfl (Ss' := [_, _]) rfl) rfl ?_
    refine st (OK1.mv (Has.t rfl)) rfl ?_
    refine Ops.store (Has.t rfl) (Has.t rfl) (i := 2) rfl ty59 rfl rfl (Ss' := [_, _]) rfl (M' := [_, _, (some _, cellM [_, _]), _, _]) rfl ?_
    refine st (OK1.as (Has.t rfl)) rfl ?_
    refine nl ?_
    refine At.thn (hK6 _ _ ?_); clear hK6
    refine Tri.ret ?_
    refine rtN (.inl rfl) Try.results112 rfl rfl (.cell rfl (i := 2) rfl ty59 rfl ?_ (.tmp (Has.t' rfl ?_) .nil))
    · exact isZ_eq (by rw [if_neg (by omega), if_pos hP])
    · exact isB_eq (decide_eq_decide.2 ⟨fun _ => hP, fun _ => by omega⟩)
end Go.Proofs.Ytfoclelageohiaa
