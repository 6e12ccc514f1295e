/- Rules and contracts, part 3 of 5. -/
import Derived.Test.YthkdmhaafanjlaaGreatQGramOf2
namespace Go.Proofs.YthkdmhaafanjlaaGreat
open Go.En Go.RowKit
set_option maxRecDepth 10000
set_option maxHeartbeats 4000000
open Go.Nt
theorem div_Small {xs : List Nat} {x : Nat} (hx : (List.length (words (val xs))) < 4294900000) : Ctr Tryz.prog 275 [isWords xs, isU x] (isTup [isWords (words (val xs / x)), isU (if x = 0 then 0 else val xs % x), isB (decide (x ≠ 0))]) := by
 refine Ctr.intro Tryz.func275 rfl (by kernel_rfl) Tryz.ntmps275 rfl fun w0 F0 => .cv (Cv.wk (.l [0, 1] rfl)) (.fact (Has.lenLt (Has.t (t := 0) rfl)) fun lt0 => .fact (Has.okW (Has.t (t := 0) rfl)) fun ok0 => .fact (Has.ltU (Has.t (t := 1) rfl)) fun lt1 => .seq fun _ k1 => .region (st (.as (.cW (f := isU))) rfl (st (.as (.cU 0 rfl)) rfl (st (.as (.cB false)) rfl (nl (.thn (k1 _ _ (.seq fun _ k2 => .seq fun _ k3 => .region (st (.mv (.t rfl)) rfl (st (.eqU (.t rfl) (.cU 0 rfl)) rfl (nl (.thn (k3 _ _ (.cond (.t rfl) (fun hc1 => ?_) (fun hc1 => ?_)))))))))))))))
 ·have hc1 := BP.t hc1
  refine .seq fun _ k4 => .region (st (.as (.cW (f := isU))) rfl (st (.as (.cU 0 rfl)) rfl (st (.as (.cB false)) rfl (nl (.thn (k4 _ _ (.ret (.thr (rtN (.inl rfl) Tryz.results275 rfl rfl (.tmp (Has.t' rfl ?_) (.tmp (Has.t' rfl ?_) (.tmp (Has.t' rfl ?_) .nil))))))))))))
  ·exact SlM_eq (by rw [hc1, Nat.div_zero, words_zero])
  ·exact isU_eq (by rw [if_pos hc1])
  ·exact isB_eq (by simp [hc1])
 ·have hc1 := BP.f hc1
  refine .skip (.thn (k2 _ _ (.seq fun _ k5 => .region (st (.mv (.t rfl)) rfl (.callO (nat_NormO (by omega)) (.cons (.t rfl) .nil) rfl (fun hO2 => ?_) (fun hO2 b1 cb1 jb1 => ?_))))))
  ·skip
   refine st (.as (.t rfl)) rfl (nl (.thn (k5 _ _ (.seq fun _ k6 => .region (st (.as (.cU 0 rfl)) rfl (nl (.thn (k6 _ _ (.seq fun _ k7 => .seq fun _ k8 => .region (st (.mv (.t rfl)) rfl (st (.len sl29 (.t rfl)) rfl (st (.subI (.t rfl) (.cI 1 rfl) (by first | omega | (simp only [List.length_nil]; omega)) (by first | omega | (simp only [List.length_nil]; omega))) rfl ?_))))))))))))
   refine st (.as (.t rfl)) rfl (nl (.thn (k8 _ _ (.cv (Cv.wk (.l [0, 1, 4, 5, 6, 7, 8] rfl)) (.block (.loopF [0, 1, 4, 5, 6] (fun (_ : Unit) => [(8, isI (-1)), (7, isU 0)]) (fun M => fun (_ : Unit) => M) (fun (_ : Unit) => 0) (()) (Cv.mem (.c 8 rfl ?_ (.c 7 rfl ?_ (.l [0, 1, 4, 5, 6] rfl))) ?_) ?_))))))
   ·rfl
   ·rfl
   ·rfl
   rintro _ K9 hK9
   refine .cv (Cv.wk (.l [8, 7, 0, 1, 4, 5, 6] rfl)) (.seq fun _ k10 => .seq fun _ k11 => .region (st (.mv (.t rfl)) rfl (st (.geI (.t rfl) (.cI 0 rfl)) rfl (nl (.thn (k11 _ _ (.cond (.t rfl) (fun hc3 => ?_) (fun hc3 => ?_))))))))
   ·have hc3 := BP.t hc3
    exfalso; first | omega | contradiction | (revert hc3; simp)
   ·have hc3 := BP.f hc3
    refine .exit (.the (.the (.blh (.thn (k7 _ _ (.seq fun _ k12 => .region (st (.mv (.t rfl)) rfl (st (.call (nat_Norm (by first | (rw [val_wordsN]; exact normLe (by omega)) | (show (words 0).length ≤ _; rw [words_zero]; exact Nat.zero_le _))) (.cons (.t rfl) .nil)) rfl ?_))))))))
    refine st (.mv (.t rfl)) rfl (st (.as (.t rfl)) rfl (st (.as (.t rfl)) rfl (st (.as (.cB true)) rfl (nl (.thn (k12 _ _ (.cv (Cv.wk (.l [4, 5, 6] rfl)) (.ret (rtN (.inl rfl) Tryz.results275 rfl rfl (.tmp (Has.t' rfl ?_) (.tmp (Has.t' rfl ?_) (.tmp (Has.t' rfl ?_) .nil))))))))))))
    ·exact SlM_eq (by rw [of_words_nil hO2, Nat.zero_div]; rfl)
    ·exact isU_eq (by rw [if_neg hc1, of_words_nil hO2, Nat.zero_mod])
    ·exact isB_eq (by simp [hc1])
  ·skip
   refine st (.as (.t rfl)) rfl (nl (.thn (k5 _ _ (.seq fun _ k13 => .region (st (.as (.cU 0 rfl)) rfl (nl (.thn (k13 _ _ (.seq fun _ k14 => .seq fun _ k15 => .region (st (.mv (.t rfl)) rfl (st (.len sl29 (.t rfl)) rfl (st (.subI (.t rfl) (.cI 1 rfl) (by first | omega | (simp only [List.length_nil]; omega)) (by first | omega | (simp only [List.length_nil]; omega))) rfl ?_))))))))))))
   refine st (.as (.t rfl)) rfl (nl (.thn (k15 _ _ (.cv (Cv.wk (.l [0, 1, 4, 5, 6, 7, 8] rfl)) (.block (.loopF [0, 1, 4, 5, 6] (fun (z : { k : Nat // k ≤ (List.length (words (val xs))) }) => match z with | ⟨k, hI⟩ => [(8, isI ((k : Int) - 1)), (7, isU (val xs / W ^ k % x))]) (fun M => fun (z : { k : Nat // k ≤ (List.length (words (val xs))) }) => match z with | ⟨k, hI⟩ => [(some b1, cellM (List.map isU (mix k (val xs) (val xs / x) ((List.length (words (val xs)))) ++ List.replicate jb1 0)))]) (fun (z : { k : Nat // k ≤ (List.length (words (val xs))) }) => match z with | ⟨k, hI⟩ => k) (⟨(List.length (words (val xs))), Nat.le_refl _⟩) (Cv.mem (.c 8 rfl ?_ (.c 7 rfl ?_ (.l [0, 1, 4, 5, 6] rfl))) ?_) ?_))))))
   ·rfl
   ·exact isU_eq (by rw [Nat.div_eq_of_lt (nw_lt _), Nat.zero_mod])
   ·exact memL_eq (smallStart _ _ _)
   rintro ⟨k, hI⟩ K16 hK16
   refine .cv (Cv.wk (.l [8, 7, 0, 1, 4, 5, 6] rfl)) (.memEq (M' := [(some b1, cellM (List.map isU (mix k (val xs) (val xs / x) ((List.length (words (val xs)))) ++ List.replicate jb1 0)))]) rfl ?_)
   have wl : (mix k (val xs) (val xs / x) ((List.length (words (val xs)))) ++ List.replicate jb1 0).length = (List.length (words (val xs))) + jb1 := by rw [List.length_append, mix_len hI, List.length_replicate]
   have ek : ((k : Int) - 1).toNat = k - 1 := by omega
   refine .seq fun _ k17 => .seq fun _ k18 => .region (st (.mv (.t rfl)) rfl (st (.geI (.t rfl) (.cI 0 rfl)) rfl (nl (.thn (k18 _ _ (.cond (.t rfl) (fun hc4 => ?_) (fun hc4 => ?_)))))))
   ·have hc4 := BP.t hc4
    refine .skip (.thn (k17 _ _ (.seq fun _ k19 => .block (.region (st (.mv (.t rfl)) rfl (st (.mv (.t rfl)) rfl (st (.mv (.t rfl)) rfl (st (.mv (.t rfl)) rfl (st (.mv (.t rfl)) rfl (st (.eq (.ixWin sl29 ty39 (.t rfl) (.t rfl) ⟨by omega, by omega⟩) (isPtr_eq (by first | exact ixo0 | exact ixo2 | exact ixo1))) rfl (st (.eq (.load1 (.t rfl) (i := 0) rfl ty39 (map_some (getD_some (d := 0) (by omega)))) ((show isU _ = isU (dig (val xs) (k - 1)) from isU_eq (by rw [ek, getD_app (by rw [mix_len hI]; omega), mix_low (by omega)])))) rfl ?_)))))))))))
    refine st (.mv (.t rfl)) rfl (st (.call (bits_Div64 (Nat.mod_lt _ (by omega))) (.cons (.t rfl) (.cons (.t rfl) (.cons (.t rfl) .nil)))) rfl (st (.mv (.t rfl)) rfl (st (.ext (.t rfl) rfl) rfl (st (.ext (.t rfl) rfl) rfl (st (.eq (.ixWin sl29 ty39 (.t rfl) (.t rfl) ⟨by omega, by omega⟩) (isPtr_eq (by first | exact ixo0 | exact ixo2 | exact ixo1))) rfl (.storeM (.t rfl) (.t rfl) (i := 0) rfl ty39 (by omega) (M' := [(_, _)]) rfl (st (.as (.t rfl)) rfl (nl (.bln (.thn (k19 _ _ (.region (st (.mv (.t rfl)) rfl (st (.subI (.t rfl) (.cI 1 rfl) (by first | omega | (simp only [List.length_nil]; omega)) (by first | omega | (simp only [List.length_nil]; omega))) rfl ?_))))))))))))))
    refine st (.as (.t rfl)) rfl (nl (.thn ?_))
    have hs := small_step (A := val xs) (x := x) (by omega) (by omega : 0 < k)
    refine hK16 (⟨k - 1, by omega⟩) _ _ ?_ (Cv.mem (.c 8 rfl ?_ (.c 7 rfl ?_ (.l [0, 1, 4, 5, 6] rfl))) ?_)
    ·show k - 1 < k; omega
    ·exact isI_eq (by show _ = ((k - 1 : Nat) : Int) - 1; omega)
    ·exact isU_eq hs.2
    ·exact memL_eq (by rw [ek]; exact mix_down (by omega) hI hs.1)
   ·have hc4 := BP.f hc4
    refine .exit (.the (.the (.blh (.thn (k14 _ _ (.seq fun _ k20 => .cv (Cv.freeze' (t := 0) (i := 0) (ys := wordsN ((List.length (words (val xs)))) (val xs / x)) rfl rfl rfl (by omega) (by obtain rfl : k = 0 := (by omega); exact smallEnd rfl)) ?_))))))
    refine .memEq (M' := []) rfl (.cv (Cv.wk (.l [0, 1, 4, 5, 6, 8, 7, 16, 17] rfl)) (.region (st (.mv (.t rfl)) rfl (st (.call (nat_Norm (by first | (rw [val_wordsN]; exact normLe (by omega)) | (show (words 0).length ≤ _; rw [words_zero]; exact Nat.zero_le _))) (.cons (.t rfl) .nil)) rfl ?_))))
    refine st (.mv (.t rfl)) rfl (st (.as (.t rfl)) rfl (st (.as (.t rfl)) rfl (st (.as (.cB true)) rfl (nl (.thn (k20 _ _ (.cv (Cv.wk (.l [4, 5, 6] rfl)) (.ret (rtN (.inl rfl) Tryz.results275 rfl rfl (.tmp (Has.t' rfl ?_) (.tmp (Has.t' rfl ?_) (.tmp (Has.t' rfl ?_) .nil))))))))))))
    ·exact SlM_eq (words_quo _ _)
    ·obtain rfl : k = 0 := (by omega); exact isU_eq (by rw [if_neg hc1, Nat.pow_zero, Nat.div_one])
    ·exact isB_eq (by simp [hc1])
theorem div_guess {u2 u1 u0 v1 v0 : Nat} (h : 0 < v1) : Ctr Tryz.prog 291 [isU u2, isU u1, isU u0, isU v1, isU v0] (isU (gss u2 u1 u0 v1 v0)) := by
 refine Ctr.intro Tryz.func291 rfl (by kernel_rfl) Tryz.ntmps291 rfl fun w0 F0 => .cv (Cv.wk (.l [0, 1, 2, 3, 4] rfl)) (.fact (Has.ltU (Has.t (t := 0) rfl)) fun lt0 => .fact (Has.ltU (Has.t (t := 1) rfl)) fun lt1 => .fact (Has.ltU (Has.t (t := 2) rfl)) fun lt2 => .fact (Has.ltU (Has.t (t := 3) rfl)) fun lt3 => .fact (Has.ltU (Has.t (t := 4) rfl)) fun lt4 => .seq fun _ k1 => .region (st (.as (.cU 0 rfl)) rfl (nl (.thn (k1 _ _ (.seq fun _ k2 => .seq fun _ k3 => .region (st (.mv (.t rfl)) rfl (st (.mv (.t rfl)) rfl (st (.gtU (.t rfl) (.t rfl)) rfl (nl (.thn (k3 _ _ (.cond (.t rfl) (fun hc1 => ?_) (fun hc1 => ?_))))))))))))))
 ·have hc1 := BP.t hc1
  refine .seq fun _ k4 => .region (st (.as (.cU 18446744073709551615 rfl)) rfl (nl (.thn (k4 _ _ (.ret (.thr (rt1 (.inl rfl) Tryz.results291 rfl (.tmp (Has.t' rfl ?_) .nil))))))))
  all_goals (exact isU_eq (gss_max hc1 lt4 h))
 ·have hc1 := BP.f hc1
  refine .skip (.thn (k2 _ _ (.seq fun _ k5 => .region (st (.as (.cU 18446744073709551615 rfl)) rfl (st (.as (.cU 0 rfl)) rfl (st (.as (.cU 0 rfl)) rfl (nl (.thn (k5 _ _ (.cutF [2, 3, 4, 10] (fun (z : { z : Nat × Nat // Gw u2 u1 u0 v1 v0 z.1 z.2 }) => match z with | ⟨(q, r), hI⟩ => [(11, isU q), (12, isU (r % 18446744073709551616)), (13, isU (r / 18446744073709551616))]) (fun M => fun (z : { z : Nat × Nat // Gw u2 u1 u0 v1 v0 z.1 z.2 }) => match z with | ⟨(q, r), hI⟩ => M) (fun K6 hK6 => ?_) ?_))))))))))
  ·skip
   refine .seq fun _ k7 => .region (st (.mv (.t rfl)) rfl (st (.mv (.t rfl)) rfl (st (.eqU (.t rfl) (.t rfl)) rfl (nl (.thn (k7 _ _ (.cv (Cv.wk (.l [0, 1, 2, 3, 4, 10, 11, 12, 13, 21] rfl)) (.cond (.t rfl) (fun hc2 => ?_) (fun hc2 => ?_)))))))))
   ·have hc2 := BP.t hc2
    refine .region (st (.mv (.t rfl)) rfl (st (.mv (.t rfl)) rfl (st (.add64 ext_add64 (.t rfl) (.t rfl) (.cU 0 rfl) (by first | with_reducible assumption | omega) ⟨(by first | with_reducible assumption | omega), (by first | with_reducible assumption | omega)⟩) rfl (st (.mv (.t rfl)) rfl (st (.ext (.t rfl) rfl) rfl (st (.ext (.t rfl) rfl) rfl (st (.as (.t rfl)) rfl (st (.as (.t rfl)) rfl (nl (.thn (hK6 (⟨(18446744073709551615, u1 + v1), Gw.same hc2 lt1 lt3⟩) _ _ (Cv.mem (.c 11 rfl ?_ (.c 12 rfl ?_ (.c 13 rfl ?_ (.l [2, 3, 4, 10] rfl)))) ?_))))))))))))
    ·rfl
    ·rfl
    ·rfl
    ·rfl
   ·have hc2 := BP.f hc2
    refine .region (st (.mv (.t rfl)) rfl (st (.mv (.t rfl)) rfl (st (.mv (.t rfl)) rfl (st (.call (bits_Div64 (by omega)) (.cons (.t rfl) (.cons (.t rfl) (.cons (.t rfl) .nil)))) rfl (st (.mv (.t rfl)) rfl (st (.ext (.t rfl) rfl) rfl (st (.ext (.t rfl) rfl) rfl (st (.as (.t rfl)) rfl (st (.as (.t rfl)) rfl (nl (.thn ?_)))))))))))
    have hm := Nat.mod_lt (u2 * 18446744073709551616 + u1) h
    refine hK6 (⟨((u2 * 18446744073709551616 + u1) / v1, (u2 * 18446744073709551616 + u1) % v1), Gw.start (by omega) lt1 lt2 lt3⟩) _ _ (Cv.mem (.c 11 rfl ?_ (.c 12 rfl ?_ (.c 13 rfl ?_ (.l [2, 3, 4, 10] rfl)))) ?_)
    ·rfl
    ·exact isU_eq (Nat.mod_eq_of_lt (by omega)).symm
    ·exact isU_eq (Nat.div_eq_of_lt (by omega)).symm
    ·rfl
  rintro ⟨⟨q, r⟩, g⟩
  refine .cv (Cv.wk (.l [11, 12, 13, 2, 3, 4, 10] rfl)) ?_
  simp only [] at g
  refine .seq fun _ k8 => .block (.loopF [2, 3, 4, 10] (fun (z : { z : Nat × Nat // Gw u2 u1 u0 v1 v0 z.1 z.2 }) => match z with | ⟨(q, r), hI⟩ => [(11, isU q), (12, isU (r % 18446744073709551616)), (13, isU (r / 18446744073709551616))]) (fun M => fun (z : { z : Nat × Nat // Gw u2 u1 u0 v1 v0 z.1 z.2 }) => match z with | ⟨(q, r), hI⟩ => M) (fun (z : { z : Nat × Nat // Gw u2 u1 u0 v1 v0 z.1 z.2 }) => match z with | ⟨(q, r), hI⟩ => q) (⟨(q, r), g⟩) (Cv.mem (.c 11 rfl ?_ (.c 12 rfl ?_ (.c 13 rfl ?_ (.l [2, 3, 4, 10] rfl)))) ?_) ?_)
  ·rfl
  ·rfl
  ·rfl
  ·rfl
  rintro ⟨⟨q, r⟩, g⟩ K9 hK9
  refine .cv (Cv.wk (.l [11, 12, 13, 2, 3, 4, 10] rfl)) ?_
  simp only [] at g
  have gq := g.q
  have gr := g.r
  refine .seq fun _ k10 => .seq fun _ k11 => .region (st (.mv (.t rfl)) rfl (st (.eqU (.t rfl) (.cU 0 rfl)) rfl (nl (.thn (k11 _ _ (.cond (.t rfl) (fun hc3 => ?_) (fun hc3 => ?_)))))))
  ·have hc3 := BP.t hc3
   refine .skip (.thn (k10 _ _ (.block (.seq fun _ k12 => .region (st (.mv (.t rfl)) rfl (st (.mv (.t rfl)) rfl (st (.call bits_Mul64 (.cons (.t rfl) (.cons (.t rfl) .nil))) rfl (st (.mv (.t rfl)) rfl (st (.ext (.t rfl) rfl) rfl (st (.ext (.t rfl) rfl) rfl (st (.as (.t rfl)) rfl (st (.as (.t rfl)) rfl (nl (.thn (k12 _ _ (.seq fun _ k13 => .seq fun _ k14 => .region (st (.mv (.t rfl)) rfl (st (.mv (.t rfl)) rfl (st (.ltU (.t rfl) (.t rfl)) rfl (st (.mv (.t rfl)) rfl ?_))))))))))))))))))))
   refine stF rfl rfl (fun hg => have hg' := BP.t hg; OK1.mv (.t rfl)) rfl ?_
   refine stF rfl rfl (fun hg => have hg' := BP.t hg; OK1.mv (.t rfl)) rfl ?_
   refine stF rfl rfl (fun hg => have hg' := BP.t hg; OK1.eqU (Has.g rfl hg) (Has.g rfl hg)) rfl ?_
   refine stF rfl rfl (fun hg => have hg' := BP.t hg; OK1.mv (Has.g rfl hg)) rfl ?_
   refine stGT rfl rfl (fun hg => have hg' := BP.t hg; OK1.mv (.t rfl)) rfl ?_
   refine stGT rfl rfl (fun hg => have hg' := BP.t hg; OK1.mv (.t rfl)) rfl ?_
   refine stGT rfl rfl (fun hg => have hg' := BP.t hg; OK1.leU (Has.g rfl hg) (Has.g rfl hg)) rfl ?_
   refine stF rfl rfl (fun hg => have hg' := BP.t hg; OK1.pickAnd (Has.g rfl hg) (fun h => Has.g rfl (ga hg h))) rfl ?_
   refine st (.pickOr (.t rfl) (fun h => Has.g rfl (ng h))) rfl (nl (.thn (k14 _ _ (.cond (.t rfl) (fun hc4 => ?_) (fun hc4 => ?_)))))
   ·have hc4 := BP.t hc4
    have ht := (test_le (p := q * v0) (r := r % 18446744073709551616) (u0 := u0) (by omega) lt2).1 hc4
    rw [Nat.mod_eq_of_lt (show r < 18446744073709551616 by omega)] at ht
    refine .exit (.the (.blm rfl (.the (.blh (.thn (k8 _ _ (.cv (Cv.wk (.l [10, 11] rfl)) (.seq fun _ k15 => .region (st (.mv (.t rfl)) rfl (st (.as (.t rfl)) rfl (nl (.thn (k15 _ _ (.ret (rt1 (.inl rfl) Tryz.results291 rfl (.tmp (Has.t' rfl ?_) .nil))))))))))))))))
    all_goals (exact isU_eq (g.exit h ht))
   ·have hc4 := BP.f hc4
    have ht : ¬ _ := fun hh => absurd ((test_le (p := q * v0) (r := r % 18446744073709551616) (u0 := u0) (by omega) lt2).2 hh) (by omega)
    have hn := Gw.next h lt3 g (by omega) (by omega)
    refine .skip (.thn (k13 _ _ (.seq fun _ k16 => .region (st (.mv (.t rfl)) rfl (st (.subU' (.t rfl) (.cU 1 rfl) (by first | with_reducible assumption | omega) (by first | with_reducible assumption | omega)) rfl (st (.as (.t rfl)) rfl (nl (.thn (k16 _ _ (.region (st (.mv (.t rfl)) rfl (st (.mv (.t rfl)) rfl (st (.add64 ext_add64 (.t rfl) (.t rfl) (.cU 0 rfl) (by first | with_reducible assumption | omega) ⟨(by first | with_reducible assumption | omega), (by first | with_reducible assumption | omega)⟩) rfl (st (.mv (.t rfl)) rfl (st (.ext (.t rfl) rfl) rfl (st (.ext (.t rfl) rfl) rfl (st (.as (.t rfl)) rfl (st (.as (.t rfl)) rfl (nl (.bln (.thn (hK9 (⟨(q - 1, r + v1), hn.1⟩) _ _ ?_ (Cv.mem (.c 11 rfl ?_ (.c 12 rfl ?_ (.c 13 rfl ?_ (.l [2, 3, 4, 10] rfl)))) ?_)))))))))))))))))))))))
    ·show q - 1 < q; have := hn.2; omega
    ·rfl
    ·exact isU_eq (by show (r % _ + v1 + 0) % _ = (r + v1) % _; omega)
    ·exact isU_eq (by show (r % _ + v1 + 0) / _ = (r + v1) / _; omega)
    ·rfl
  ·have hc3 := BP.f hc3
   refine .exit (.the (.the (.blh (.thn (k8 _ _ (.cv (Cv.wk (.l [10, 11] rfl)) (.seq fun _ k17 => .region (st (.mv (.t rfl)) rfl (st (.as (.t rfl)) rfl (nl (.thn (k17 _ _ (.ret (rt1 (.inl rfl) Tryz.results291 rfl (.tmp (Has.t' rfl ?_) .nil)))))))))))))))
   all_goals (exact isU_eq (g.exit2 h lt4 (by omega)))
end Go.Proofs.YthkdmhaafanjlaaGreat
namespace Go.Proofs.YthkdmhaafanjlaaGreat
open Go.En Go.RowKit
set_option maxRecDepth 10000
open Go.Nt
set_option maxHeartbeats 2000000 in
theorem div_take {N v q o c m : Nat} (h2 : o + ((List.length (words v)) + 1) ≤ m) (h3 : N / W ^ o < W ^ ((List.length (words v)) + 1)) : CtrM Tryz.prog 292 (fun b0 => [isWin b0 o ((List.length (words v)) + 1) c, isWords (words v), isU q]) (cellM (List.map isU (wordsN m N))) (cellM (List.map isU (wordsN m (N % W ^ o + W ^ o * (wdiff (N / W ^ o) (v * q) ((List.length (words v)) + 1)))))) (fun b0 => isB (decide (N / W ^ o < v * q))) := by
 refine CtrM.intro Tryz.func292 rfl (by kernel_rfl) Tryz.ntmps292 (fun _ => rfl) fun w0 F0 b0 => .cv (Cv.wk (.l [0, 1, 2] rfl)) (.fact (Has.lenLt (Has.t (t := 0) rfl)) fun lt0 => .fact (Has.winLe (Has.t (t := 0) rfl)) fun lw0 => .fact (Has.lenLt (Has.t (t := 1) rfl)) fun lt1 => .fact (Has.okW (Has.t (t := 1) rfl)) fun ok1 => .fact (Has.ltU (Has.t (t := 2) rfl)) fun lt2 => .seq fun _ k1 => .region (st (.as (.cB false)) rfl (nl (.thn (k1 _ _ (.seq fun _ k2 => .region (st (.as (.cU 0 rfl)) rfl (st (.as (.cU 0 rfl)) rfl (nl (.thn (k2 _ _ (.seq fun _ k3 => .seq fun _ k4 => .region (st (.mv (.t rfl)) rfl (st (.len sl29 (.t rfl)) rfl (st (.mv (.cI 0 rfl)) rfl (nl (.thn (k4 _ _ (.block (.loopF [0, 1, 2, 6, 14, 15] (fun (z : { i : Nat // i ≤ (List.length (words v)) }) => match z with | ⟨i, hI⟩ => [(16, isI (i : Int)), (7, isU (mcar 0 v q i)), (8, isU (bor (N / W ^ o) (v * q) i))]) (fun M => fun (z : { i : Nat // i ≤ (List.length (words v)) }) => match z with | ⟨i, hI⟩ => [(some b0, cellM (List.map isU (mix (o + i) (N % W ^ o + W ^ o * (wdiff (N / W ^ o) (v * q) ((List.length (words v)) + 1))) N m)))]) (fun (z : { i : Nat // i ≤ (List.length (words v)) }) => match z with | ⟨i, hI⟩ => (List.length (words v)) - i) (⟨0, Nat.zero_le _⟩) (Cv.mem (.c 16 rfl ?_ (.c 7 rfl ?_ (.c 8 rfl ?_ (.l [0, 1, 2, 6, 14, 15] rfl)))) ?_) ?_))))))))))))))))))))
 ·rfl
 ·exact isU_eq (mcar_zero _ _ _)
 ·exact isU_eq (bor_zero _ _)
 ·exact memL_eq (mix_start (by omega) (win_mod _ _ _))
 rintro ⟨i, hI⟩ K5 hK5
 refine .cv (Cv.wk (.l [16, 7, 8, 0, 1, 2, 6, 14, 15] rfl)) (.memEq (M' := [(some b0, cellM (List.map isU (mix (o + i) (N % W ^ o + W ^ o * (wdiff (N / W ^ o) (v * q) ((List.length (words v)) + 1))) N m)))]) rfl ?_)
 have wl : (mix (o + i) (N % W ^ o + W ^ o * (wdiff (N / W ^ o) (v * q) ((List.length (words v)) + 1))) N m).length = m := mix_len (by omega)
 have hcl := Nat.lt_of_le_of_lt (mcar_le 0 v q i) lt2
 have hrow := take_word lt2 (dig_lt v i) hcl (dig_lt _ _) (mul_step0 v q i)
 refine .seq fun _ k6 => .region (st (.ltI (.t rfl) (.t rfl)) rfl (nl (.thn (k6 _ _ (.seq fun _ k7 => .cond (.t rfl) (fun hc1 => ?_) (fun hc1 => ?_))))))
 ·have hc1 := BP.t hc1
  refine .skip (.thn (k7 _ _ (.seq fun _ k8 => .block (.seq fun _ k9 => .region (st (.mv (.t rfl)) rfl (st (.ixP sl29 ty39 (.t rfl) (.t rfl) ⟨by omega, by omega⟩ (getD_some (d := 0) (by first | omega | (simp only [Int.toNat_natCast, List.length_set]; omega)))) rfl ?_))))))
  refine st (.eq (.loadP1 (.t rfl) ty39) (isU_eq (getD_words _ i))) rfl (st (.as (.t rfl)) rfl (st (.as (.t rfl)) rfl (nl (.thn (k9 _ _ (.seq fun _ k10 => .region (st (.mv (.t rfl)) rfl (st (.mv (.t rfl)) rfl (st (.call (bits_Mul64) (.cons (.t rfl) (.cons (.t rfl) .nil))) rfl (st (.mv (.t rfl)) rfl (st (.ext (.t rfl) rfl) rfl (st (.ext (.t rfl) rfl) rfl (st (.as (.t rfl)) rfl (st (.as (.t rfl)) rfl (nl (.thn (k10 _ _ (.seq fun _ k11 => .region (st (.as (.cU 0 rfl)) rfl (nl (.thn (k11 _ _ (.seq fun _ k12 => .region (st (.mv (.t rfl)) rfl (st (.mv (.t rfl)) rfl (st (.add64 ext_add64 (.t rfl) (.t rfl) (.cU 0 rfl) (by first | with_reducible assumption | with_reducible exact bor_le _ _ _ | with_reducible exact dig_lt _ _ | omega) ⟨(by first | with_reducible assumption | with_reducible exact bor_le _ _ _ | with_reducible exact dig_lt _ _ | omega), (by first | with_reducible assumption | with_reducible exact bor_le _ _ _ | with_reducible exact dig_lt _ _ | omega)⟩) rfl (st (.mv (.t rfl)) rfl (st (.ext (.t rfl) rfl) rfl (st (.ext (.t rfl) rfl) rfl (st (.as (.t rfl)) rfl (st (.as (.t rfl)) rfl (nl (.thn (k12 _ _ (.seq fun _ k13 => .region (st (.mv (.t rfl)) rfl (st (.mv (.t rfl)) rfl (st (.addU' (.t rfl) (.t rfl) (by first | with_reducible assumption | with_reducible exact bor_le _ _ _ | with_reducible exact dig_lt _ _ | omega)) rfl (st (.as (.t rfl)) rfl (nl (.thn (k13 _ _ (.region (st (.mv (.t rfl)) rfl (st (.mv (.t rfl)) rfl (st (.mv (.t rfl)) rfl (st (.mv (.t rfl)) rfl (st (.eq (.ixWin sl29 ty39 (.t rfl) (.t rfl) ⟨by omega, by omega⟩) (isPtr_eq (by first | exact ixo0 | exact ixo2 | exact ixo1))) rfl (st (.eq (.load1 (.t rfl) (i := 0) rfl ty39 (map_some (getD_some (d := 0) (by first | omega | (simp only [Int.toNat_natCast, List.length_set]; omega))))) (isU_eq (rowGet (by omega)))) rfl ?_)))))))))))))))))))))))))))))))))))))))))))))))))
  refine st (.mv (.t rfl)) rfl (st (.mv (.t rfl)) rfl (st (.sub64 ext_sub64 (.t rfl) (.t rfl) (.t rfl) (by first | with_reducible assumption | with_reducible exact bor_le _ _ _ | with_reducible exact dig_lt _ _ | omega) ⟨(by first | with_reducible assumption | with_reducible exact bor_le _ _ _ | with_reducible exact dig_lt _ _ | omega), (by first | with_reducible assumption | with_reducible exact bor_le _ _ _ | with_reducible exact dig_lt _ _ | omega)⟩) rfl (st (.mv (.t rfl)) rfl (st (.ext (.t rfl) rfl) rfl (st (.ext (.t rfl) rfl) rfl (st (.eq (.ixWin sl29 ty39 (.t rfl) (.t rfl) ⟨by omega, by omega⟩) (isPtr_eq (by first | exact ixo0 | exact ixo2 | exact ixo1))) rfl (.storeM (.t rfl) (.t rfl) (i := 0) rfl ty39 (by first | omega | (simp only [Int.toNat_natCast, List.length_set, List.length_replicate]; omega)) (M' := [(_, _)]) rfl ?_)))))))
  refine st (.as (.t rfl)) rfl (nl (.bln (.thn (k8 _ _ (.region (st (.addI (.t rfl) (.cI 1 rfl) (by first | with_reducible assumption | with_reducible exact bor_le _ _ _ | with_reducible exact dig_lt _ _ | omega) (by first | with_reducible assumption | with_reducible exact bor_le _ _ _ | with_reducible exact dig_lt _ _ | omega)) rfl (st (.mv (.t rfl)) rfl (nl (.thn (hK5 (⟨i + 1, by omega⟩) _ _ ?_ (Cv.mem (.c 16 rfl ?_ (.c 7 rfl ?_ (.c 8 rfl ?_ (.l [0, 1, 2, 6, 14, 15] rfl)))) ?_)))))))))))
  ·show (List.length (words v)) - (i + 1) < (List.length (words v)) - i; omega
  ·rfl
  ·exact isU_eq hrow.2.1
  ·exact isU_eq (by rw [hrow.1]; exact bor_succ _ _ _)
  ·exact memL_eq (winPut (by omega) (by rw [hrow.1]; exact wd_dig (vq_lt (nw_lt v) lt2) (by omega)))
 ·have hc1 := BP.f hc1
  refine .exit (.the (.the (.blh (.thn (k3 _ _ (.cv (Cv.wk (.l [0, 1, 6, 7, 8] rfl)) (.seq fun _ k14 => .region (st (.mv (.t rfl)) rfl (st (.mv (.t rfl)) rfl (st (.len sl29 (.t rfl)) rfl (st (.mv (.t rfl)) rfl (st (.mv (.t rfl)) rfl (st (.len sl29 (.t rfl)) rfl (st (.eq (.ixWin sl29 ty39 (.t rfl) (.t rfl) ⟨by omega, by omega⟩) (isPtr_eq (by first | exact ixo0 | exact ixo2 | exact ixo1))) rfl (st (.eq (.load1 (.t rfl) (i := 0) rfl ty39 (map_some (getD_some (d := 0) (by first | omega | (simp only [Int.toNat_natCast, List.length_set]; omega))))) ((isU_eq (rowGet' (j := (List.length (words v))) (by omega) (by omega))))) rfl ?_)))))))))))))))
  refine st (.mv (.t rfl)) rfl (st (.mv (.t rfl)) rfl (st (.sub64 (l := dig (N / W ^ o) ((List.length (words v)))) (m := mcar 0 v q i) (c := bor (N / W ^ o) (v * q) i) ext_sub64 (.t rfl) (.t rfl) (.t rfl) (bor_le _ _ _) ⟨dig_lt _ _, hcl⟩) rfl (st (.mv (.t rfl)) rfl (st (.ext (.t rfl) rfl) rfl (st (.ext (.t rfl) rfl) rfl (st (.eq (.ixWin sl29 ty39 (.t rfl) (.t rfl) ⟨by omega, by omega⟩) (isPtr_eq (by first | exact ixo0 | exact ixo2 | exact ixo1))) rfl (.storeM (.t rfl) (.t rfl) (i := 0) rfl ty39 (by first | omega | (simp only [Int.toNat_natCast, List.length_set, List.length_replicate]; omega)) (M' := [(_, _)]) rfl ?_)))))))
  refine st (.as (.t rfl)) rfl (nl (.thn (k14 _ _ (.cv (Cv.wk (.l [6, 8] rfl)) (.seq fun _ k15 => .region (st (.mv (.t rfl)) rfl (st (.neU (.t rfl) (.cU 0 rfl)) rfl (st (.as (.t rfl)) rfl (nl (.thn (k15 _ _ (.ret (rtM1 (.inl rfl) Tryz.results292 rfl (i := 0) ?_ (.tmp (Has.t' rfl ?_) .nil))))))))))))))
  ·obtain rfl : i = (List.length (words v)) := (by omega); exact memU_eq ((winPut (by omega) (takeTop (nw_lt v) lt2)).trans (winEnd (by omega) h3 (wdiff_lt _ _ _)))
  ·obtain rfl : i = (List.length (words v)) := (by omega); exact isB_eq (takeBor (nw_lt v) lt2 h3)
set_option maxHeartbeats 2000000 in
theorem div_back {N v o c m : Nat} (h2 : o + ((List.length (words v)) + 1) ≤ m) (h3 : N / W ^ o < W ^ ((List.length (words v)) + 1)) : CtrM Tryz.prog 293 (fun b0 => [isWin b0 o ((List.length (words v)) + 1) c, isWords (words v)]) (cellM (List.map isU (wordsN m N))) (cellM (List.map isU (wordsN m (N % W ^ o + W ^ o * (wsum (N / W ^ o) v ((List.length (words v)) + 1)))))) (fun b0 => isTup []) := by
 refine CtrM.intro Tryz.func293 rfl (by kernel_rfl) Tryz.ntmps293 (fun _ => rfl) fun w0 F0 b0 => .cv (Cv.wk (.l [0, 1] rfl)) (.fact (Has.lenLt (Has.t (t := 0) rfl)) fun lt0 => .fact (Has.winLe (Has.t (t := 0) rfl)) fun lw0 => .fact (Has.lenLt (Has.t (t := 1) rfl)) fun lt1 => .fact (Has.okW (Has.t (t := 1) rfl)) fun ok1 => .seq fun _ k1 => .region (st (.as (.cU 0 rfl)) rfl (nl (.thn (k1 _ _ (.seq fun _ k2 => .seq fun _ k3 => .region (st (.mv (.t rfl)) rfl (st (.len sl29 (.t rfl)) rfl (st (.mv (.cI 0 rfl)) rfl (nl (.thn (k3 _ _ (.block (.loopF [0, 1, 7, 8] (fun (z : { i : Nat // i ≤ (List.length (words v)) }) => match z with | ⟨i, hI⟩ => [(9, isI (i : Int)), (4, isU (car (N / W ^ o) v i))]) (fun M => fun (z : { i : Nat // i ≤ (List.length (words v)) }) => match z with | ⟨i, hI⟩ => [(some b0, cellM (List.map isU (mix (o + i) (N % W ^ o + W ^ o * (wsum (N / W ^ o) v ((List.length (words v)) + 1))) N m)))]) (fun (z : { i : Nat // i ≤ (List.length (words v)) }) => match z with | ⟨i, hI⟩ => (List.length (words v)) - i) (⟨0, Nat.zero_le _⟩) (Cv.mem (.c 9 rfl ?_ (.c 4 rfl ?_ (.l [0, 1, 7, 8] rfl))) ?_) ?_))))))))))))))
 ·rfl
 ·exact isU_eq (car_zero _ _)
 ·exact memL_eq (mix_start (by omega) (win_mod _ _ _))
 rintro ⟨i, hI⟩ K4 hK4
 refine .cv (Cv.wk (.l [9, 4, 0, 1, 7, 8] rfl)) (.memEq (M' := [(some b0, cellM (List.map isU (mix (o + i) (N % W ^ o + W ^ o * (wsum (N / W ^ o) v ((List.length (words v)) + 1))) N m)))]) rfl ?_)
 have wl : (mix (o + i) (N % W ^ o + W ^ o * (wsum (N / W ^ o) v ((List.length (words v)) + 1))) N m).length = m := mix_len (by omega)
 refine .seq fun _ k5 => .region (st (.ltI (.t rfl) (.t rfl)) rfl (nl (.thn (k5 _ _ (.seq fun _ k6 => .cond (.t rfl) (fun hc1 => ?_) (fun hc1 => ?_))))))
 ·have hc1 := BP.t hc1
  refine .skip (.thn (k6 _ _ (.seq fun _ k7 => .block (.seq fun _ k8 => .region (st (.mv (.t rfl)) rfl (st (.ixP sl29 ty39 (.t rfl) (.t rfl) ⟨by omega, by omega⟩ (getD_some (d := 0) (by first | omega | (simp only [Int.toNat_natCast, List.length_set]; omega)))) rfl ?_))))))
  refine st (.eq (.loadP1 (.t rfl) ty39) (isU_eq (getD_words _ i))) rfl (st (.as (.t rfl)) rfl (st (.as (.t rfl)) rfl (nl (.thn (k8 _ _ (.region (st (.mv (.t rfl)) rfl (st (.mv (.t rfl)) rfl (st (.mv (.t rfl)) rfl (st (.mv (.t rfl)) rfl (st (.eq (.ixWin sl29 ty39 (.t rfl) (.t rfl) ⟨by omega, by omega⟩) (isPtr_eq (by first | exact ixo0 | exact ixo2 | exact ixo1))) rfl (st (.eq (.load1 (.t rfl) (i := 0) rfl ty39 (map_some (getD_some (d := 0) (by first | omega | (simp only [Int.toNat_natCast, List.length_set]; omega))))) (isU_eq (rowGet (by omega)))) rfl ?_))))))))))))
  refine st (.mv (.t rfl)) rfl (st (.mv (.t rfl)) rfl (st (.add64 ext_add64 (.t rfl) (.t rfl) (.t rfl) (by first | with_reducible assumption | with_reducible exact car_le _ _ _ | with_reducible exact dig_lt _ _ | omega) ⟨(by first | with_reducible assumption | with_reducible exact car_le _ _ _ | with_reducible exact dig_lt _ _ | omega), (by first | with_reducible assumption | with_reducible exact car_le _ _ _ | with_reducible exact dig_lt _ _ | omega)⟩) rfl (st (.mv (.t rfl)) rfl (st (.ext (.t rfl) rfl) rfl (st (.ext (.t rfl) rfl) rfl (st (.eq (.ixWin sl29 ty39 (.t rfl) (.t rfl) ⟨by omega, by omega⟩) (isPtr_eq (by first | exact ixo0 | exact ixo2 | exact ixo1))) rfl (.storeM (.t rfl) (.t rfl) (i := 0) rfl ty39 (by first | omega | (simp only [Int.toNat_natCast, List.length_set, List.length_replicate]; omega)) (M' := [(_, _)]) rfl ?_)))))))
  refine st (.as (.t rfl)) rfl (nl (.bln (.thn (k7 _ _ (.region (st (.addI (.t rfl) (.cI 1 rfl) (by first | with_reducible assumption | with_reducible exact car_le _ _ _ | with_reducible exact dig_lt _ _ | omega) (by first | with_reducible assumption | with_reducible exact car_le _ _ _ | with_reducible exact dig_lt _ _ | omega)) rfl (st (.mv (.t rfl)) rfl (nl (.thn (hK4 (⟨i + 1, by omega⟩) _ _ ?_ (Cv.mem (.c 9 rfl ?_ (.c 4 rfl ?_ (.l [0, 1, 7, 8] rfl))) ?_)))))))))))
  ·show (List.length (words v)) - (i + 1) < (List.length (words v)) - i; omega
  ·rfl
  ·exact isU_eq (add_car _ _ _)
  ·exact memL_eq (winPut (by omega) (ws_dig (by omega)))
 ·have hc1 := BP.f hc1
  refine .exit (.the (.the (.blh (.thn (k2 _ _ (.region (st (.mv (.t rfl)) rfl (st (.mv (.t rfl)) rfl (st (.len sl29 (.t rfl)) rfl (st (.eq (.ixWin sl29 ty39 (.t rfl) (.t rfl) ⟨by omega, by omega⟩) (isPtr_eq (by first | exact ixo0 | exact ixo2 | exact ixo1))) rfl (st (.eq (.load1 (.t rfl) (i := 0) rfl ty39 (map_some (getD_some (d := 0) (by first | omega | (simp only [Int.toNat_natCast, List.length_set]; omega))))) ((isU_eq (rowGet' (j := (List.length (words v))) (by omega) (by omega))))) rfl ?_)))))))))))
  refine st (.mv (.t rfl)) rfl (st (.addU (.t rfl) (.t rfl)) rfl (st (.eq (.ixWin sl29 ty39 (.t rfl) (.t rfl) ⟨by omega, by omega⟩) (isPtr_eq (by first | exact ixo0 | exact ixo2 | exact ixo1))) rfl (.storeM (.t rfl) (.t rfl) (i := 0) rfl ty39 (by first | omega | (simp only [Int.toNat_natCast, List.length_set, List.length_replicate]; omega)) (M' := [(_, _)]) rfl ?_)))
  refine nl (rtM0 (.inr rfl) Tryz.results293 rfl (i := 0) ?_)
  all_goals (obtain rfl : i = (List.length (words v)) := (by omega); exact memU_eq ((winPut (by omega) (backTop (nw_lt v))).trans (winEnd (by omega) h3 (wsum_lt _ _ _))))
end Go.Proofs.YthkdmhaafanjlaaGreat
namespace Go.Nt
set_option maxRecDepth 8000
theorem top2 {v k : Nat} (hv : v < W ^ (k + 2)) : v / W ^ k = dig v (k + 1) * 18446744073709551616 + dig v k := by
 have h1 := div_succ v k
 have h2 : v / W ^ (k + 1) < W := by rw [Nat.div_lt_iff_lt_mul (pow_pos' _)]; rwa [Nat.mul_comm, ← Nat.pow_succ]
 rw [h1, dig_def v (k + 1), Nat.mod_eq_of_lt h2, Nat.mul_comm]
theorem top3 {w k : Nat} (hw : w < W ^ (k + 3)) : w / W ^ k = (dig w (k + 2) * 18446744073709551616 + dig w (k + 1)) * 18446744073709551616 + dig w k := by
 have h1 := div_succ w k
 rw [h1, top2 (k := k + 1) hw, Nat.mul_comm]
theorem guess_near {w v k : Nat} (hv : v < W ^ (k + 2)) (hv1 : W ^ (k + 1) ≤ v) (hw : w < v * W) :
  w / v ≤ gss (dig w (k + 2)) (dig w (k + 1)) (dig w k) (dig v (k + 1)) (dig v k) ∧ gss (dig w (k + 2)) (dig w (k + 1)) (dig w k) (dig v (k + 1)) (dig v k) ≤ w / v + 1 := by
 have hv0 : 0 < v := Nat.lt_of_lt_of_le (pow_pos' _) hv1
 have hw3 : w < W ^ (k + 3) := Nat.lt_of_lt_of_le hw (by rw [Nat.pow_succ W (k + 2)]; exact Nat.mul_le_mul_right _ (Nat.le_of_lt hv))
 unfold gss
 rw [← top3 hw3, ← top2 hv]
 have hR := pow_pos' k
 have hVW : W ≤ v / W ^ k := by rw [Nat.le_div_iff_mul_le hR, Nat.mul_comm, ← Nat.pow_succ]; exact hv1
 have hq : w / v < W := by rw [Nat.div_lt_iff_lt_mul hv0, Nat.mul_comm]; exact hw
 constructor
 ·refine Nat.le_min.2 ⟨?_, by unfold W at hq; omega⟩
  rw [Nat.le_div_iff_mul_le (Nat.lt_of_lt_of_le (by decide) hVW), Nat.le_div_iff_mul_le hR, Nat.mul_assoc]
  exact Nat.le_trans (Nat.mul_le_mul_left _ (Nat.div_mul_le_self v _)) (Nat.div_mul_le_self w v)
 ·generalize hg : min (w / W ^ k / (v / W ^ k)) 18446744073709551615 = g
  have hg1 : g ≤ w / W ^ k / (v / W ^ k) := hg ▸ Nat.min_le_left _ _
  have hg2 : g ≤ 18446744073709551615 := hg ▸ Nat.min_le_right _ _
  rcases Nat.eq_zero_or_pos g with h0 | h0
  ·rw [h0]; exact Nat.zero_le _
  have h1 : g * (v / W ^ k) ≤ w / W ^ k := (Nat.le_div_iff_mul_le (Nat.lt_of_lt_of_le (by decide) hVW)).1 hg1
  have h2 : g * (v / W ^ k) * W ^ k ≤ w := Nat.le_trans (Nat.mul_le_mul_right _ h1) (Nat.div_mul_le_self w _)
  have h3 : v < (v / W ^ k + 1) * W ^ k := by
   have := Nat.div_add_mod v (W ^ k)
   have := Nat.mod_lt v hR
   rw [Nat.add_mul, Nat.mul_comm]; omega
  have h4 : (g - 1) * v ≤ w := by
   have h5 : (g - 1) * v ≤ (g - 1) * ((v / W ^ k + 1) * W ^ k) := Nat.mul_le_mul_left _ (Nat.le_of_lt h3)
   refine Nat.le_trans h5 (Nat.le_trans ?_ h2)
   rw [← Nat.mul_assoc]
   refine Nat.mul_le_mul_right _ ?_
   obtain ⟨t, rfl⟩ : ∃ t, g = t + 1 := ⟨g - 1, by omega⟩
   rw [Nat.add_sub_cancel, Nat.mul_add, Nat.succ_mul, Nat.mul_one]
   have : t ≤ v / W ^ k := Nat.le_trans (by unfold W; omega) hVW
   omega
  have := (Nat.le_div_iff_mul_le hv0).2 h4
  omega
def left (N v k : Nat) : Nat := N % W ^ k + W ^ k * (N / W ^ k % v)
theorem left_top {N v k : Nat} (h : N < v * W ^ k) : left N v k = N := by
 have h1 : N / W ^ k < v := by rw [Nat.div_lt_iff_lt_mul (pow_pos' k)]; exact h
 unfold left; rw [Nat.mod_eq_of_lt h1, Nat.mod_add_div]
theorem left_win {N v j : Nat} : left N v (j + 1) / W ^ j = N / W ^ (j + 1) % v * 18446744073709551616 + dig N j := by
 unfold left
 rw [mod_succ, Nat.pow_succ, Nat.mul_assoc, Nat.add_assoc, ← Nat.mul_add, win_div, Nat.add_comm, Nat.mul_comm W]
theorem left_low {N v j : Nat} : left N v (j + 1) % W ^ j = N % W ^ j := by
 unfold left
 rw [mod_succ, Nat.pow_succ, Nat.mul_assoc, Nat.add_assoc, ← Nat.mul_add, Nat.add_mul_mod_self_left, Nat.mod_mod]
theorem left_step {N v j : Nat} (hv : 0 < v) : left N v (j + 1) / W ^ j / v = dig (N / v) j ∧ left N v (j + 1) / W ^ j % v = N / W ^ j % v ∧ left N v (j + 1) / W ^ j < v * W := by
 have h := small_step (A := N) (x := v) (k := j + 1) hv (by omega)
 rw [left_win]
 simp only [Nat.add_sub_cancel] at h
 refine ⟨h.1, h.2, ?_⟩
 have h1 := Nat.mod_lt (N / W ^ (j + 1)) hv
 have h2 := dig_lt N j
 have h3 : (N / W ^ (j + 1) % v + 1) * W ≤ v * W := Nat.mul_le_mul_right _ h1
 rw [Nat.add_mul, Nat.one_mul] at h3
 show N / W ^ (j + 1) % v * W + _ < _
 omega
theorem take_fine {w v g K : Nat} (hv : 0 < v) (hw : w < K) (h1 : w / v ≤ g) (h : ¬ w < v * g) : g = w / v ∧ (w + K - v * g) % K = w % v := by
 have h2 : g ≤ w / v := (Nat.le_div_iff_mul_le hv).2 (by rw [Nat.mul_comm]; omega)
 obtain rfl : g = w / v := Nat.le_antisymm h2 h1
 refine ⟨rfl, ?_⟩
 have h3 := Nat.div_add_mod w v
 have e : w + K - v * (w / v) = w % v + K := by omega
 rw [e, Nat.add_mod_right, Nat.mod_eq_of_lt (Nat.lt_of_le_of_lt (Nat.mod_le _ _) hw)]
theorem take_back {w v g K : Nat} (hv : 0 < v) (hw : w < K) (hg : v * g < K) (h1 : g ≤ w / v + 1) (h : w < v * g) : g - 1 = w / v ∧ 1 ≤ g ∧ ((w + K - v * g) % K + v) % K = w % v := by
 have h2 : w / v < g := by rw [Nat.div_lt_iff_lt_mul hv, Nat.mul_comm]; exact h
 obtain rfl : g = w / v + 1 := Nat.le_antisymm h1 h2
 refine ⟨Nat.add_sub_cancel _ _, Nat.le_add_left _ _, ?_⟩
 have h3 := Nat.div_add_mod w v
 rw [Nat.mul_add, Nat.mul_one] at h hg ⊢
 have h4 := Nat.mod_lt w hv
 have h5 : w + K - (v * (w / v) + v) < K := by omega
 rw [Nat.mod_eq_of_lt h5]
 have e : w + K - (v * (w / v) + v) + v = w % v + K := by omega
 rw [e, Nat.add_mod_right, Nat.mod_eq_of_lt (Nat.lt_of_le_of_lt (Nat.mod_le _ _) hw)]
theorem mix_down' {A Q m k d : Nat} (hk : 0 < k) (hm : k ≤ m) (hd : d = dig Q (k - 1)) : (mix k A Q m).set (k - 1) d = mix (k - 1) A Q m := by
 have := mix_down (A := A) (j := 0) hk hm hd
 simpa using this
theorem outStart (Q t : Nat) : List.replicate t 0 = mix t 0 Q t := by
 have : List.replicate t 0 = wordsN t 0 := eq_wordsN (fun x hx => by rw [List.mem_replicate] at hx; rw [hx.2]; decide) (by simp) (by rw [val_replicate]; simp)
 rw [this]; unfold mix; rw [Nat.sub_self]; simp [wordsN]
theorem outEnd (Q t : Nat) : mix 0 0 Q t = wordsN t Q := by simp [mix, wordsN]
theorem getW {N m j i t : Nat} (ht : t = j + i) (h : t < m) : (wordsN m N).getD t 0 = dig (N / W ^ j) i := by
 subst ht; rw [wordsN_getD h, dig_add_pow _ _ _ _ rfl]
theorem getV {v i t : Nat} (ht : t = i) : (words v).getD t 0 = dig v i := by subst ht; exact getD_words _ _
structure Rnd (N v j k g : Nat) : Prop where
 hd : 0 < dig v (k + 1)
 hw : left N v (j + 1) / W ^ j < W ^ ((List.length (words v)) + 1)
 fine : ¬ left N v (j + 1) / W ^ j < v * g → g = dig (N / v) j ∧ left N v (j + 1) % W ^ j + W ^ j * wdiff (left N v (j + 1) / W ^ j) (v * g) ((List.length (words v)) + 1) = left N v j
 bk : left N v (j + 1) / W ^ j < v * g → g - 1 = dig (N / v) j ∧ 1 ≤ g ∧ (left N v (j + 1) % W ^ j + W ^ j * wdiff (left N v (j + 1) / W ^ j) (v * g) ((List.length (words v)) + 1)) % W ^ j + W ^ j * wsum ((left N v (j + 1) % W ^ j + W ^ j * wdiff (left N v (j + 1) / W ^ j) (v * g) ((List.length (words v)) + 1)) / W ^ j) v ((List.length (words v)) + 1) = left N v j
theorem round {N v j k g : Nat} (hk : (List.length (words v)) = k + 2) (hg : g = gss (dig (left N v (j + 1) / W ^ j) (k + 2)) (dig (left N v (j + 1) / W ^ j) (k + 1)) (dig (left N v (j + 1) / W ^ j) k) (dig v (k + 1)) (dig v k)) (hgl : g < W) : Rnd N v j k g := by
 have hv0 : v ≠ 0 := by intro e; subst e; rw [nw_zero] at hk; omega
 have hv1 : W ^ (k + 1) ≤ v := by have := le_of_nw hv0; rwa [hk] at this
 have hv2 : v < W ^ (k + 2) := by have := nw_lt v; rwa [hk] at this
 have hpos : 0 < v := Nat.pos_of_ne_zero hv0
 obtain ⟨h1, h2, h3⟩ := left_step (N := N) (j := j) hpos
 have hgn := guess_near hv2 hv1 h3
 rw [← hg] at hgn
 have hw : left N v (j + 1) / W ^ j < W ^ ((List.length (words v)) + 1) := Nat.lt_of_lt_of_le h3 (by rw [hk, Nat.pow_succ W (k + 2)]; exact Nat.mul_le_mul_right _ (Nat.le_of_lt hv2))
 have hvg : v * g < W ^ ((List.length (words v)) + 1) := vq_lt (nw_lt v) hgl
 refine ⟨?_, hw, fun h => ?_, fun h => ?_⟩
 ·have := dig_top hv0
  rw [hk] at this
  exact Nat.pos_of_ne_zero this
 ·obtain ⟨e1, e2⟩ := take_fine hpos hw hgn.1 h
  refine ⟨e1.trans h1, ?_⟩
  unfold wdiff
  rw [e2, left_low, h2]; rfl
 ·obtain ⟨e1, e2, e3⟩ := take_back hpos hw hvg hgn.2 h
  refine ⟨e1.trans h1, e2, ?_⟩
  rw [win_mod, win_div, left_low]
  unfold wdiff wsum
  rw [e3, h2]; rfl
theorem gss_lt (u2 u1 u0 v1 v0 : Nat) : gss u2 u1 u0 v1 v0 < 18446744073709551616 := Nat.lt_succ_of_le (Nat.min_le_right _ _)
theorem wordsN_eq {m a b : Nat} (h : a = b) : wordsN m a = wordsN m b := by rw [h]
end Go.Nt
namespace Go.Proofs.YthkdmhaafanjlaaGreat
open Go.En Go.RowKit
set_option maxRecDepth 10000
set_option maxHeartbeats 4000000
open Go.Nt
theorem div_long {N v c m : Nat} (hn : 2 ≤ (List.length (words v))) (hm : (List.length (words v)) < m) (hM : m ≤ 4294967296) (hN : N < v * W ^ (m - (List.length (words v)))) : CtrM Tryz.prog 278 (fun b0 => [isWin b0 0 m c, isWords (words v)]) (cellM (List.map isU (wordsN m N))) (cellM (List.map isU (wordsN m (left N v 0)))) (fun b0 => isWords (wordsN (m - (List.length (words v))) (N / v))) := by
 refine CtrM.intro Tryz.func278 rfl (by kernel_rfl) Tryz.ntmps278 (fun _ => rfl) fun w0 F0 b0 => .cv (Cv.wk (.l [0, 1] rfl)) (.fact (Has.lenLt (Has.t (t := 0) rfl)) fun lt0 => .fact (Has.winLe (Has.t (t := 0) rfl)) fun lw0 => .fact (Has.lenLt (Has.t (t := 1) rfl)) fun lt1 => .fact (Has.okW (Has.t (t := 1) rfl)) fun ok1 => .seq fun _ k1 => .region (st (.as (.cW (f := isU))) rfl (nl (.thn (k1 _ _ (.seq fun _ k2 => .region (st (.mv (.t rfl)) rfl (st (.len sl29 (.t rfl)) rfl (st (.as (.t rfl)) rfl (nl (.thn (k2 _ _ (.seq fun _ k3 => .region (st (.mv (.t rfl)) rfl (st (.len sl29 (.t rfl)) rfl (st (.mv (.t rfl)) rfl (st (.eq (.subI (.t rfl) (.t rfl) (by first | with_reducible assumption | omega | with_reducible exact dig_lt _ _) (by first | with_reducible assumption | omega | with_reducible exact dig_lt _ _)) ((show isI _ = isI ((m - (List.length (words v)) : Nat) : Int) from isI_eq (by omega)))) rfl (.make (f := isU) (u := 0) (n := m - (List.length (words v))) (c := m - (List.length (words v))) sl29 ty39 zero39 (fun _ _ => ⟨⟨rfl, by decide⟩, trivial⟩) by39 (Has.t' rfl rfl) (Has.t' rfl rfl) ⟨by omega, by omega⟩ rfl fun b1 => st (.as (.t rfl)) rfl (nl (.thn (k3 _ _ (.cv (Cv.wk (.l [0, 1, 4, 5, 6] rfl)) (.seq fun _ k4 => .seq fun _ k5 => .region (st (.mv (.t rfl)) rfl (st (.len sl29 (.t rfl)) rfl (st (.subI (.t rfl) (.cI 1 rfl) (by first | with_reducible assumption | omega | with_reducible exact dig_lt _ _) (by first | with_reducible assumption | omega | with_reducible exact dig_lt _ _)) rfl (st (.as (.t rfl)) rfl (nl (.thn (k5 _ _ (.block (.loopF [0, 1, 4, 5, 6] (fun (z : { k : Nat // k ≤ m - (List.length (words v)) }) => match z with | ⟨k, hI⟩ => [(7, isI ((k : Int) - 1))]) (fun M => fun (z : { k : Nat // k ≤ m - (List.length (words v)) }) => match z with | ⟨k, hI⟩ => [(some b1, cellM (List.map isU (mix k 0 (N / v) (m - (List.length (words v)))))), (some b0, cellM (List.map isU (wordsN m (left N v k))))]) (fun (z : { k : Nat // k ≤ m - (List.length (words v)) }) => match z with | ⟨k, hI⟩ => k) (⟨m - (List.length (words v)), Nat.le_refl _⟩) (Cv.mem (.c 7 rfl ?_ (.l [0, 1, 4, 5, 6] rfl)) ?_) ?_))))))))))))))))))))))))))))))))
 ·rfl
 ·exact mem2_eq (outStart _ _) (by rw [left_top hN])
 rintro ⟨k, hI⟩ K6 hK6
 refine .cv (Cv.wk (.l [7, 0, 1, 4, 5, 6] rfl)) (.memEq (M' := [(some b1, cellM (List.map isU (mix k 0 (N / v) (m - (List.length (words v)))))), (some b0, cellM (List.map isU (wordsN m (left N v k))))]) rfl ?_)
 have wl : (wordsN m (left N v k)).length = m := wordsN_len _ _
 have wl2 : (mix k 0 (N / v) (m - (List.length (words v)))).length = m - (List.length (words v)) := mix_len hI
 refine .seq fun _ k7 => .seq fun _ k8 => .region (st (.mv (.t rfl)) rfl (st (.geI (.t rfl) (.cI 0 rfl)) rfl (nl (.thn (k8 _ _ (.cond (.t rfl) (fun hc1 => ?_) (fun hc1 => ?_)))))))
 ·have hc1 := BP.t hc1
  obtain ⟨j, rfl⟩ : ∃ j, k = j + 1 := ⟨k - 1, by omega⟩
  obtain ⟨k2, hk2⟩ : ∃ k2, (List.length (words v)) = k2 + 2 := ⟨(List.length (words v)) - 2, by omega⟩
  have ej : (((j + 1 : Nat) : Int) - 1) = (j : Int) := by omega
  obtain ⟨g, hg⟩ : ∃ g, g = gss (dig (left N v (j + 1) / W ^ j) (k2 + 2)) (dig (left N v (j + 1) / W ^ j) (k2 + 1)) (dig (left N v (j + 1) / W ^ j) k2) (dig v (k2 + 1)) (dig v k2) := ⟨_, rfl⟩
  have hgl : g < 18446744073709551616 := hg ▸ gss_lt _ _ _ _ _
  have R := round hk2 hg hgl
  refine .skip (.thn (k7 _ _ (.seq fun _ k9 => .block (.seq fun _ k10 => .dr (.s [] rfl rfl rfl (.o rfl (.mv (.t rfl))) (.s [] rfl rfl rfl (.o rfl (.eq (.mv (.t rfl)) ((isI_eq ej)))) (.s [] rfl rfl rfl (.o rfl (.mv (.t rfl))) (.s [25, 26] rfl rfl rfl (.o rfl (.addI (.t rfl) (.t rfl) (by first | with_reducible assumption | omega | with_reducible exact dig_lt _ _) (by first | with_reducible assumption | omega | with_reducible exact dig_lt _ _))) (.s [24, 27] rfl rfl rfl (.o rfl (.eq (.ixWin sl29 ty39 (.t rfl) (.t rfl) ⟨by omega, by omega⟩) (isPtr_eq (by first | exact ixo0 | exact ixo2 | exact ixo1)))) (.s [28] rfl rfl rfl (.o rfl (.eq (.load1 (.t rfl) (i := 1) rfl ty39 (map_some (getD_some (d := 0) (by first | omega | (simp only [Int.toNat_natCast, List.length_set]; omega))))) ((show isU _ = isU (dig (left N v (j + 1) / W ^ j) (k2 + 2)) from isU_eq (getW (by omega) (by omega)))))) ?_))))))))))
  refine .s [] rfl rfl rfl (.o rfl (.mv (.t rfl))) (.s [] rfl rfl rfl (.o rfl (.eq (.mv (.t rfl)) ((isI_eq ej)))) (.s [] rfl rfl rfl (.o rfl (.mv (.t rfl))) (.s [31, 32] rfl rfl rfl (.o rfl (.addI (.t rfl) (.t rfl) (by first | with_reducible assumption | omega | with_reducible exact dig_lt _ _) (by first | with_reducible assumption | omega | with_reducible exact dig_lt _ _))) (.s [33] rfl rfl rfl (.o rfl (.subI (.t rfl) (.cI 1 rfl) (by first | with_reducible assumption | omega | with_reducible exact dig_lt _ _) (by first | with_reducible assumption | omega | with_reducible exact dig_lt _ _))) (.s [30, 34] rfl rfl rfl (.o rfl (.eq (.ixWin sl29 ty39 (.t rfl) (.t rfl) ⟨by omega, by omega⟩) (isPtr_eq (by first | exact ixo0 | exact ixo2 | exact ixo1)))) (.s [35] rfl rfl rfl (.o rfl (.eq (.load1 (.t rfl) (i := 1) rfl ty39 (map_some (getD_some (d := 0) (by first | omega | (simp only [Int.toNat_natCast, List.length_set]; omega))))) ((show isU _ = isU (dig (left N v (j + 1) / W ^ j) (k2 + 1)) from isU_eq (getW (by omega) (by omega)))))) ?_))))))
  refine .s [] rfl rfl rfl (.o rfl (.mv (.t rfl))) (.s [] rfl rfl rfl (.o rfl (.eq (.mv (.t rfl)) ((isI_eq ej)))) (.s [] rfl rfl rfl (.o rfl (.mv (.t rfl))) (.s [38, 39] rfl rfl rfl (.o rfl (.addI (.t rfl) (.t rfl) (by first | with_reducible assumption | omega | with_reducible exact dig_lt _ _) (by first | with_reducible assumption | omega | with_reducible exact dig_lt _ _))) (.s [40] rfl rfl rfl (.o rfl (.subI (.t rfl) (.cI 2 rfl) (by first | with_reducible assumption | omega | with_reducible exact dig_lt _ _) (by first | with_reducible assumption | omega | with_reducible exact dig_lt _ _))) (.s [37, 41] rfl rfl rfl (.o rfl (.eq (.ixWin sl29 ty39 (.t rfl) (.t rfl) ⟨by omega, by omega⟩) (isPtr_eq (by first | exact ixo0 | exact ixo2 | exact ixo1)))) (.s [42] rfl rfl rfl (.o rfl (.eq (.load1 (.t rfl) (i := 1) rfl ty39 (map_some (getD_some (d := 0) (by first | omega | (simp only [Int.toNat_natCast, List.length_set]; omega))))) ((show isU _ = isU (dig (left N v (j + 1) / W ^ j) (k2)) from isU_eq (getW (by omega) (by omega)))))) ?_))))))
  refine .s [] rfl rfl rfl (.o rfl (.mv (.t rfl))) (.s [] rfl rfl rfl (.o rfl (.mv (.t rfl))) (.s [45] rfl rfl rfl (.o rfl (.subI (.t rfl) (.cI 1 rfl) (by first | with_reducible assumption | omega | with_reducible exact dig_lt _ _) (by first | with_reducible assumption | omega | with_reducible exact dig_lt _ _))) (.s [44, 46] rfl rfl rfl (.o rfl (.ixP sl29 ty39 (.t rfl) (.t rfl) ⟨by omega, by omega⟩ (getD_some (d := 0) (by first | omega | (simp only [Int.toNat_natCast, List.length_set]; omega))))) ?_)))
  refine .s [47] rfl rfl rfl (.o rfl (.eq (.loadP1 (.t rfl) ty39) ((show isU _ = isU (dig v (k2 + 1)) from isU_eq (getV (by omega)))))) (.s [] rfl rfl rfl (.o rfl (.mv (.t rfl))) (.s [] rfl rfl rfl (.o rfl (.mv (.t rfl))) (.s [50] rfl rfl rfl (.o rfl (.subI (.t rfl) (.cI 2 rfl) (by first | with_reducible assumption | omega | with_reducible exact dig_lt _ _) (by first | with_reducible assumption | omega | with_reducible exact dig_lt _ _))) (.s [49, 51] rfl rfl rfl (.o rfl (.ixP sl29 ty39 (.t rfl) (.t rfl) ⟨by omega, by omega⟩ (getD_some (d := 0) (by first | omega | (simp only [Int.toNat_natCast, List.length_set]; omega))))) ?_))))
  refine .s [52] rfl rfl rfl (.o rfl (.eq (.loadP1 (.t rfl) ty39) ((show isU _ = isU (dig v k2) from isU_eq (getV (by omega)))))) (.fin (n := 30) mixed (by kernel_rfl) (by kernel_rfl) (by kernel_rfl) (.cv (Cv.wk (.l [0, 1, 4, 5, 6, 7, 20, 21, 24, 25, 26, 27, 28, 29, 30, 31, 32, 33, 34, 35, 36, 37, 38, 39, 40, 41, 42, 43, 44, 45, 46, 47, 48, 49, 50, 51, 52, 53] rfl)) (st (.eq (.call (div_guess R.hd) (.cons (.t rfl) (.cons (.t rfl) (.cons (.t rfl) (.cons (.t rfl) (.cons (.t rfl) .nil)))))) ((show isU _ = isU g from isU_eq hg.symm))) rfl (st (.as (.t rfl)) rfl (nl (.thn (k10 _ _ (.seq fun _ k11 => .region (st (.mv (.t rfl)) rfl (st (.eq (.mv (.t rfl)) ((isI_eq ej))) rfl (st (.eq (.mv (.t rfl)) ((isI_eq ej))) rfl (st (.mv (.t rfl)) rfl (st (.addI (.t rfl) (.t rfl) (by first | with_reducible assumption | omega | with_reducible exact dig_lt _ _) (by first | with_reducible assumption | omega | with_reducible exact dig_lt _ _)) rfl (st (.addI (.t rfl) (.cI 1 rfl) (by first | with_reducible assumption | omega | with_reducible exact dig_lt _ _) (by first | with_reducible assumption | omega | with_reducible exact dig_lt _ _)) rfl (st (.eq (.eq (.slLHWin sl29 ty39 (.t rfl) (.t rfl) (.t rfl) ⟨by omega, by omega, by omega, by omega⟩) (isWin_eq (by first | exact ixo0 | exact ixo1) rfl rfl)) ((show isWin _ _ _ _ = isWin b0 j ((List.length (words v)) + 1) (c - j) from isWin_eq (by omega) (by omega) (by omega)))) rfl (st (.as (.t rfl)) rfl (nl (.thn (k11 _ _ (.seq fun _ k12 => .seq fun _ k13 => .region (st (.mv (.t rfl)) rfl (st (.mv (.t rfl)) rfl (st (.mv (.t rfl)) rfl (.callM (div_take (N := left N v (j + 1)) (o := j) (v := v) (q := g) (m := m) (by omega) R.hw) (i := 1) rfl (.cons (.t rfl) (.cons (.t rfl) (.cons (.t rfl) .nil))) rfl (M' := [_, (_, _)]) rfl (nl (.thn (k13 _ _ (.cond (.t rfl) (fun hc2 => ?_) (fun hc2 => ?_)))))))))))))))))))))))))))))
  ·have hc2 := BP.t hc2
   have hbk := R.bk hc2
   have hg1 := hbk.2.1
   refine .seq fun _ k14 => .region (st (.mv (.t rfl)) rfl (st (.subU' (.t rfl) (.cU 1 rfl) (by first | with_reducible assumption | omega | with_reducible exact dig_lt _ _) (by first | with_reducible assumption | omega | with_reducible exact dig_lt _ _)) rfl (st (.as (.t rfl)) rfl (nl (.thn (k14 _ _ (.region (st (.mv (.t rfl)) rfl (st (.mv (.t rfl)) rfl (.callM (div_back (N := left N v (j + 1) % W ^ j + W ^ j * wdiff (left N v (j + 1) / W ^ j) (v * g) ((List.length (words v)) + 1)) (o := j) (m := m) (by omega) (by rw [win_div]; exact wdiff_lt _ _ _)) (i := 1) rfl (.cons (.t rfl) (.cons (.t rfl) .nil)) rfl (M' := [_, (_, _)]) rfl ?_))))))))))
   refine nl (.thn (k12 _ _ (.region (st (.mv (.t rfl)) rfl (st (.eq (.mv (.t rfl)) ((isI_eq ej))) rfl (st (.mv (.t rfl)) rfl (st (.eq (.ixWin sl29 ty39 (.t rfl) (.t rfl) ⟨by omega, by omega⟩) (isPtr_eq (by first | exact ixo0 | exact ixo2 | exact ixo1))) rfl (.storeM (.t rfl) (.t rfl) (i := 0) rfl ty39 (by first | omega | (simp only [Int.toNat_natCast, List.length_set, List.length_replicate]; omega)) (M' := [(_, _), _]) rfl ?_))))))))
   refine nl (.bln (.thn (k9 _ _ (.region (st (.mv (.t rfl)) rfl (st (.subI (.t rfl) (.cI 1 rfl) (by first | with_reducible assumption | omega | with_reducible exact dig_lt _ _) (by first | with_reducible assumption | omega | with_reducible exact dig_lt _ _)) rfl (st (.as (.t rfl)) rfl (nl (.thn (hK6 (⟨j, by omega⟩) _ _ ?_ (Cv.mem (.c 7 rfl ?_ (.l [0, 1, 4, 5, 6] rfl)) ?_)))))))))))
   ·show j < j + 1; omega
   ·exact isI_eq (by show (((j + 1 : Nat) : Int) - 1) - 1 = (j : Int) - 1; omega)
   ·exact mem2_eq (mix_down' (k := j + 1) (by omega) hI hbk.1) (wordsN_eq hbk.2.2)
  ·have hc2 := BP.f hc2
   have hfi := R.fine (by omega)
   refine .skip (.thn (k12 _ _ (.region (st (.mv (.t rfl)) rfl (st (.eq (.mv (.t rfl)) ((isI_eq ej))) rfl (st (.mv (.t rfl)) rfl (st (.eq (.ixWin sl29 ty39 (.t rfl) (.t rfl) ⟨by omega, by omega⟩) (isPtr_eq (by first | exact ixo0 | exact ixo2 | exact ixo1))) rfl (.storeM (.t rfl) (.t rfl) (i := 0) rfl ty39 (by first | omega | (simp only [Int.toNat_natCast, List.length_set, List.length_replicate]; omega)) (M' := [(_, _), _]) rfl ?_))))))))
   refine nl (.bln (.thn (k9 _ _ (.region (st (.mv (.t rfl)) rfl (st (.subI (.t rfl) (.cI 1 rfl) (by first | with_reducible assumption | omega | with_reducible exact dig_lt _ _) (by first | with_reducible assumption | omega | with_reducible exact dig_lt _ _)) rfl (st (.as (.t rfl)) rfl (nl (.thn (hK6 (⟨j, by omega⟩) _ _ ?_ (Cv.mem (.c 7 rfl ?_ (.l [0, 1, 4, 5, 6] rfl)) ?_)))))))))))
   ·show j < j + 1; omega
   ·exact isI_eq (by show (((j + 1 : Nat) : Int) - 1) - 1 = (j : Int) - 1; omega)
   ·exact mem2_eq (mix_down' (k := j + 1) (by omega) hI hfi.1) (wordsN_eq hfi.2)
 ·have hc1 := BP.f hc1
  refine .exit (.the (.the (.blh (.thn (k4 _ _ (.cv (Cv.wk (.l [4, 6] rfl)) (.seq fun _ k15 => .cv (Cv.freezeM (t := 6) (i := 0) (j := 1) (ys := wordsN (m - (List.length (words v))) (N / v)) rfl rfl rfl rfl rfl (by omega) (by obtain rfl : k = 0 := (by omega); rw [outEnd]; exact freeze_all (wordsN_len _ _).symm)) ?_)))))))
  refine .memEq (M' := [_]) rfl (.cv (Cv.wk (.l [4, 6] rfl)) (.region (st (.mv (.t rfl)) rfl (st (.as (.t rfl)) rfl (nl (.thn (k15 _ _ (.ret (rtM1 (.inl rfl) Tryz.results278 rfl (i := 0) ?_ (.tmp (Has.t' rfl ?_) .nil))))))))))
  ·obtain rfl : k = 0 := (by omega); rfl
  ·rfl
end Go.Proofs.YthkdmhaafanjlaaGreat
namespace Go.Nt
theorem top_div {B n : Nat} (hn : (List.length (words B)) = n + 1) : B / W ^ n = dig B n := by
 have hB : B < W ^ (n + 1) := hn ▸ nw_lt B
 rw [dig_def, Nat.mod_eq_of_lt]
 rw [Nat.div_lt_iff_lt_mul (pow_pos' _), Nat.mul_comm, ← Nat.pow_succ]; exact hB
theorem shift_fits {B k : Nat} (h : B ≠ 0) (hk : k = 64 - bitLen (dig B ((List.length (words B)) - 1))) : (List.length (words (B * 2 ^ k))) = (List.length (words B)) := by
 have hl := lead (dig_lt B ((List.length (words B)) - 1)) (dig_top h) hk
 obtain ⟨n, hn⟩ : ∃ n, (List.length (words B)) = n + 1 := ⟨(List.length (words B)) - 1, by have := nw_pos h; omega⟩
 have hd := top_div hn
 rw [hn, Nat.add_sub_cancel] at hl
 rw [← hd] at hl
 have hk64 : k ≤ 64 := by omega
 have hp : 0 < 2 ^ k := Nat.pow_pos (by decide)
 have h1 : B < (B / W ^ n + 1) * W ^ n := by
  have := Nat.div_add_mod B (W ^ n)
  have := Nat.mod_lt B (pow_pos' n)
  rw [Nat.add_mul, Nat.mul_comm (B / W ^ n)]; omega
 have h23 : ∀ t : Nat, t * 2 ^ k < 18446744073709551616 → (t + 1) * 2 ^ k ≤ W := fun t h4 => by
  rw [show (18446744073709551616 : Nat) = W from rfl, ← two64 hk64] at h4
  have := Nat.mul_le_mul_right (2 ^ k) (Nat.lt_of_mul_lt_mul_right h4)
  rwa [two64 hk64] at this
 have h3 := h23 _ hl.2
 have h4 : B * 2 ^ k < W ^ (n + 1) := by
  calc B * 2 ^ k < (B / W ^ n + 1) * W ^ n * 2 ^ k := Nat.mul_lt_mul_of_pos_right h1 hp
   _ = (B / W ^ n + 1) * 2 ^ k * W ^ n := by rw [Nat.mul_right_comm]
   _ ≤ W * W ^ n := Nat.mul_le_mul_right _ h3
   _ = W ^ (n + 1) := by rw [Nat.pow_succ, Nat.mul_comm]
 have h5 := nw_le h4
 have h6 := nw_mono (Nat.le_mul_of_pos_right B hp)
 omega
theorem lead_lt {B k : Nat} (h : B ≠ 0) (hk : k = 64 - bitLen (dig B ((List.length (words B)) - 1))) : k < 64 := by
 have := bitLen_pos (dig_top h); omega
theorem shift_len {A k : Nat} (hk : k < 64) : (List.length (words (A * 2 ^ k))) ≤ (List.length (words A)) + 1 := by
 apply nw_le
 have h1 := nw_lt A
 have h2 : 2 ^ k ≤ W := by have : 2 ^ k ≤ 2 ^ 64 := Nat.pow_le_pow_right (by decide) (by omega); exact this
 calc A * 2 ^ k < W ^ (List.length (words A)) * 2 ^ k := Nat.mul_lt_mul_of_pos_right h1 (Nat.pow_pos (by decide))
  _ ≤ W ^ (List.length (words A)) * W := Nat.mul_le_mul_left _ h2
  _ = W ^ ((List.length (words A)) + 1) := by rw [Nat.pow_succ]
theorem copy_words {N m : Nat} (h : (List.length (words N)) ≤ m) : (List.replicate m 0).take 0 ++ words N ++ (List.replicate m 0).drop (0 + (List.length (words N))) = wordsN m N := by
 refine eq_wordsN ?_ ?_ ?_
 ·rw [List.take_zero, List.nil_append]
  refine ok_append (words_ok N) (fun x hx => ?_)
  have := List.mem_of_mem_drop hx
  rw [List.mem_replicate] at this
  rw [this.2]; decide
 ·simp; omega
 ·rw [List.take_zero, List.nil_append, val_append, List.drop_replicate, val_replicate, Nat.mul_zero, Nat.add_zero, val_words, Nat.mod_eq_of_lt (lt_pow_of h)]
theorem le_of_nw2 {A B : Nat} (hB : B ≠ 0) (h : (List.length (words B)) ≤ (List.length (words A)) + 1) : A < B * W ^ ((List.length (words A)) + 1 - (List.length (words B))) := by
 have h1 := le_of_nw hB
 have hp := nw_pos hB
 calc A < W ^ (List.length (words A)) := nw_lt A
  _ = W ^ ((List.length (words B)) - 1) * W ^ ((List.length (words A)) + 1 - (List.length (words B))) := by rw [← Nat.pow_add]; congr 1; omega
  _ ≤ B * W ^ ((List.length (words A)) + 1 - (List.length (words B))) := Nat.mul_le_mul_right _ h1
structure Dm (A B k : Nat) : Prop where
 k64 : k < 64
 v : (List.length (words (B * 2 ^ k))) = (List.length (words B))
 w : (List.length (words (A * 2 ^ k))) ≤ (List.length (words A)) + 1
 lt : A * 2 ^ k < B * 2 ^ k * W ^ ((List.length (words A)) + 1 - (List.length (words (B * 2 ^ k))))
 le : (List.length (words B)) ≤ (List.length (words A))
theorem dm {A B k : Nat} (hB : B ≠ 0) (hle : B ≤ A) (hk : k = 64 - bitLen (dig B ((List.length (words B)) - 1))) : Dm A B k := by
 have h1 := lead_lt hB hk
 have h2 := shift_fits hB hk
 have h3 := nw_mono hle
 refine ⟨h1, h2, shift_len h1, ?_, h3⟩
 rw [h2, Nat.mul_right_comm]
 exact Nat.mul_lt_mul_of_pos_right (le_of_nw2 hB (by omega)) (Nat.pow_pos (by decide))
theorem dm_quo {A B k m n : Nat} (hB : B ≠ 0) (D : Dm A B k) (hm : m = (List.length (words A)) + 1) (hn : n = (List.length (words (B * 2 ^ k)))) : words (val (wordsN (m - n) (A * 2 ^ k / (B * 2 ^ k)))) = words (A / B) := by
 subst hm; subst hn
 have hp : 0 < 2 ^ k := Nat.pow_pos (by decide)
 rw [Nat.mul_div_mul_right _ _ hp, words_val_wordsN]
 rw [D.v, Nat.div_lt_iff_lt_mul (by omega), Nat.mul_comm]
 exact le_of_nw2 hB (by have := D.le; omega)
theorem dm_rest {A B k m : Nat} (hB : B ≠ 0) (D : Dm A B k) (hm : m = (List.length (words A)) + 1) : val (wordsN m (left (A * 2 ^ k) (B * 2 ^ k) 0)) / 2 ^ k = A % B := by
 subst hm
 have hp : 0 < 2 ^ k := Nat.pow_pos (by decide)
 have e : left (A * 2 ^ k) (B * 2 ^ k) 0 = A % B * 2 ^ k := by
  unfold left
  rw [Nat.pow_zero, Nat.mod_one, Nat.div_one, Nat.zero_add, Nat.one_mul, Nat.mul_mod_mul_right]
 rw [e, val_wordsN, Nat.mod_eq_of_lt, Nat.mul_div_cancel _ hp]
 refine Nat.lt_of_le_of_lt (Nat.mul_le_mul_right _ (Nat.mod_le A B)) (lt_pow_of D.w)
theorem nw_val_wordsN (m N : Nat) : (List.length (words (val (wordsN m N)))) ≤ m := by
 have := nw_val (wordsN_ok m N); rwa [wordsN_len] at this
/-! ### bits -/
theorem bitLen_uniq {n k : Nat} (h1 : n < 2 ^ k) (h2 : n ≠ 0 → 2 ^ (k - 1) ≤ n) (h0 : n = 0 → k = 0) : bitLen n = k := by
 have h := bitLen_spec n
 by_cases hn : n = 0
 ·rw [h0 hn]; subst hn; rfl
 have a := h.2 hn
 have b := h2 hn
 have c := h.1
 have p := bitLen_pos hn
 have hk : 0 < k := by
  rcases Nat.eq_zero_or_pos k with e | e
  ·subst e; simp at h1; omega
  ·exact e
 have e1 : bitLen n - 1 < k := (Nat.pow_lt_pow_iff_right (by decide : 1 < 2)).1 (Nat.lt_of_le_of_lt a h1)
 have e2 : k - 1 < bitLen n := (Nat.pow_lt_pow_iff_right (by decide : 1 < 2)).1 (Nat.lt_of_le_of_lt b c)
 omega
theorem W_pow (n : Nat) : W ^ n = 2 ^ (64 * n) := by rw [Nat.pow_mul]
theorem bits_words {A : Nat} (h : A ≠ 0) : 64 * ((List.length (words A)) - 1) + bitLen (dig A ((List.length (words A)) - 1)) = bitLen A := by
 obtain ⟨n, hn⟩ : ∃ n, (List.length (words A)) = n + 1 := ⟨(List.length (words A)) - 1, by have := nw_pos h; omega⟩
 have hd := top_div hn
 have ht := dig_top h
 rw [hn, Nat.add_sub_cancel] at *
 obtain ⟨t, hte⟩ : ∃ t, t = dig A n := ⟨_, rfl⟩
 rw [← hte] at ht hd ⊢
 have hs := bitLen_spec t
 have hp := bitLen_pos ht
 have e := Nat.div_add_mod A (W ^ n)
 have hm := Nat.mod_lt A (pow_pos' n)
 rw [hd] at e
 generalize A % W ^ n = low at *
 symm
 apply bitLen_uniq
 ·rw [Nat.pow_add, ← W_pow]
  have : W ^ n * (t + 1) ≤ W ^ n * 2 ^ bitLen t := Nat.mul_le_mul_left _ hs.1
  rw [Nat.mul_add] at this; omega
 ·intro _
  rw [Nat.add_sub_assoc (by omega), Nat.pow_add, ← W_pow]
  have : W ^ n * 2 ^ (bitLen t - 1) ≤ W ^ n * t := Nat.mul_le_mul_left _ (hs.2 ht)
  omega
 ·intro h0; exact absurd h0 h
theorem bits_zero {A : Nat} (h : (List.length (words A)) = 0) : A = 0 := of_words_nil (List.eq_nil_of_length_eq_zero h)
/-! ### powers of two, as words -/
/-! ### the root -/
end Go.Nt
namespace Go.Proofs.YthkdmhaafanjlaaGreat
open Go.En Go.RowKit
set_option maxRecDepth 10000
set_option maxHeartbeats 4000000
open Go.Nt
theorem one_word {B : Nat} (h : (List.length (words B)) = 1) : (words B).getD 0 0 = B := by
 rw [getD_words, dig_def, Nat.pow_zero, Nat.div_one, Nat.mod_eq_of_lt (lt_of_nw_le_one (by omega))]
theorem bits_int {A : Nat} (h : (List.length (words A)) ≠ 0) : 64 * (((List.length (words A)) : Int) - 1) + ((bitLen (dig A ((List.length (words A)) - 1)) : Nat) : Int) = ((bitLen A : Nat) : Int) := by
 have hA : A ≠ 0 := fun e => h (by rw [e, words_zero]; rfl)
 have := bits_words hA
 omega
theorem div_DivMod {xs ys : List Nat} (hx : (List.length (words (val xs))) < 4294800000) (hy : (List.length (words (val ys))) < 4294800000) : Ctr Tryz.prog 248 [isWords xs, isWords ys] (isTup [isWords (words (val xs / val ys)), isWords (words (if val ys = 0 then 0 else val xs % val ys)), isB (decide (val ys ≠ 0))]) := by
 refine Ctr.intro Tryz.func248 rfl (by kernel_rfl) Tryz.ntmps248 rfl fun w0 F0 => .cv (Cv.wk (.l [0, 1] rfl)) (.fact (Has.lenLt (Has.t (t := 0) rfl)) fun lt0 => .fact (Has.okW (Has.t (t := 0) rfl)) fun ok0 => .fact (Has.lenLt (Has.t (t := 1) rfl)) fun lt1 => .fact (Has.okW (Has.t (t := 1) rfl)) fun ok1 => .seq fun _ k1 => .region (st (.as (.cW (f := isU))) rfl (st (.as (.cW (f := isU))) rfl (st (.as (.cB false)) rfl (nl (.thn (k1 _ _ (.seq fun _ k2 => .region (st (.mv (.t rfl)) rfl (st (.eq (.call (nat_Norm (by first | with_reducible assumption | omega | (simp only [val_words]; omega))) (.cons (.t rfl) .nil)) (by first | (simp only [val_words]; rfl) | rfl)) rfl ?_))))))))))
 refine st (.mv (.t rfl)) rfl (st (.eq (.call (nat_Norm (by first | with_reducible assumption | omega | (simp only [val_words]; omega))) (.cons (.t rfl) .nil)) (by first | (simp only [val_words]; rfl) | rfl)) rfl ?_)
 refine st (.as (.t rfl)) rfl (st (.as (.t rfl)) rfl (nl (.thn (k2 _ _ (.seq fun _ k3 => .block (.seq fun _ k4 => .region (st (.mv (.t rfl)) rfl (st (.len sl29 (.t rfl)) rfl (st (.eqI (.t rfl) (.cI 0 rfl)) rfl (st (.as (.t rfl)) rfl (nl (.thn (k4 _ _ (.cv (Cv.wk (.l [0, 1, 4, 5, 6, 23] rfl)) (.cond (.t rfl) (fun hc1 => ?_) (fun hc1 => ?_))))))))))))))))
 ·have hc1 := BP.t hc1
  refine .seq fun _ k5 => .region (st (.as (.cW (f := isU))) rfl (st (.as (.cW (f := isU))) rfl (st (.as (.cB false)) rfl (nl (.thn (k5 _ _ (.ret (.blr (.thr (rtN (.inl rfl) Tryz.results248 rfl rfl (.tmp (Has.t' rfl ?_) (.tmp (Has.t' rfl ?_) (.tmp (Has.t' rfl ?_) .nil)))))))))))))
  ·exact SlM_eq (by rw [bits_zero (A := val ys) (by omega), Nat.div_zero, words_zero])
  ·exact SlM_eq (by rw [if_pos (bits_zero (A := val ys) (by omega)), words_zero])
  ·exact isB_eq (by simp [bits_zero (show (List.length (words (val ys))) = 0 by omega)])
 ·have hc1 := BP.f hc1
  refine .seq fun _ k6 => .region (st (.mv (.t rfl)) rfl (st (.mv (.t rfl)) rfl (st (.eq (.call (nat_Cmp) (.cons (.t rfl) (.cons (.t rfl) .nil))) (by first | (simp only [val_words]; rfl) | rfl)) rfl ?_)))
  refine st (.ltI (.t rfl) (.cI 0 rfl)) rfl (st (.as (.t rfl)) rfl (nl (.thn (k6 _ _ (.cv (Cv.wk (.l [0, 1, 4, 5, 6, 27] rfl)) (.cond (.t rfl) (fun hc2 => ?_) (fun hc2 => ?_)))))))
  ·have hc2 := BP.t hc2
   have hlt := cmpN_neg.1 hc2
   refine .seq fun _ k7 => .region (st (.mv (.t rfl)) rfl (st (.as (.cW (f := isU))) rfl (st (.as (.t rfl)) rfl (st (.as (.cB true)) rfl (nl (.thn (k7 _ _ (.ret (.blr (.thr (rtN (.inl rfl) Tryz.results248 rfl rfl (.tmp (Has.t' rfl ?_) (.tmp (Has.t' rfl ?_) (.tmp (Has.t' rfl ?_) .nil))))))))))))))
   ·exact SlM_eq (by rw [Nat.div_eq_of_lt hlt, words_zero])
   ·exact SlM_eq (by rw [if_neg (by omega), Nat.mod_eq_of_lt hlt])
   ·exact isB_eq (by simp; omega)
  ·have hc2 := BP.f hc2
   have hle : val ys ≤ val xs := Nat.le_of_not_lt (fun h => by have := cmpN_neg.2 h; omega)
   refine .seq fun _ k8 => .region (st (.mv (.t rfl)) rfl (st (.len sl29 (.t rfl)) rfl (st (.eqI (.t rfl) (.cI 1 rfl)) rfl (st (.as (.t rfl)) rfl (nl (.thn (k8 _ _ (.cond (.t rfl) (fun hc3 => ?_) (fun hc3 => ?_)))))))))
   ·have hc3 := BP.t hc3
    have hB : val ys ≠ 0 := fun e => by rw [e, words_zero] at hc1; simp at hc1
    refine .seq fun _ k9 => .region (st (.mv (.t rfl)) rfl (st (.mv (.t rfl)) rfl (st (.ixP sl29 ty39 (.t rfl) (.cI 0 rfl) ⟨by omega, by omega⟩ (getD_some (d := 0) (by first | omega | (simp only [Int.toNat_natCast, List.length_set]; omega)))) rfl ?_)))
    refine st (.eq (.loadP1 (.t rfl) ty39) ((show isU _ = isU (val ys) from isU_eq (one_word (by omega))))) rfl (st (.eq (.call (div_Small (by first | with_reducible assumption | omega | (simp only [val_words]; omega))) (.cons (.t rfl) (.cons (.t rfl) .nil))) (by first | (simp only [val_words]; rfl) | rfl)) rfl ?_)
    refine st (.mv (.t rfl)) rfl (st (.ext (.t rfl) rfl) rfl (st (.ext (.t rfl) rfl) rfl (st (.ext (.t rfl) rfl) rfl (st (.as (.t rfl)) rfl (st (.as (.t rfl)) rfl (st (.as (.t rfl)) rfl (nl (.thn (k9 _ _ (.cv (Cv.wk (.l [0, 1, 4, 5, 6, 7, 8] rfl)) (.seq fun _ k10 => .region (st (.mv (.t rfl)) rfl (st (.mv (.t rfl)) rfl (st (.call (nat_Of) (.cons (.t rfl) .nil)) rfl (st (.as (.t rfl)) rfl (st (.as (.t rfl)) rfl (st (.as (.cB true)) rfl (nl (.thn (k10 _ _ (.cv (Cv.wk (.l [0, 1, 4, 5, 6] rfl)) (.ret (.blr (.thr (rtN (.inl rfl) Tryz.results248 rfl rfl (.tmp (Has.t' rfl ?_) (.tmp (Has.t' rfl ?_) (.tmp (Has.t' rfl ?_) .nil))))))))))))))))))))))))))))
    ·rfl
    ·rfl
    ·exact isB_eq (by simp [hB])
   ·have hc3 := BP.f hc3
    have hB : val ys ≠ 0 := fun e => by rw [e, words_zero] at hc1; simp at hc1
    obtain ⟨k, hk⟩ : ∃ k, k = 64 - bitLen (dig (val ys) ((List.length (words (val ys))) - 1)) := ⟨_, rfl⟩
    have D := dm hB hle hk
    have Dk := D.k64
    have Dv := D.v
    have Dw := D.w
    have Dl := D.le
    refine .skip (.bln (.thn (k3 _ _ (.cv (Cv.wk (.l [0, 1, 4, 5, 6] rfl)) (.seq fun _ k11 => .region (st (.mv (.t rfl)) rfl (st (.mv (.t rfl)) rfl (st (.len sl29 (.t rfl)) rfl (st (.subI (.t rfl) (.cI 1 rfl) (by first | with_reducible assumption | omega | (simp only [val_words]; omega)) (by first | with_reducible assumption | omega | (simp only [val_words]; omega))) rfl ?_)))))))))
    refine st (.ixP sl29 ty39 (.t rfl) (.t rfl) ⟨by omega, by omega⟩ (getD_some (d := 0) (by first | omega | (simp only [Int.toNat_natCast, List.length_set]; omega)))) rfl ?_
    refine st (.eq (.loadP1 (.t rfl) ty39) ((show isU _ = isU (dig (val ys) ((List.length (words (val ys))) - 1)) from isU_eq (getV (by omega))))) rfl (st (.eq (.call (bits_LZ64) (.cons (.t rfl) .nil)) ((show isI _ = isI ((k : Nat) : Int) from isI_eq (by rw [hk])))) rfl (st (.as (.t rfl)) rfl (nl (.thn (k11 _ _ (.cv (Cv.wk (.l [0, 1, 4, 5, 6, 10] rfl)) (.seq fun _ k12 => .region (st (.mv (.t rfl)) rfl (st (.mv (.t rfl)) rfl (st (.eq (.call (nat_Shl (by omega) (by rw [val_words]; omega)) (.cons (.t rfl) (.cons (.t rfl) .nil))) (by first | (simp only [val_words]; rfl) | rfl)) rfl ?_))))))))))
    refine st (.mv (.t rfl)) rfl (st (.ext (.t rfl) rfl) rfl (st (.ext (.t rfl) rfl) rfl (st (.as (.t rfl)) rfl (st (.as (.t rfl)) rfl (nl (.thn (k12 _ _ (.cv (Cv.wk (.l [0, 4, 5, 6, 10, 11] rfl)) (.seq fun _ k13 => .region (st (.mv (.t rfl)) rfl (st (.mv (.t rfl)) rfl (st (.eq (.call (nat_Shl (by omega) (by rw [val_words]; omega)) (.cons (.t rfl) (.cons (.t rfl) .nil))) (by first | (simp only [val_words]; rfl) | rfl)) rfl ?_))))))))))))
    refine st (.mv (.t rfl)) rfl (st (.ext (.t rfl) rfl) rfl (st (.ext (.t rfl) rfl) rfl (st (.as (.t rfl)) rfl (st (.as (.t rfl)) rfl (nl (.thn (k13 _ _ (.cv (Cv.wk (.l [0, 4, 5, 6, 10, 11, 13] rfl)) (.seq fun _ k14 => .region (st (.mv (.t rfl)) rfl (st (.len sl29 (.t rfl)) rfl (st (.addI (.t rfl) (.cI 1 rfl) (by first | with_reducible assumption | omega | (simp only [val_words]; omega)) (by first | with_reducible assumption | omega | (simp only [val_words]; omega))) rfl ?_))))))))))))
    refine .make (f := isU) (u := 0) (n := (List.length (words (val xs))) + 1) (c := (List.length (words (val xs))) + 1) sl29 ty39 zero39 (fun _ _ => ⟨⟨rfl, by decide⟩, trivial⟩) by39 (Has.t' rfl rfl) (Has.t' rfl rfl) ⟨by omega, by omega⟩ rfl fun b1 => st (.as (.t rfl)) rfl (nl (.thn (k14 _ _ (.cv (Cv.wk (.l [4, 5, 6, 10, 11, 13, 15] rfl)) (.seq fun _ k15 => .region (st (.mv (.t rfl)) rfl (st (.mv (.t rfl)) rfl (.copyW sl29 ty39 (fun _ => inferInstance) (.t rfl) (.t rfl) (i := 0) rfl ⟨Dw, by simp⟩ rfl (M' := [(some b1, cellM (List.map isU (wordsN ((List.length (words (val xs))) + 1) (val xs * 2 ^ k))))]) (memL_eq (copy_words Dw)) (nl (.thn (k15 _ _ (.seq fun _ k16 => .region (st (.mv (.t rfl)) rfl (st (.mv (.t rfl)) rfl (.callM (div_long (N := val xs * 2 ^ k) (v := val ys * 2 ^ k) (m := (List.length (words (val xs))) + 1) (by omega) (by omega) (by omega) D.lt) (i := 0) rfl (.cons (.t rfl) (.cons (.t rfl) .nil)) rfl (M' := [(_, _)]) rfl (st (.as (.t rfl)) rfl (nl (.thn (k16 _ _ (.cv (Cv.wk (.l [4, 5, 6, 10, 15, 16] rfl)) (.seq fun _ k17 => .cv (Cv.freeze' (t := 15) (i := 0) (ys := wordsN ((List.length (words (val xs))) + 1) (left (val xs * 2 ^ k) (val ys * 2 ^ k) 0)) rfl rfl rfl (by simp [wordsN_len]) (freeze_all (wordsN_len _ _).symm)) (.memEq (M' := []) rfl (.cv (Cv.wk (.l [4, 5, 6, 10, 15, 16] rfl)) (.region (st (.mv (.t rfl)) rfl ?_)))))))))))))))))))))))))
    refine st (.mv (.t rfl)) rfl (st (.call (nat_Shr (by omega) (by have := nw_val_wordsN ((List.length (words (val xs))) + 1) (left (val xs * 2 ^ k) (val ys * 2 ^ k) 0); omega)) (.cons (.t rfl) (.cons (.t rfl) .nil))) rfl ?_)
    refine st (.mv (.t rfl)) rfl (st (.ext (.t rfl) rfl) rfl (st (.ext (.t rfl) rfl) rfl (st (.as (.t rfl)) rfl (st (.as (.t rfl)) rfl (nl (.thn (k17 _ _ (.cv (Cv.wk (.l [4, 5, 6, 16, 17] rfl)) (.seq fun _ k18 => .region (st (.mv (.t rfl)) rfl ?_))))))))))
    refine st (.call (nat_Norm (by have := nw_val_wordsN ((List.length (words (val xs))) + 1 - (List.length (words (val ys * 2 ^ k)))) (val xs * 2 ^ k / (val ys * 2 ^ k)); omega)) (.cons (.t rfl) .nil)) rfl ?_
    refine st (.mv (.t rfl)) rfl (st (.as (.t rfl)) rfl (st (.as (.t rfl)) rfl (st (.as (.cB true)) rfl (nl (.thn (k18 _ _ (.cv (Cv.wk (.l [4, 5, 6] rfl)) (.ret (rtN (.inl rfl) Tryz.results248 rfl rfl (.tmp (Has.t' rfl ?_) (.tmp (Has.t' rfl ?_) (.tmp (Has.t' rfl ?_) .nil))))))))))))
    ·exact SlM_eq (dm_quo hB D rfl rfl)
    ·exact SlM_eq (by rw [if_neg hB, dm_rest hB D rfl])
    ·exact isB_eq (by simp [hB])
theorem nat_Bits {xs : List Nat} (hx : (List.length (words (val xs))) < 4294967296) : Ctr Tryz.prog 149 [isWords xs] (isI ((bitLen (val xs) : Nat) : Int)) := by
 refine Ctr.intro Tryz.func149 rfl (by kernel_rfl) Tryz.ntmps149 rfl fun w0 F0 => .cv (Cv.wk (.l [0] rfl)) (.fact (Has.lenLt (Has.t (t := 0) rfl)) fun lt0 => .fact (Has.okW (Has.t (t := 0) rfl)) fun ok0 => .seq fun _ k1 => .region (st (.as (.cI 0 rfl)) rfl (nl (.thn (k1 _ _ (.seq fun _ k2 => .region (st (.mv (.t rfl)) rfl (st (.call (nat_trim) (.cons (.t rfl) .nil)) rfl (st (.as (.t rfl)) rfl (nl (.thn (k2 _ _ (.seq fun _ k3 => .seq fun _ k4 => .region (st (.mv (.t rfl)) rfl (st (.len sl29 (.t rfl)) rfl (st (.eqI (.t rfl) (.cI 0 rfl)) rfl (nl (.thn (k4 _ _ (.cond (.t rfl) (fun hc1 => ?_) (fun hc1 => ?_)))))))))))))))))))))
 ·have hc1 := BP.t hc1
  refine .seq fun _ k5 => .region (st (.as (.cI 0 rfl)) rfl (nl (.thn (k5 _ _ (.cv (Cv.wk (.l [0, 2] rfl)) (.ret (.thr (rt1 (.inl rfl) Tryz.results149 rfl (.tmp (Has.t' rfl ?_) .nil)))))))))
  all_goals (exact isI_eq (by rw [bits_zero (A := val xs) (by omega)]; rfl))
 ·have hc1 := BP.f hc1
  have hb := bits_int (A := val xs) (by omega)
  have hd := bitLen_le64 (dig_lt (val xs) ((List.length (words (val xs))) - 1))
  refine .skip (.thn (k3 _ _ (.cv (Cv.wk (.l [0, 2] rfl)) (.seq fun _ k6 => .region (st (.mv (.t rfl)) rfl (st (.len sl29 (.t rfl)) rfl (st (.subI (.t rfl) (.cI 1 rfl) (by first | with_reducible assumption | omega | (simp only [val_words]; omega)) (by first | with_reducible assumption | omega | (simp only [val_words]; omega))) rfl ?_)))))))
  refine st (.mulI (.cI 64 rfl) (.t rfl) (by first | with_reducible assumption | omega | (simp only [val_words]; omega)) (by first | with_reducible assumption | omega | (simp only [val_words]; omega))) rfl ?_
  refine st (.mv (.t rfl)) rfl (st (.mv (.t rfl)) rfl (st (.len sl29 (.t rfl)) rfl (st (.subI (.t rfl) (.cI 1 rfl) (by first | with_reducible assumption | omega | (simp only [val_words]; omega)) (by first | with_reducible assumption | omega | (simp only [val_words]; omega))) rfl ?_)))
  refine st (.ixP sl29 ty39 (.t rfl) (.t rfl) ⟨by omega, by omega⟩ (getD_some (d := 0) (by first | omega | (simp only [Int.toNat_natCast, List.length_set]; omega)))) rfl ?_
  refine st (.eq (.loadP1 (.t rfl) ty39) ((show isU _ = isU (dig (val xs) ((List.length (words (val xs))) - 1)) from isU_eq (getV (by omega))))) rfl (st (.call (bits_Len64) (.cons (.t rfl) .nil)) rfl (st (.addI (.t rfl) (.t rfl) (by first | with_reducible assumption | omega | (simp only [val_words]; omega)) (by first | with_reducible assumption | omega | (simp only [val_words]; omega))) rfl ?_))
  refine st (.as (.t rfl)) rfl (nl (.thn (k6 _ _ (.cv (Cv.wk (.l [2] rfl)) (.ret (rt1 (.inl rfl) Tryz.results149 rfl (.tmp (Has.t' rfl ?_) .nil)))))))
  all_goals (exact isI_eq (by omega))
theorem gcd_le_max (a b : Nat) : Nat.gcd a b ≤ max a b := by
 rcases Nat.eq_zero_or_pos a with h | h
 ·subst h; rw [Nat.gcd_zero_left]; exact Nat.le_max_right _ _
 ·exact Nat.le_trans (Nat.gcd_le_left b h) (Nat.le_max_left _ _)
theorem nw_max (a b : Nat) : (List.length (words (max a b))) ≤ max ((List.length (words a))) ((List.length (words b))) := by
 rcases Nat.le_total a b with h | h
 ·rw [Nat.max_eq_right h]; omega
 ·rw [Nat.max_eq_left h]; omega
end Go.Proofs.YthkdmhaafanjlaaGreat
namespace Go.En
open Go.RowKit
section
variable {E : Env} {P : Program} {Γ : Ctx} {M : Mem} {ty : TypeId} {pos : String} {after : Array Edge} {gd : Option (Nat × Bool)} {d : Option Tmp}
 {ops : Array Oper} {Q : Exit → Act → World → Prop} {rest : List Oper} {T T' : TypeId} {x y : Operand} {α : Type} {f : α → VP} {fk : α → List VP} {xs : List α} {k : Nat}
theorem flat_len (hk : ∀ y, (fk y).length = k) : ∀ (xs : List α), (xs.flatMap fk).length = xs.length * k
 | [] => by simp
 | a :: l => by rw [List.flatMap_cons, List.length_append, hk, flat_len hk l, List.length_cons, Nat.succ_mul]; omega
theorem flat_take (hk : ∀ y, (fk y).length = k) : ∀ (n : Nat) (xs : List α), (xs.flatMap fk).take (n * k) = (xs.take n).flatMap fk
  | 0, xs => by simp
  | n + 1, [] => by simp
  | n + 1, a :: l => by
    rw [List.flatMap_cons, List.take_succ_cons, List.flatMap_cons, Nat.succ_mul, Nat.add_comm, ← hk a, List.take_length_add_append, hk a, flat_take hk n l]
theorem flat_skip (hk : ∀ y, (fk y).length = k) : ∀ (n : Nat) (xs : List α), (xs.flatMap fk).drop (n * k) = (xs.drop n).flatMap fk
  | 0, xs => by simp
  | n + 1, [] => by simp
  | n + 1, a :: l => by
    rw [List.flatMap_cons, List.drop_succ_cons, Nat.succ_mul, Nat.add_comm, ← hk a, List.drop_length_add_append, hk a, flat_skip hk n l]
theorem flat_part (hk : ∀ y, (fk y).length = k) (l h : Nat) (xs : List α) : ((xs.flatMap fk).take (h * k)).drop (l * k) = ((xs.take h).drop l).flatMap fk := by
 rw [flat_take hk, flat_skip hk]
theorem SlK_of {n : Nat} {Ss : List VP} {xs : List α} (h1 : n = xs.length) (h2 : Ss = xs.flatMap fk) : SlL k n Ss = SlK k fk xs := by subst h1; subst h2; rfl
theorem All2.rep {z : List VP} {vs : List Value} {w : World} {F : Blk} (h : All2 z w F vs) : ∀ c, All2 ((List.replicate c z).flatten) w F ((List.replicate c vs).flatten)
 | 0 => trivial
 | c + 1 => by rw [List.replicate_succ, List.replicate_succ, List.flatten_cons, List.flatten_cons]; exact All2.append h (All2.rep h c)
theorem rep_flat {u : α} : ∀ c, (List.replicate c u).flatMap fk = (List.replicate c (fk u)).flatten
 | 0 => rfl
 | c + 1 => by rw [List.replicate_succ, List.replicate_succ, List.flatMap_cons, List.flatten_cons, rep_flat c]
theorem Ops.makeK {d : Nat} {e : TypeId} {g : Bool} {z : Value} {n c : Nat} {u : α} (hT : slB P T = some e) (ht : tyB P e = some (k, g)) (hz : zeroB P e = some z) (hZ : ∀ w F, All2 (fk u) w F z.cells.toList) (hk : ∀ y, (fk y).length = k) (hby : byLe P e 1024 = true)
  (hx : Has E Γ M x (isI (n : Int))) (hy : Has E Γ M y (isI (c : Int))) (hn : n ≤ c ∧ c ≤ 4294967296) (hd : Nat.blt d E.n = true)
  (kk : ∀ b, Ops E P ops Q rest ((d, isWin b 0 n c) :: Γ) ((some b, cellM ((List.replicate c u).flatMap fk)) :: M)) : Ops E P ops Q (⟨some d, .makeSlice T x y, ty, pos, after, none⟩ :: rest) Γ M := by
 intro a w F s
 refine wpList_plain rfl fun K hK => ?_
 unfold Oper.wp
 have hm : z.cells.size = k := by have := (hZ w F).len; rw [hk] at this; simpa using this.symm
 obtain ⟨i, hi, hb⟩ : ∃ i, P.info? e = some i ∧ i.bytes ≤ 1024 := by
  unfold byLe at hby
  cases hi : P.info? e with
  | none => simp [hi] at hby
  | some i => rw [hi] at hby; exact ⟨i, rfl, Nat.le_of_ble_eq_true hby⟩
 have hr : (execOp a.eval (⟨some d, .makeSlice T x y, ty, pos, after, none⟩ : Oper)).run P w = .ok (.value (.slice (some ⟨w.heap.size, 0, none⟩) n c)) { w with heap := w.heap.push (.cells ((List.replicate c z.cells.toList).flatten).toArray e) } := by
  simp only [execOp, evI hx a w F s, evI hy a w F s, Sem.run_bind, run_make hT ht hz hi hb hn.1 hn.2 hm, Result.andThen_ok, Sem.run_pure]
 rw [hr]
 have hall : All2 ((List.replicate c u).flatMap fk) w F ((List.replicate c z.cells.toList).flatten) := by rw [rep_flat]; exact (hZ w F).rep c
 have s1 := s.alloc (T := e) hall
 have hd' : d < E.n := by simpa [Nat.blt_eq] using hd
 exact hK _ _ (kk w.heap.size _ _ F (s1.put hd' ⟨rfl, hn.1, by rw [maxLen_eq]; omega⟩))
theorem flat_set (hk : ∀ y, (fk y).length = k) (z : α) : ∀ (j : Nat) (xs : List α), j < xs.length → (xs.flatMap fk).take (j * k) ++ fk z ++ (xs.flatMap fk).drop (j * k + k) = (xs.set j z).flatMap fk
  | j, xs, hj => by
    rw [← Nat.succ_mul, flat_take hk, flat_skip hk, List.set_eq_take_append_cons_drop, if_pos hj, List.flatMap_append, List.flatMap_cons, List.append_assoc]
theorem Ops.storeK {b i j : Nat} {g : Bool} {T : TypeId} {S : VP} {z : α} [sh : Shape S (fk z)] [o1 : Ones (fk z)] (hk : ∀ y, (fk y).length = k) (hx : Has E Γ M x (isPtr b (j * k))) (hy : Has E Γ M y S)
  (hM : M[i]? = some (some b, cellM (xs.flatMap fk))) (hT : tyB P T = some (k, g)) (hl : j < xs.length) {M' : Mem}
  (hM' : M.set i (some b, cellM ((xs.set j z).flatMap fk)) = M') (kk : Ops E P ops Q rest Γ M') : Ops E P ops Q (⟨none, .store T x y, ty, pos, after, none⟩ :: rest) Γ M :=
 Ops.store (Ss1 := fk z) hx hy hM hT (by rw [hk, Nat.beq_eq]) (by
  rw [Nat.ble_eq, flat_len hk, ← Nat.succ_mul]; exact Nat.mul_le_mul_right k hl) (Ss' := (xs.set j z).flatMap fk) (flat_set hk z j xs hl) hM' kk
theorem Cv.freezeL {t b o n c i : Nat} {Ss : List VP} (hW : E.W = []) (ht : look Γ t = some (isWin b o n c)) (hM : M[i]? = some (some b, cellM Ss)) (hl : o + n * k ≤ Ss.length) : Cv E Γ M ((t, SlL k n ((Ss.drop o).take (n * k))) :: Γ) (M.eraseIdx i) := by
  intro a w F s
  obtain ⟨h1, h2, h3, ob, h4, vs, T', rfl, hv⟩ := s.mem.each b _ (List.mem_of_getElem? hM)
  refine ⟨fun k => F k ∨ k = b, ?_⟩
  have hsub : ∀ k, F k → (F k ∨ k = b) := fun k hk => .inl hk
  have hi : i < M.length := by
    rcases Nat.lt_or_ge i M.length with h | h
    · exact h
    · rw [List.getElem?_eq_none h] at hM; cases hM
  have hMi : M[i] = (some b, cellM Ss) := by rw [List.getElem?_eq_getElem hi] at hM; exact Option.some.inj hM
  have hbW : E.w0.heap.size ≤ b := h1.resolve_right (by rw [hW]; simp)
  obtain ⟨e1, e2, e3⟩ := s.slots t _ ht
  · refine { defers := s.defers, size := s.size, keep := s.keep, f0 := fun k hk => .inl (s.f0 k hk), fnew := ?_, flt := ?_, slots := ?_, mem := ⟨s.mem.apart.sublist (List.eraseIdx_sublist _ _), ?_⟩ }
    · rintro k (hk | rfl)
      · exact s.fnew k hk
      · exact .inr ⟨hbW, h2⟩
    · rintro k (hk | rfl)
      · exact s.flt k hk
      · exact h2
    · intro t' S' ht'
      simp only [look] at ht'
      cases hb : Nat.beq t t' with
      | false => rw [hb] at ht'; exact S'.mono _ _ _ _ _ (s.slots t' S' ht') (fun _ _ => rfl) hsub
      | true =>
        rw [hb] at ht'
        obtain rfl : SlL k n ((Ss.drop o).take (n * k)) = S' := by simpa using ht'
        obtain rfl := Nat.eq_of_beq_eq_true hb
        have hlen : ((Ss.drop o).take (n * k)).length = n * k := by rw [List.length_take, List.length_drop]; omega
        refine ⟨some ⟨b, o, none⟩, c, e1, e2, e3, hlen, ?_⟩
        right
        refine ⟨b, o, rfl, .inr rfl, (vs.drop o).take (n * k), All2.mono (fun _ _ => rfl) hsub _ _ ((hv.drop o).take (n * k)), fun j u hj => ?_⟩
        have hjn : j < n * k := by
          rcases Nat.lt_or_ge j (n * k) with h | h
          · exact h
          · rw [List.getElem?_take_eq_none h] at hj; cases hj
        rw [List.getElem?_take_of_lt hjn, List.getElem?_drop] at hj
        simp [World.cell?, h4, hj]
    · intro k C hk
      obtain ⟨j, hji, hj⟩ := List.mem_eraseIdx_iff_getElem?.1 hk
      obtain ⟨g1, g2, g3, o2, g4, g5⟩ := s.mem.each k C (List.mem_of_getElem? hj)
      have hkb : k ≠ b := by
        intro e; subst e
        have hjl : j < M.length := by
          rcases Nat.lt_or_ge j M.length with h | h
          · exact h
          · rw [List.getElem?_eq_none h] at hj; cases hj
        have hMj : M[j] = (some k, C) := by rw [List.getElem?_eq_getElem hjl] at hj; exact Option.some.inj hj
        rcases Nat.lt_or_gt_of_ne hji with hlt | hlt
        · have hp := List.pairwise_iff_getElem.1 s.mem.apart j i hjl hi hlt
          rw [hMi, hMj] at hp; simp at hp
        · have hp := List.pairwise_iff_getElem.1 s.mem.apart i j hi hjl hlt
          rw [hMi, hMj] at hp; simp at hp
      exact ⟨g1, g2, fun h => h.elim g3 hkb, o2, g4, C.mono _ _ _ _ _ g5 (fun _ _ => rfl) hsub⟩
theorem Cv.freezeK {t b n c i : Nat} {ys : List α} (hk : ∀ y, (fk y).length = k) (hW : E.W = []) (ht : look Γ t = some (isWin b 0 n c)) (hM : M[i]? = some (some b, cellM (xs.flatMap fk))) (hl : n ≤ xs.length) (he : xs.take n = ys) :
  Cv E Γ M ((t, SlK k fk ys) :: Γ) (M.eraseIdx i) := by
 have h := Cv.freezeL (E := E) (k := k) hW ht hM (by rw [flat_len hk, Nat.zero_add]; exact Nat.mul_le_mul_right k hl)
 rw [List.drop_zero, flat_take hk, he] at h
 rwa [SlK_of (by rw [← he, List.length_take]; omega) rfl] at h
def grMK (fk : α → List VP) (g : Gr α) (ys : List α) : Option Nat × MP := (g.ob, cellM ((ys ++ g.sp).flatMap fk))
theorem Cv.grow0K (fk : α → List VP) : Cv E Γ M Γ (grMK fk Gr.nil [] :: M) := fun a w F s =>
 ⟨F, { s with mem := ⟨List.Pairwise.cons (fun x hx => .inl rfl) s.mem.apart, fun b C hb => by
  rcases List.mem_cons.1 hb with e | hb
  ·cases e
  ·exact s.mem.each b C hb⟩ }⟩
theorem All2.ofFlat {w : World} {F : Blk} {vs : List Value} (hk : ∀ y, (fk y).length = k) (h : All2 (xs.flatMap fk) w F vs) : vs.length = xs.length * k := by
 rw [← h.len, flat_len hk]
theorem Ops.appendGK {d i : Nat} {e : TypeId} {g0 : Bool} {z : Value} {u : α} {g : Gr α} {ys zs : List α} (hk : ∀ y, (fk y).length = k) (hk0 : 0 < k) (h1 : ∀ u, Ones (fk u)) (hT : slB P T = some e) (ht : tyB P e = some (k, g0)) (hz : zeroB P e = some z) (hZ : ∀ w F, All2 (fk u) w F z.cells.toList) (hby : byLe P e 1024 = true)
  (hx : Has E Γ M x (isGr g ys.length)) (hM : M[i]? = some (grMK fk g ys)) (hy : Has E Γ M y (SlK k fk zs)) (hn' : ys.length + zs.length ≤ 4294967296) (h0 : 0 < zs.length) (hd : Nat.blt d E.n = true)
  (kk : ∀ g' : Gr α, Ops E P ops Q rest ((d, isGr g' (ys.length + zs.length)) :: Γ) (M.set i (grMK fk g' (ys ++ zs)))) :
  Ops E P ops Q (⟨some d, .call ⟨.builtin .append, #[x, y], #[T, T]⟩, ty, pos, after, none⟩ :: rest) Γ M := by
 intro a w F s
 refine wpList_plain rfl fun K hK => ?_
 have hd' : d < E.n := by simpa [Nat.blt_eq] using hd
 obtain ⟨a1, cap, e2, g1, g2, g3, g4⟩ := hy a w F s
 have hu := slB_under hT
 obtain ⟨inf, hi, hb⟩ : ∃ i, P.info? e = some i ∧ i.bytes ≤ 1024 := by
  unfold byLe at hby
  cases hi : P.info? e with
  | none => simp [hi] at hby
  | some i => rw [hi] at hby; exact ⟨i, rfl, Nat.le_of_ble_eq_true hby⟩
 have hsz : inf.size = k := by
  have := run_size (P := P) (w := w) ht
  simp [sizeOf, typeInfo, go_sem, hi] at this; exact this
 have hzz : inf.zero = some z := by unfold zeroB at hz; rw [hi] at hz; simpa using hz
 have hone : z.cells.size = k := by have := (hZ w F).len; rw [hk] at this; simpa using this.symm
 have hzs : ∀ k, (Builtin.zeroCells z.cells k).toList = (List.replicate k z.cells.toList).flatten := fun k => by
  unfold Builtin.zeroCells
  rw [make_flat rfl]
 have hall : ∀ c, All2 ((List.replicate c u).flatMap fk) w F ((List.replicate c z.cells.toList).flatten) := fun c => by rw [rep_flat]; exact (hZ w F).rep c
 rcases g4 with g4 | ⟨b1, off, rfl, hF, vs, hv, hc⟩
 ·omega
 have hlen := hv.ofFlat hk
 have hnews : ∀ j u, vs[j]? = some u → w.cell? ((⟨b1, off, none⟩ : Addr).add j) = some u := fun j u hj => by rw [add_mk]; exact hc j u hj
 have hnl : vs.length = zs.length * inf.size := by rw [hsz]; exact hlen
 -- a new row
 have hfresh : ∀ (olds : List Value), All2 (ys.flatMap fk) w F olds → ∀ cp, ys.length + zs.length ≤ cp → cp ≤ maxLen →
   K (a.put (some d) (.slice (some ⟨w.heap.size, 0, none⟩) (ys.length + zs.length) cp)) { w with heap := w.heap.push (.cells (olds ++ vs ++ (Builtin.zeroCells z.cells (cp - (ys.length + zs.length))).toList).toArray e), drawn := w.drawn + 1 } := by
  intro olds ho cp h1 h2
  have hcs : All2 ((ys ++ zs ++ List.replicate (cp - (ys.length + zs.length)) u).flatMap fk) w F (olds ++ vs ++ (Builtin.zeroCells z.cells (cp - (ys.length + zs.length))).toList) := by
   rw [List.flatMap_append, List.flatMap_append, hzs]; exact All2.append (All2.append ho hv) (hall _)
  have s1 := (s.adv (Adv.drew w F)).alloc (T := e) (All2.mono (w := w) (w' := { w with drawn := w.drawn + 1 }) (fun _ _ => rfl) (fun _ h => h) _ _ hcs)
  refine hK _ _ (kk ⟨some w.heap.size, cp, List.replicate (cp - (ys.length + zs.length)) u⟩ _ _ F ((s1.swap (i := i)).put hd' (.inr ⟨_, rfl, rfl, ?_, h2⟩)))
  simp; omega
 unfold Oper.wp
 have hml : ys.length + zs.length ≤ maxLen := by rw [maxLen_eq]; omega
 rcases hx a w F s with ⟨hob, hyl, e1⟩ | ⟨b, hob, e1, hcap, hcm0⟩
 ·have hbytes : zs.length * inf.bytes ≤ 281474976710656 := by have := Nat.mul_le_mul (show zs.length ≤ 4294967296 by omega) hb; omega
  have hy0 : ys = [] := List.eq_nil_of_length_eq_zero hyl
  have hr := run_append_nil (P := P) w T ty e inf z hu hi hzz ⟨b1, off, none⟩ zs.length cap vs hnl hnews (by omega) (by omega) hbytes
  have hf := hfresh [] (by rw [hy0]; trivial) (grownCap w zs.length 0 e) (by rw [hyl, Nat.zero_add]; exact grownCap_ge _ _ _ _) (grownCap_le_maxLen _ _ _ _ (by omega))
  rw [hyl, Nat.zero_add, List.nil_append] at hf
  have hr2 : (execOp a.eval (⟨some d, .call ⟨.builtin .append, #[x, y], #[T, T]⟩, ty, pos, after, none⟩ : Oper)).run P w = .ok (.value (.slice (some ⟨w.heap.size, 0, none⟩) zs.length (grownCap w zs.length 0 e))) { w with heap := w.heap.push (.cells (vs ++ (Builtin.zeroCells z.cells (grownCap w zs.length 0 e - zs.length)).toList).toArray e), drawn := w.drawn + 1 } := by
   have earr : vs.toArray ++ Builtin.zeroCells z.cells (grownCap w zs.length 0 e - zs.length) = (vs ++ (Builtin.zeroCells z.cells (grownCap w zs.length 0 e - zs.length)).toList).toArray := by apply Array.ext'; simp
   simp only [execOp, resolve, invoke, builtin, Sem.run_bind]
   rw [← earr]
   simp [e1, e2, Sem.run_bind, hr]
   first | rfl | exact ⟨rfl, rfl⟩ | done
  rw [hr2]
  exact hf
 ·have hM' : M[i]? = some (some b, cellM ((ys ++ g.sp).flatMap fk)) := by rw [hM]; unfold grMK; rw [hob]
  obtain ⟨o, ho, us, T', rfl, hus⟩ := mem_at s hM'
  have husl := hus.ofFlat hk
  rw [List.length_append] at husl
  have hyk : ys.length * k ≤ us.length := by rw [husl]; exact Nat.mul_le_mul_right k (by omega)
  rcases Nat.lt_or_ge g.c (ys.length + zs.length) with hg | hg
  ·have holds : All2 (ys.flatMap fk) w F (us.take (ys.length * k)) := by
    have := hus.take (ys.length * k)
    rwa [flat_take hk, List.take_left' rfl] at this
   have hcell : ∀ j u, (us.take (ys.length * k))[j]? = some u → w.cell? ((⟨b, 0, none⟩ : Addr).add j) = some u := fun j u hj => by
    have hjl : j < ys.length * k := by
     rcases Nat.lt_or_ge j (ys.length * k) with h | h
     ·exact h
     ·rw [List.getElem?_take_eq_none h] at hj; cases hj
    rw [List.getElem?_take_of_lt hjl] at hj
    rw [add_mk]
    simp only [World.cell?, ho, Nat.zero_add]
    simpa using hj
   have hfit : Builtin.nextslicecap (ys.length + zs.length) g.c * inf.bytes ≤ 281474976710656 := by
    have h1 := nextslicecap_le hg
    have h2 := Nat.mul_le_mul (Nat.le_trans h1 (show 2 * (ys.length + zs.length) ≤ 8589934592 by omega)) hb
    omega
   have hr := run_append_grow (P := P) w T ty e inf z hu hi hzz ⟨b, 0, none⟩ ys.length g.c (us.take (ys.length * k)) (by rw [List.length_take, hsz]; omega) hcell ⟨b1, off, none⟩ zs.length cap vs hnl hnews hg (by omega) hfit
   have hf := hfresh _ holds (grownCap w (ys.length + zs.length) g.c e) (grownCap_ge _ _ _ _) (grownCap_le_maxLen _ _ _ _ hml)
   have hr2 : (execOp a.eval (⟨some d, .call ⟨.builtin .append, #[x, y], #[T, T]⟩, ty, pos, after, none⟩ : Oper)).run P w = .ok (.value (.slice (some ⟨w.heap.size, 0, none⟩) (ys.length + zs.length) (grownCap w (ys.length + zs.length) g.c e))) { w with heap := w.heap.push (.cells (us.take (ys.length * k) ++ vs ++ (Builtin.zeroCells z.cells (grownCap w (ys.length + zs.length) g.c e - (ys.length + zs.length))).toList).toArray e), drawn := w.drawn + 1 } := by
    have earr : (us.take (ys.length * k)).toArray ++ vs.toArray ++ Builtin.zeroCells z.cells (grownCap w (ys.length + zs.length) g.c e - (ys.length + zs.length)) = (us.take (ys.length * k) ++ vs ++ (Builtin.zeroCells z.cells (grownCap w (ys.length + zs.length) g.c e - (ys.length + zs.length))).toList).toArray := by apply Array.ext'; simp
    simp only [execOp, resolve, invoke, builtin, Sem.run_bind]
    rw [← earr]
    simp [e1, e2, Sem.run_bind, hr]
    first | rfl | exact ⟨rfl, rfl⟩ | done
   rw [hr2]
   exact hf
  ·have hvone : ∀ v ∈ vs, v.oneCell' = true := hv.one (fun S hS => by obtain ⟨u, _, hu⟩ := List.mem_flatMap.1 hS; exact (h1 u).ones S hu)
   have hsum : ys.length * k + vs.length ≤ us.length := by
    rw [hlen, husl, ← Nat.add_mul]; exact Nat.mul_le_mul_right k (by omega)
   have hst := run_storeCells_at P b (ys.length * k) T' vs 0 us.toArray w ho (by simp; omega) hvone
   simp only [Nat.add_zero] at hst
   have hfc := run_firstCells_some (P := P) w k zs.length ⟨b1, off, none⟩ zs.length cap vs (by rw [hlen]) hnews
   have hr : (Builtin.append_ #[T, T] ty #[.slice (some ⟨b, 0, none⟩) ys.length g.c, .slice (some ⟨b1, off, none⟩) zs.length cap]).run P w = .ok (.slice (some ⟨b, 0, none⟩) (ys.length + zs.length) g.c) (w.setRow b (us.take (ys.length * k) ++ vs ++ us.drop (ys.length * k + vs.length)).toArray) := by
    have hst' : (storeCells ⟨b, ys.length * k, none⟩ vs).run P w = .ok () (w.setRow b (us.take (ys.length * k) ++ vs ++ us.drop (ys.length * k + vs.length)).toArray) := by simpa using hst
    simp [Builtin.append_, run_underlying hu, sizeOf, typeInfo, hi, hsz, Builtin.lenOf, hg, hfc, Addr.add_lit, hst']
   have hr2 : (execOp a.eval (⟨some d, .call ⟨.builtin .append, #[x, y], #[T, T]⟩, ty, pos, after, none⟩ : Oper)).run P w = .ok (.value (.slice (some ⟨b, 0, none⟩) (ys.length + zs.length) g.c)) (w.setRow b (us.take (ys.length * k) ++ vs ++ us.drop (ys.length * k + vs.length)).toArray) := by
    simp only [execOp, resolve, invoke, builtin, Sem.run_bind]
    simp [e1, e2, Sem.run_bind, hr]
   rw [hr2]
   have hF : ∀ k', F k' → (w.setRow b (us.take (ys.length * k) ++ vs ++ us.drop (ys.length * k + vs.length)).toArray).heap[k']? = w.heap[k']? := fun k' hk' => setRow_ne _ _ _ _ (fun e => by
    subst e; exact (s.mem.each k' _ (List.mem_of_getElem? hM')).2.2.1 hk')
   have hnew : All2 ((ys ++ zs ++ g.sp.drop zs.length).flatMap fk) w F (us.take (ys.length * k) ++ vs ++ us.drop (ys.length * k + vs.length)) := by
    have e1 := hus.take (ys.length * k)
    rw [flat_take hk, List.take_left' rfl] at e1
    have e2 := hus.drop (ys.length * k + vs.length)
    rw [hlen, ← Nat.add_mul, flat_skip hk, List.drop_append, List.drop_of_length_le (by omega), List.nil_append, Nat.add_sub_cancel_left] at e2
    rw [List.flatMap_append, List.flatMap_append, hlen, ← Nat.add_mul]
    exact (e1.append hv).append e2
   refine hK _ _ (kk ⟨some b, g.c, g.sp.drop zs.length⟩ _ _ F ?_)
   exact (s.write (w' := w.setRow b (us.take (ys.length * k) ++ vs ++ us.drop (ys.length * k + vs.length)).toArray) (C' := cellM ((ys ++ zs ++ g.sp.drop zs.length).flatMap fk)) hM' rfl rfl rfl (setRow_size _ _ _) (fun k hk => setRow_ne _ _ _ _ hk) (setRow_heap _ _ _ _ _ _ ho) ⟨_, T', rfl, All2.mono hF (fun _ h => h) _ _ hnew⟩).put hd' (.inr ⟨b, rfl, rfl, by simp; omega, hcm0⟩)
theorem nilK {w : World} {F : Blk} : (SlK k fk ([] : List α)).h w F (.slice none 0 0) := ⟨none, 0, rfl, Nat.le_refl _, by rw [maxLen_eq]; omega, by simp, .inl rfl⟩
theorem Cv.freezeGK {t i : Nat} {g : Gr α} {ys : List α} (hk : ∀ y, (fk y).length = k) (hW : E.W = []) (ht : look Γ t = some (isGr g ys.length)) (hM : M[i]? = some (grMK fk g ys)) : Cv E Γ M ((t, SlK k fk ys) :: Γ) (M.eraseIdx i) := by
  intro a w F s
  rcases id (s.slots t _ ht) with ⟨hob, hyl, e1⟩ | ⟨b, hob, e1, hcap, hcm0⟩
  · refine ⟨F, { s with slots := ?_, mem := ⟨s.mem.apart.sublist (List.eraseIdx_sublist _ _), fun k C hk => s.mem.each k C ((List.eraseIdx_sublist _ _).subset hk)⟩ }⟩
    intro t' S' ht'
    simp only [look] at ht'
    cases hb : Nat.beq t t' with
    | false => rw [hb] at ht'; exact s.slots t' S' ht'
    | true =>
      rw [hb] at ht'
      obtain rfl : SlK k fk ys = S' := by simpa using ht'
      obtain rfl := Nat.eq_of_beq_eq_true hb
      rw [e1, List.eq_nil_of_length_eq_zero hyl]
      exact nilK
  · have hM' : M[i]? = some (some b, cellM ((ys ++ g.sp).flatMap fk)) := by rw [hM]; unfold grMK; rw [hob]
    have s2 : Sat E ((t, isWin b 0 ys.length g.c) :: Γ) M a w F := s.wider (fun t' S' ht' => by
      simp only [look] at ht'
      cases hb : Nat.beq t t' with
      | false => rw [hb] at ht'; exact s.slots t' S' ht'
      | true =>
        rw [hb] at ht'
        obtain rfl : isWin b 0 ys.length g.c = S' := by simpa using ht'
        obtain rfl := Nat.eq_of_beq_eq_true hb
        exact ⟨e1, by omega, hcm0⟩)
    obtain ⟨F', s3⟩ := Cv.freezeK (Γ := (t, isWin b 0 ys.length g.c) :: Γ) (t := t) (b := b) (n := ys.length) (c := g.c) hk hW (by simp [look, nbeq_self]) hM' (by simp) (List.take_left' rfl) a w F s2
    refine ⟨F', s3.wider fun t' S' ht' => ?_⟩
    simp only [look] at ht'
    refine s3.slots t' S' ?_
    simp only [look]
    cases hb : Nat.beq t t' with
    | false => rw [hb] at ht'; simpa using ht'
    | true => rw [hb] at ht'; simpa using ht'
theorem grMK_eq {g : Gr α} {ys ys' : List α} {r : Mem} (h : ys = ys') : (grMK fk g ys :: r : Mem) = grMK fk g ys' :: r := h ▸ rfl
theorem SlK_eq {xs xs' : List α} (h : xs = xs') : SlK k fk xs = SlK k fk xs' := h ▸ rfl
end
end Go.En
namespace Go.En
open Go.RowKit
section
variable {E : Env} {P : Program} {Γ : Ctx} {M : Mem} {ty : TypeId} {pos : String} {after : Array Edge} {gd : Option (Nat × Bool)} {d : Option Tmp}
 {T T' : TypeId} {x y : Operand} {α : Type} {fk : α → List VP} {xs : List α} {k : Nat}
theorem Has.cWK : Has E Γ M (.const (.slice none 0 0)) (SlK k fk ([] : List α)) := fun _ _ _ _ => nilK
theorem ixo2 {n : Nat} : 0 + n * 2 = n * 2 := by omega
theorem Cv.winGr {t b n c i : Nat} (ht : look Γ t = some (isWin b 0 n c)) (hM : M[i]? = some (some b, cellM (xs.flatMap fk))) (hn : n ≤ xs.length) (hc : xs.length = c) :
    Cv E Γ M ((t, isGr (⟨some b, c, xs.drop n⟩ : Gr α) n) :: Γ) (M.set i (grMK fk ⟨some b, c, xs.drop n⟩ (xs.take n))) := fun a w F s => by
  have hset : M.set i (grMK fk ⟨some b, c, xs.drop n⟩ (xs.take n)) = M := by
    refine set_self ?_
    rw [hM]; unfold grMK; simp only [List.take_append_drop]
  rw [hset]
  refine ⟨F, s.wider fun t' S' ht' => ?_⟩
  simp only [look] at ht'
  cases hb : Nat.beq t t' with
  | false => rw [hb] at ht'; exact s.slots t' S' ht'
  | true =>
    rw [hb] at ht'
    obtain rfl : isGr (⟨some b, c, xs.drop n⟩ : Gr α) n = S' := by simpa using ht'
    obtain rfl := Nat.eq_of_beq_eq_true hb
    obtain ⟨e1, e2, e3⟩ := s.slots _ _ ht
    exact .inr ⟨b, rfl, e1, by show n + (xs.drop n).length = c; rw [List.length_drop]; omega, e3⟩
end
abbrev zc (p : Bool × List Nat) : List VP := [isB p.1, isWords p.2]
theorem zc_len : ∀ p, (zc p).length = 2 := fun _ => rfl
abbrev isZs (xs : List (Bool × List Nat)) : VP := SlK 2 zc xs
end Go.En
namespace Go.En
open Go.RowKit
def isFun {ι : Type} (P : Program) (As : ι → List VP) (R : ι → VP) : VP :=
 ⟨fun w F v => ∃ (g : FuncId) (first cap : List Value) (Bs Cs : List VP), v = .func (.func g) first.toArray cap.toArray ∧ (∀ i, Ctr P g (Bs ++ As i ++ Cs) (R i)) ∧ All2 Bs w F first ∧ All2 Cs w F cap,
 fun w w' F F' v h h1 h2 => by
  obtain ⟨g, first, cap, Bs, Cs, e, hC, hB, hc⟩ := h
  exact ⟨g, first, cap, Bs, Cs, e, hC, All2.mono h1 h2 _ _ hB, All2.mono h1 h2 _ _ hc⟩⟩
instance {ι : Type} {P : Program} {As : ι → List VP} {R : ι → VP} : One (isFun P As R) := ⟨fun w F v h => by obtain ⟨g, first, cap, Bs, Cs, e, _⟩ := h; rw [e]; rfl⟩
instance {ι : Type} {P : Program} {As : ι → List VP} {R : ι → VP} : Shape (isFun P As R) [isFun P As R] := .of_one inferInstance
instance {Ss : List VP} : One (PtrL Ss) := ⟨fun w F v h => by obtain ⟨b, off, e, _⟩ := h; rw [e]; rfl⟩
instance {Ss : List VP} : Shape (PtrL Ss) [PtrL Ss] := .of_one inferInstance
section
variable {E : Env} {P : Program} {Γ : Ctx} {M : Mem} {ty : TypeId} {pos : String} {after : Array Edge} {gd : Option (Nat × Bool)} {d : Option Tmp}
 {ops : Array Oper} {Q : Exit → Act → World → Prop} {rest : List Oper} {T T' : TypeId} {x y : Operand} {α ι : Type} {As : ι → List VP} {R : ι → VP}
theorem Has.fn {g : FuncId} (h : ∀ i, Ctr P g (As i) (R i)) : Has E Γ M (.func g) (isFun P As R) :=
 fun a w F s => ⟨g, [], [], [], [], rfl, fun i => by rw [List.nil_append, List.append_nil]; exact h i, trivial, trivial⟩
theorem OK1.makeFn {g : FuncId} {xs ys : List Operand} {Bs Cs : List VP} (h : ∀ i, Ctr P g (Bs ++ As i ++ Cs) (R i)) (hx : HasL E Γ M xs Bs) (hy : HasL E Γ M ys Cs) :
  OK1 E P Γ M ⟨d, .makeFunc (.func g) xs.toArray ys.toArray, ty, pos, after, gd⟩ (isFun P As R) :=
 .run fun a w F s => by
  refine ⟨.func (.func g) (xs.map a.eval).toArray (ys.map a.eval).toArray, ?_, g, _, _, Bs, Cs, rfl, h, hx.all s, hy.all s⟩
  simp [execOp, Instr.makeFunc, go_sem]
theorem OK1.callV {xs : List Operand} {ts : Array TypeId} (i : ι) (hf : Has E Γ M x (isFun P As R)) (hx : HasL E Γ M xs (As i)) :
  OK1 E P Γ M ⟨d, .call ⟨.value x, xs.toArray, ts⟩, ty, pos, after, gd⟩ (R i) := by
 intro a w F s K Q hK
 unfold Oper.wp
 obtain ⟨g, first, cap, Bs, Cs, e, hC, hB, hc⟩ := hf a w F s
 have hr : (execOp a.eval (⟨d, .call ⟨.value x, xs.toArray, ts⟩, ty, pos, after, gd⟩ : Oper)).run P w = .ok (.enter g (first ++ xs.map a.eval ++ cap).toArray) w := by
  have := run_enter (hC i).1 (first ++ xs.map a.eval ++ cap).toArray w
  simp only [execOp, resolve, Sem.run_bind, e, Deferred.ofValue, Sem.run_pure, Result.andThen_ok, invoke]
  simpa [go_sem] using this
 rw [hr]
 refine ((hC i).2 w F _ s.flt ((hB.append (hx.all s)).append hc)).mono ?_
 rintro e w' ⟨v, rfl, hk, hv⟩
 exact hK v w' _ ⟨hk, fun b hb => .inl hb, fun b hb => hb⟩ hv
theorem Cv.freezeBox {t b i : Nat} {Ss : List VP} (hW : E.W = []) (ht : look Γ t = some (isPtr b 0)) (hM : M[i]? = some (some b, cellM Ss)) : Cv E Γ M ((t, PtrL Ss) :: Γ) (M.eraseIdx i) := by
  intro a w F s
  obtain ⟨h1, h2, h3, ob, h4, vs, T', rfl, hv⟩ := s.mem.each b _ (List.mem_of_getElem? hM)
  refine ⟨fun k => F k ∨ k = b, ?_⟩
  have hsub : ∀ k, F k → (F k ∨ k = b) := fun k hk => .inl hk
  have hi : i < M.length := by
    rcases Nat.lt_or_ge i M.length with h | h
    · exact h
    · rw [List.getElem?_eq_none h] at hM; cases hM
  have hMi : M[i] = (some b, cellM Ss) := by rw [List.getElem?_eq_getElem hi] at hM; exact Option.some.inj hM
  have hbW : E.w0.heap.size ≤ b := h1.resolve_right (by rw [hW]; simp)
  have e1 : a.tmps.getD t undef = .pointer (some ⟨b, 0, none⟩) := s.slots t _ ht
  refine { defers := s.defers, size := s.size, keep := s.keep, f0 := fun k hk => .inl (s.f0 k hk), fnew := ?_, flt := ?_, slots := ?_, mem := ⟨s.mem.apart.sublist (List.eraseIdx_sublist _ _), ?_⟩ }
  · rintro k (hk | rfl)
    · exact s.fnew k hk
    · exact .inr ⟨hbW, h2⟩
  · rintro k (hk | rfl)
    · exact s.flt k hk
    · exact h2
  · intro t' S' ht'
    simp only [look] at ht'
    cases hb : Nat.beq t t' with
    | false => rw [hb] at ht'; exact S'.mono _ _ _ _ _ (s.slots t' S' ht') (fun _ _ => rfl) hsub
    | true =>
      rw [hb] at ht'
      obtain rfl : PtrL Ss = S' := by simpa using ht'
      obtain rfl := Nat.eq_of_beq_eq_true hb
      refine ⟨b, 0, e1, .inr rfl, vs, All2.mono (fun _ _ => rfl) hsub _ _ hv, fun j u hj => ?_⟩
      simp [World.cell?, h4, hj]
  · intro k C hk
    obtain ⟨j, hji, hj⟩ := List.mem_eraseIdx_iff_getElem?.1 hk
    obtain ⟨g1, g2, g3, o2, g4, g5⟩ := s.mem.each k C (List.mem_of_getElem? hj)
    have hkb : k ≠ b := by
      intro e; subst e
      have hjl : j < M.length := by
        rcases Nat.lt_or_ge j M.length with h | h
        · exact h
        · rw [List.getElem?_eq_none h] at hj; cases hj
      have hMj : M[j] = (some k, C) := by rw [List.getElem?_eq_getElem hjl] at hj; exact Option.some.inj hj
      rcases Nat.lt_or_gt_of_ne hji with hlt | hlt
      · have hp := List.pairwise_iff_getElem.1 s.mem.apart j i hjl hi hlt
        rw [hMi, hMj] at hp; simp at hp
      · have hp := List.pairwise_iff_getElem.1 s.mem.apart i j hi hjl hlt
        rw [hMi, hMj] at hp; simp at hp
    exact ⟨g1, g2, fun h => h.elim g3 hkb, o2, g4, C.mono _ _ _ _ _ g5 (fun _ _ => rfl) hsub⟩
end
end Go.En
namespace Go.En
open Go.RowKit
section
variable {E : Env} {P : Program} {Γ : Ctx} {M : Mem} {ty : TypeId} {pos : String} {after : Array Edge} {gd : Option (Nat × Bool)} {d : Option Tmp}
 {ops : Array Oper} {Q : Exit → Act → World → Prop} {rest : List Oper} {T T' : TypeId} {x y : Operand} {α : Type} {f : α → VP} {fk : α → List VP} {xs : List α} {k : Nat}
theorem Sat.freezeB {a : Act} {w : World} {F : Blk} {i b : Nat} {Ss : List VP} (s : Sat E Γ M a w F) (hW : E.W = []) (hM : M[i]? = some (some b, cellM Ss)) :
  Sat E Γ (M.eraseIdx i) a w (fun k => F k ∨ k = b) ∧ ∃ vs T', w.heap[b]? = some (.cells (List.toArray vs) T' (0, 0)) ∧ All2 Ss w (fun k => F k ∨ k = b) vs := by
 obtain ⟨h1, h2, h3, ob, h4, vs, T', rfl, hv⟩ := s.mem.each b _ (List.mem_of_getElem? hM)
 have hsub : ∀ k, F k → (F k ∨ k = b) := fun k hk => .inl hk
 have hi : i < M.length := by
  rcases Nat.lt_or_ge i M.length with h | h
  ·exact h
  ·rw [List.getElem?_eq_none h] at hM; cases hM
 have hMi : M[i] = (some b, cellM Ss) := by rw [List.getElem?_eq_getElem hi] at hM; exact Option.some.inj hM
 have hbW : E.w0.heap.size ≤ b := h1.resolve_right (by rw [hW]; simp)
 refine ⟨?_, vs, T', h4, All2.mono (fun _ _ => rfl) hsub _ _ hv⟩
 refine { defers := s.defers, size := s.size, keep := s.keep, f0 := fun k hk => .inl (s.f0 k hk), fnew := ?_, flt := ?_, slots := fun t S ht => S.mono _ _ _ _ _ (s.slots t S ht) (fun _ _ => rfl) hsub, mem := ⟨s.mem.apart.sublist (List.eraseIdx_sublist _ _), ?_⟩ }
 ·rintro k (hk | rfl)
  ·exact s.fnew k hk
  ·exact .inr ⟨hbW, h2⟩
 ·rintro k (hk | rfl)
  ·exact s.flt k hk
  ·exact h2
 ·intro k C hk
  obtain ⟨j, hji, hj⟩ := List.mem_eraseIdx_iff_getElem?.1 hk
  obtain ⟨g1, g2, g3, o2, g4, g5⟩ := s.mem.each k C (List.mem_of_getElem? hj)
  have hkb : k ≠ b := by
   intro e; subst e
   have hjl : j < M.length := by
    rcases Nat.lt_or_ge j M.length with h | h
    ·exact h
    ·rw [List.getElem?_eq_none h] at hj; cases hj
   have hMj : M[j] = (some k, C) := by rw [List.getElem?_eq_getElem hjl] at hj; exact Option.some.inj hj
   rcases Nat.lt_or_gt_of_ne hji with hlt | hlt
   ·have hp := List.pairwise_iff_getElem.1 s.mem.apart j i hjl hi hlt
    rw [hMi, hMj] at hp; simp at hp
   ·have hp := List.pairwise_iff_getElem.1 s.mem.apart i j hi hjl hlt
    rw [hMi, hMj] at hp; simp at hp
  exact ⟨g1, g2, fun h => h.elim g3 hkb, o2, g4, C.mono _ _ _ _ _ g5 (fun _ _ => rfl) hsub⟩
theorem Sat.drop1 {a : Act} {w : World} {F : Blk} {i : Nat} (s : Sat E Γ M a w F) : Sat E Γ (M.eraseIdx i) a w F :=
 {s with mem := ⟨s.mem.apart.sublist (List.eraseIdx_sublist _ _), fun k C hk => s.mem.each k C ((List.eraseIdx_sublist _ _).subset hk)⟩ }
theorem Sat.freezeGr {a : Act} {w : World} {F : Blk} {i n : Nat} {g : Gr α} {Ts Us : List VP} (s : Sat E Γ M a w F) (hW : E.W = []) (hM : M[i]? = some (g.ob, cellM Ts)) (hl : n * k ≤ Ts.length) (he : Ts.take (n * k) = Us) :
    ∃ F', (∀ b, F b → F' b) ∧ Sat E Γ (M.eraseIdx i) a w F' ∧ ∀ v, (isGr g n).h w F v → (SlL k n Us).h w F' v := by
  cases hob : g.ob with
  | none =>
    refine ⟨F, fun _ h => h, s.drop1, ?_⟩
    rintro v (⟨_, rfl, rfl⟩ | ⟨b, hb, _⟩)
    · subst he; exact ⟨none, 0, rfl, Nat.le_refl _, by rw [maxLen_eq]; omega, by simp, .inl rfl⟩
    · rw [hob] at hb; cases hb
  | some b =>
    rw [hob] at hM
    obtain ⟨s', vs, T', hb, hv⟩ := s.freezeB hW hM
    refine ⟨_, fun _ h => .inl h, s', ?_⟩
    rintro v (⟨h0, _⟩ | ⟨b', hb', rfl, h1, h2⟩)
    · rw [hob] at h0; cases h0
    · obtain rfl : b = b' := by rw [hob] at hb'; exact Option.some.inj hb'
      have hvl := hv.len
      refine ⟨_, _, rfl, by omega, h2, by rw [← he, List.length_take]; omega, .inr ⟨b, 0, rfl, .inr rfl, vs.take (n * k), by rw [← he]; exact hv.take _, fun j u hj => ?_⟩⟩
      have hjn : j < n * k := by
        rcases Nat.lt_or_ge j (n * k) with h | h
        · exact h
        · rw [List.getElem?_take_eq_none h] at hj; cases hj
      rw [List.getElem?_take_of_lt hjn] at hj
      simp [World.cell?, hb, hj]
theorem Sat.memSet {a : Act} {w : World} {F : Blk} {i b : Nat} {C C' : MP} (s : Sat E Γ M a w F) (hM : M[i]? = some (some b, C)) (h : ∀ o, C.h w F o → C'.h w F o) : Sat E Γ (M.set i (some b, C')) a w F := by
 obtain ⟨h1, h2, h3, o, ho, hC⟩ := s.mem.each b C (List.mem_of_getElem? hM)
 exact s.write hM rfl rfl rfl rfl (fun _ _ => rfl) ho (h o hC)
theorem All2.setAt : ∀ {Ss : List VP} {w : World} {F : Blk} {vs : List Value} (o : Nat) {S S' : VP}, All2 Ss w F vs → Ss[o]? = some S → (∀ v, S.h w F v → S'.h w F v) → All2 (Ss.set o S') w F vs
  | [], _, _, _, o, _, _, _, h, _ => by simp at h
  | S0 :: Ss, _, _, v :: vs, 0, S, S', h, e, k => by
    obtain rfl : S0 = S := by simpa using e
    exact ⟨k v h.1, h.2⟩
  | S0 :: Ss, _, _, v :: vs, o + 1, S, S', h, e, k => ⟨h.1, All2.setAt o h.2 (by simpa using e) k⟩
  | _ :: _, _, _, [], _, _, _, h, _, _ => h.elim
theorem Cv.growF {i b o : Nat} {Ss Ts : List VP} (α : Type) (hM : M[i]? = some (some b, cellM Ss)) (ho : Ss[o]? = some nilS) (hT : Ss.set o (isGr (Gr.nil : Gr α) 0) = Ts) : Cv E Γ M Γ ((none, cellM []) :: M.set i (some b, cellM Ts)) := fun a w F s => by
 have s1 : Sat E Γ (M.set i (some b, cellM Ts)) a w F := s.memSet hM fun ob ⟨vs, ty, e, h⟩ => ⟨vs, ty, e, by
  rw [← hT]
  exact h.setAt o ho (fun v hv => by rw [show v = .slice none 0 0 from hv]; exact gr0)⟩
 exact ⟨F, { s1 with mem := ⟨List.Pairwise.cons (fun x hx => .inl rfl) s1.mem.apart, fun b C hb => by
  rcases List.mem_cons.1 hb with e | hb
  ·cases e
  ·exact s1.mem.each b C hb⟩ }⟩
theorem Cv.freezeF {i j b o n : Nat} {g : Gr α} {Ss Ss' Ts Us : List VP} (hW : E.W = []) (hM : M[i]? = some (g.ob, cellM Ts)) (hM2 : (M.eraseIdx i)[j]? = some (some b, cellM Ss)) (ho : Ss[o]? = some (isGr g n)) (hl : n * k ≤ Ts.length) (he : Ts.take (n * k) = Us)
    (hT : Ss.set o (SlL k n Us) = Ss') : Cv E Γ M Γ ((M.eraseIdx i).set j (some b, cellM Ss')) := fun a w F s => by
  obtain ⟨F', hsub, s', hv⟩ := s.freezeGr hW hM hl he
  refine ⟨F', ?_⟩
  -- the field's cell as it was known before
  obtain ⟨_, _, _, ob, hob, vs, ty, e, hvs⟩ := s.drop1 (i := i) |>.mem.each b _ (List.mem_of_getElem? hM2)
  obtain ⟨_, _, _, ob2, hob2, vs2, ty2, e2, hvs2⟩ := s'.mem.each b _ (List.mem_of_getElem? hM2)
  have hsame : ∀ o', w.heap[b]? = some o' → o' = ob := fun o' h => by rw [hob] at h; exact (Option.some.inj h).symm
  refine s'.write hM2 rfl rfl rfl rfl (fun _ _ => rfl) hob ⟨vs, ty, e, ?_⟩
  rw [← hT]
  obtain ⟨v, hv1, hv2⟩ := hvs.get o _ ho
  have h3 : All2 Ss w F' vs := All2.mono (fun _ _ => rfl) hsub _ _ hvs
  -- place by place
  have key : ∀ {Ss : List VP} {vs : List Value} (o : Nat), All2 Ss w F' vs → vs[o]? = some v → All2 (Ss.set o (SlL k n Us)) w F' vs := by
    intro Ss
    induction Ss with
    | nil => intro vs o h _; simpa using h
    | cons S0 Ss ih =>
      intro vs o h e
      cases vs with
      | nil => exact h.elim
      | cons u us =>
        cases o with
        | zero =>
          obtain rfl : u = v := by simpa using e
          exact ⟨hv u hv2, h.2⟩
        | succ o => exact ⟨h.1, ih o h.2 (by simpa using e)⟩
  exact key o h3 hv1
theorem gr_takeM {g : Gr α} {ys : List α} : (((ys ++ g.sp).map f).take (ys.length * 1)) = ys.map f := by rw [Nat.mul_one, List.map_append, List.take_left' (by simp)]
theorem gr_lenM {g : Gr α} {ys : List α} : ys.length * 1 ≤ ((ys ++ g.sp).map f).length := by simp
theorem gr_takeK {g : Gr α} {ys : List α} (hk : ∀ y, (fk y).length = k) : (((ys ++ g.sp).flatMap fk).take (ys.length * k)) = ys.flatMap fk := by rw [flat_take hk, List.take_left' rfl]
theorem gr_lenK {g : Gr α} {ys : List α} (hk : ∀ y, (fk y).length = k) : ys.length * k ≤ ((ys ++ g.sp).flatMap fk).length := by rw [flat_len hk, List.length_append]; exact Nat.mul_le_mul_right k (by omega)
end
end Go.En
namespace Go.En
open Go.RowKit
section
variable {E : Env} {P : Program} {Γ : Ctx} {M : Mem} {ty : TypeId} {pos : String} {after : Array Edge} {gd : Option (Nat × Bool)} {d : Option Tmp}
 {ops : Array Oper} {Q : Exit → Act → World → Prop} {rest : List Oper} {T T' : TypeId} {x y : Operand} {α : Type} {f : α → VP} {fk : α → List VP} {xs : List α} {k : Nat}
theorem append_none {w : World} {e : TypeId} {inf : TypeInfo} {base b2 : Option Addr} {n c c2 : Nat} (hu : P.underlying T = some (.slice e)) (hi : P.info? e = some inf) (hn : n ≤ c) :
  (Builtin.append_ #[T, T] ty #[.slice base n c, .slice b2 0 c2]).run P w = .ok (.slice base n c) w := by
 cases base <;> cases b2 <;> simp [Builtin.append_, run_underlying hu, sizeOf, typeInfo, hi, Builtin.lenOf, Builtin.firstCells, loadCells, loadCellsFrom, storeCells, hn]
theorem Ops.appendGK0 {d i : Nat} {e : TypeId} {g0 : Bool} {z : Value} {u : α} {g : Gr α} {ys zs : List α} (hk : ∀ y, (fk y).length = k) (hk0 : 0 < k) (h1 : ∀ u, Ones (fk u)) (hT : slB P T = some e) (ht : tyB P e = some (k, g0)) (hz : zeroB P e = some z) (hZ : ∀ w F, All2 (fk u) w F z.cells.toList) (hby : byLe P e 1024 = true)
  (hx : Has E Γ M x (isGr g ys.length)) (hM : M[i]? = some (grMK fk g ys)) (hy : Has E Γ M y (SlK k fk zs)) (hn' : ys.length + zs.length ≤ 4294967296) (hd : Nat.blt d E.n = true)
  (kk : ∀ g' : Gr α, Ops E P ops Q rest ((d, isGr g' (ys.length + zs.length)) :: Γ) (M.set i (grMK fk g' (ys ++ zs)))) :
  Ops E P ops Q (⟨some d, .call ⟨.builtin .append, #[x, y], #[T, T]⟩, ty, pos, after, none⟩ :: rest) Γ M := by
 rcases Nat.eq_zero_or_pos zs.length with h0 | h0
 ·obtain rfl : zs = [] := List.eq_nil_of_length_eq_zero h0
  intro a w F s
  refine wpList_plain rfl fun K hK => ?_
  have hd' : d < E.n := by simpa [Nat.blt_eq] using hd
  obtain ⟨a1, cap, e2, g1, g2, g3, g4⟩ := hy a w F s
  have hu := slB_under hT
  obtain ⟨inf, hi⟩ : ∃ i, P.info? e = some i := by
   unfold byLe at hby
   cases hi : P.info? e with
   | none => simp [hi] at hby
   | some i => exact ⟨i, rfl⟩
  have hset : M.set i (grMK fk g (ys ++ [])) = M := set_self (by rw [hM, List.append_nil])
  have kk1 := kk g
  rw [hset] at kk1
  have hval := hx a w F s
  obtain ⟨base, c, e1, hnc⟩ : ∃ base c, a.eval x = .slice base ys.length c ∧ ys.length ≤ c := by
   rcases hval with ⟨_, hyl, e1⟩ | ⟨b, _, e1, h, _⟩
   ·exact ⟨none, 0, by rw [e1, hyl], by omega⟩
   ·exact ⟨_, _, e1, by omega⟩
  have hr := append_none (P := P) (T := T) (ty := ty) (w := w) (base := base) (b2 := a1) (n := ys.length) (c := c) (c2 := cap) hu hi hnc
  unfold Oper.wp
  have hr2 : (execOp a.eval (⟨some d, .call ⟨.builtin .append, #[x, y], #[T, T]⟩, ty, pos, after, none⟩ : Oper)).run P w = .ok (.value (.slice base ys.length c)) w := by
   simp only [execOp, resolve, invoke, builtin, Sem.run_bind]
   simp [e1, e2, Sem.run_bind, hr]
  rw [hr2]
  refine hK _ _ (kk1 _ _ F (s.put hd' ?_))
  rw [← e1]; exact hval
 ·exact Ops.appendGK hk hk0 h1 hT ht hz hZ hby hx hM hy hn' h0 hd kk
theorem Cv.winGrK {t b n c i : Nat} {ys : List α} (ht : look Γ t = some (isWin b 0 n c)) (hM : M[i]? = some (some b, cellM (xs.flatMap fk))) (hn : n ≤ xs.length) (hc : xs.length = c) (hy : xs.take n = ys) :
  Cv E Γ M ((t, isGr (⟨some b, c, xs.drop n⟩ : Gr α) ys.length) :: Γ) (M.set i (grMK fk ⟨some b, c, xs.drop n⟩ ys)) := by
 have e : ys.length = n := by rw [← hy, List.length_take]; omega
 rw [e, ← hy]
 exact Cv.winGr ht hM hn hc
theorem Cv.winGrM {t b n c i : Nat} {ys : List α} (ht : look Γ t = some (isWin b 0 n c)) (hM : M[i]? = some (some b, cellM (xs.map f))) (hn : n ≤ xs.length) (hc : xs.length = c) (hy : xs.take n = ys) :
    Cv E Γ M ((t, isGr (⟨some b, c, xs.drop n⟩ : Gr α) ys.length) :: Γ) (M.set i (grM f ⟨some b, c, xs.drop n⟩ ys)) := fun a w F s => by
  subst hy
  have e : (xs.take n).length = n := by rw [List.length_take]; omega
  rw [e]
  have hset : M.set i (grM f ⟨some b, c, xs.drop n⟩ (xs.take n)) = M := by
    refine set_self ?_
    rw [hM]; unfold grM; simp only [List.take_append_drop]
  rw [hset]
  refine ⟨F, s.wider fun t' S' ht' => ?_⟩
  simp only [look] at ht'
  cases hb : Nat.beq t t' with
  | false => rw [hb] at ht'; exact s.slots t' S' ht'
  | true =>
    rw [hb] at ht'
    obtain rfl : isGr (⟨some b, c, xs.drop n⟩ : Gr α) n = S' := by simpa using ht'
    obtain rfl := Nat.eq_of_beq_eq_true hb
    obtain ⟨e1, e2, e3⟩ := s.slots _ _ ht
    exact .inr ⟨b, rfl, e1, by show n + (xs.drop n).length = c; rw [List.length_drop]; omega, e3⟩
theorem Cv.freezeGn {t i n : Nat} {g : Gr α} {ys : List α} (hW : E.W = []) (ht : look Γ t = some (isGr g n)) (hM : M[i]? = some (grM f g ys)) (hn : n = ys.length) : Cv E Γ M ((t, SlM f ys) :: Γ) (M.eraseIdx i) := by
 subst hn; exact Cv.freezeG hW ht hM
end
end Go.En
namespace Go.Nt
abbrev D : Nat := 65536
def dval : List Nat → Nat
 | [] => 0
 | x :: xs => x + D * dval xs
end Go.Nt
namespace Go.Nt
def zv (n : Bool) (xs : List Nat) : Int := if n = true then -(val xs : Int) else (val xs : Int)
theorem zv_nf (z : Int) : zv (decide (z < 0)) (words z.natAbs) = z := by
 unfold zv
 rw [val_words]
 by_cases h : z < 0
 ·rw [decide_eq_true h, if_pos rfl]; omega
 ·rw [decide_eq_false h, if_neg (by decide)]; omega
theorem zv_abs (n : Bool) (xs : List Nat) : (zv n xs).natAbs = val xs := by unfold zv; split <;> omega
theorem zv_neg (n : Bool) (xs : List Nat) : decide (zv n xs < 0) = (n && decide (val xs ≠ 0)) := by
 unfold zv
 cases n
 ·rw [if_neg (by decide), Bool.false_and]; exact decide_eq_false (by omega)
 ·rw [if_pos rfl, Bool.true_and]; exact decide_eq_decide.2 (by omega)
theorem zv_nw (n : Bool) (xs : List Nat) : (List.length (words (zv n xs).natAbs)) = (List.length (words (val xs))) := by rw [zv_abs]
theorem zv_false (xs : List Nat) : zv false xs = (val xs : Int) := by unfold zv; rw [if_neg (by decide)]
theorem zv_not (n : Bool) (xs : List Nat) : zv (!n) xs = - zv n xs := by
 unfold zv; cases n <;> simp
def sgn (z : Int) : Int := if z = 0 then 0 else if z < 0 then -1 else 1
def cmpZ (x y : Int) : Int := if x < y then -1 else if y < x then 1 else 0
theorem zv_add_same {m n : Bool} (h : m = n) (xs ys : List Nat) : zv m xs + zv n ys = zv m (words (val xs + val ys)) := by
 subst h; unfold zv; rw [val_words]; cases m <;> simp <;> omega
theorem zv_add_sub {m n : Bool} (h : m ≠ n) {xs ys : List Nat} (hle : val ys ≤ val xs) : zv m xs + zv n ys = zv m (words (val xs - val ys)) := by
 unfold zv; rw [val_words]; cases m <;> cases n <;> simp at h ⊢ <;> omega
theorem zv_mul (m n : Bool) (xs ys : List Nat) : zv m xs * zv n ys = zv (!(m == n)) (words (val xs * val ys)) := by
 unfold zv; rw [val_words]; cases m <;> cases n <;> simp [Int.neg_mul, Int.mul_neg]
theorem zv_tdiv (m n : Bool) (xs ys : List Nat) : (zv m xs).tdiv (zv n ys) = zv (!(m == n)) (words (val xs / val ys)) := by
 have h : ((val xs : Int)).tdiv (val ys : Int) = ((val xs / val ys : Nat) : Int) := Int.ofNat_tdiv _ _ ▸ rfl
 unfold zv; rw [val_words]; cases m <;> cases n <;> simp [Int.neg_tdiv, Int.tdiv_neg, h]
theorem zv_tmod (m n : Bool) (xs ys : List Nat) : (zv m xs).tmod (zv n ys) = zv m (words (val xs % val ys)) := by
 have h : ((val xs : Int)).tmod (val ys : Int) = ((val xs % val ys : Nat) : Int) := Int.ofNat_tmod _ _ ▸ rfl
 unfold zv; rw [val_words]; cases m <;> cases n <;> simp [Int.neg_tmod, Int.tmod_neg, h]
end Go.Nt
namespace Go.Nt
theorem nw_add_le (a b : Nat) : (List.length (words (a + b))) ≤ max ((List.length (words a))) ((List.length (words b))) + 1 := nw_le (add_lt (lt_pow_of (Nat.le_max_left _ _)) (lt_pow_of (Nat.le_max_right _ _)))
theorem nw_mul_le (a b : Nat) : (List.length (words (a * b))) ≤ (List.length (words a)) + (List.length (words b)) := nw_le (by rw [Nat.pow_add]; exact Nat.mul_lt_mul_of_lt_of_lt (nw_lt a) (nw_lt b))
theorem nz_add (x y : Int) : (List.length (words (x + y).natAbs)) ≤ max ((List.length (words x.natAbs))) ((List.length (words y.natAbs))) + 1 := Nat.le_trans (nw_mono (Int.natAbs_add_le x y)) (nw_add_le _ _)
theorem nz_sub (x y : Int) : (List.length (words (x - y).natAbs)) ≤ max ((List.length (words x.natAbs))) ((List.length (words y.natAbs))) + 1 := by
 have := nz_add x (-y); rwa [Int.natAbs_neg, ← Int.sub_eq_add_neg] at this
theorem nz_mul (x y : Int) : (List.length (words (x * y).natAbs)) ≤ (List.length (words x.natAbs)) + (List.length (words y.natAbs)) := by rw [Int.natAbs_mul]; exact nw_mul_le _ _
theorem nz_tdiv (x y : Int) : (List.length (words (x.tdiv y).natAbs)) ≤ (List.length (words x.natAbs)) := by rw [Int.natAbs_tdiv]; exact nw_mono (Nat.div_le_self _ _)
theorem nz_tmod (x y : Int) : (List.length (words (x.tmod y).natAbs)) ≤ (List.length (words x.natAbs)) := by rw [Int.natAbs_tmod]; exact nw_mono (Nat.mod_le _ _)
theorem nw_one : (List.length (words 1)) = 1 := by rw [words_small (by decide)]; rfl
theorem nw_small' {n : Nat} (h : n < 18446744073709551616) : (List.length (words n)) ≤ 1 := nw_le (by simpa using h)
/-! ### rests from 0 on -/
theorem tmod_cases (a b : Int) : (0 ≤ a.tmod b → a.tdiv b = a / b ∧ a.tmod b = a % b) ∧
  (a.tmod b < 0 → (0 < b → a.tdiv b - 1 = a / b ∧ a.tmod b + b = a % b) ∧ (b < 0 → a.tdiv b + 1 = a / b ∧ a.tmod b - b = a % b)) := by
 rcases Int.lt_trichotomy b 0 with hb | hb | hb
 ·have h1 := Int.emod_nonneg a (show b ≠ 0 by omega)
  have h3 := Int.emod_lt_of_pos a (show 0 < -b by omega)
  rw [Int.emod_neg] at h3
  have h4 := Int.tmod_eq_emod (a := a) (b := b)
  have h5 := Int.tdiv_eq_ediv (a := a) (b := b)
  have h6 := Int.sign_eq_neg_one_of_neg hb
  split at h4
  ·rename_i h; rw [if_pos h] at h5; refine ⟨fun _ => ⟨by omega, by omega⟩, fun h7 => ⟨fun h8 => by omega, fun _ => by omega⟩⟩
  ·rename_i h; rw [if_neg h, h6] at h5
   refine ⟨fun h7 => ?_, fun h7 => ⟨fun h8 => by omega, fun _ => by omega⟩⟩
   omega
 ·subst hb; simp
 ·have h1 := Int.emod_nonneg a (show b ≠ 0 by omega)
  have h3 := Int.emod_lt_of_pos a hb
  have h4 := Int.tmod_eq_emod (a := a) (b := b)
  have h5 := Int.tdiv_eq_ediv (a := a) (b := b)
  have h6 := Int.sign_eq_one_of_pos hb
  split at h4
  ·rename_i h; rw [if_pos h] at h5; refine ⟨fun _ => ⟨by omega, by omega⟩, fun h7 => ⟨fun h8 => by omega, fun _ => by omega⟩⟩
  ·rename_i h; rw [if_neg h, h6] at h5
   refine ⟨fun h7 => ?_, fun h7 => ⟨fun h8 => by omega, fun _ => by omega⟩⟩
   omega
/-! ### the greatest common divisor -/
def cof (a b x next : Int) : Int × Int := if h : b = 0 then (if a < 0 then (-a, -x) else (a, x)) else cof b (a.tmod b) next (x - a.tdiv b * next)
termination_by b.natAbs
decreasing_by
 rw [Int.natAbs_tmod]; exact Nat.mod_lt _ (by omega)
theorem cof_zero (a x next : Int) : cof a 0 x next = if a < 0 then (-a, -x) else (a, x) := by rw [cof, dif_pos rfl]
theorem cof_step {b : Int} (h : b ≠ 0) (a x next : Int) : cof a b x next = cof b (a.tmod b) next (x - a.tdiv b * next) := by rw [cof, dif_neg h]
structure Cf (A B a b x next : Int) (X Y : Nat) : Prop where
 g : Nat.gcd a.natAbs b.natAbs = Nat.gcd A.natAbs B.natAbs
 d1 : B ∣ a - x * A
 d2 : B ∣ b - next * A
 x : x.natAbs ≤ X
 y : next.natAbs ≤ Y
 s : Y * a.natAbs + X * b.natAbs = B.natAbs
 X1 : X ≤ max 1 B.natAbs
 Y1 : Y ≤ B.natAbs
 a1 : a.natAbs ≤ max A.natAbs B.natAbs
 b1 : b.natAbs ≤ B.natAbs
theorem Cf.start (A B : Int) : Cf A B A B 1 0 1 0 := by
 refine ⟨rfl, ?_, ?_, by decide, by decide, by omega, Nat.le_max_left _ _, Nat.zero_le _, Nat.le_max_left _ _, Nat.le_refl _⟩
 ·rw [Int.one_mul, Int.sub_self]; exact Int.dvd_zero _
 ·rw [Int.zero_mul, Int.sub_zero]; exact Int.dvd_refl _
theorem Cf.step {A B a b x next : Int} {X Y : Nat} (c : Cf A B a b x next X Y) (h : b ≠ 0) : Cf A B b (a.tmod b) next (x - a.tdiv b * next) Y (X + (a.tdiv b).natAbs * Y) := by
 have e1 := Int.tmod_add_mul_tdiv a b
 have e2 : a.natAbs = (a.tdiv b).natAbs * b.natAbs + (a.tmod b).natAbs := by
  rw [Int.natAbs_tdiv, Int.natAbs_tmod, Nat.mul_comm]; exact (Nat.div_add_mod _ _).symm
 have hb : 0 < b.natAbs := by omega
 have hs : (X + (a.tdiv b).natAbs * Y) * b.natAbs + Y * (a.tmod b).natAbs = B.natAbs := by
  rw [← c.s, e2, Nat.add_mul, Nat.mul_add, Nat.mul_right_comm, Nat.mul_comm Y ((a.tdiv b).natAbs * b.natAbs)]
  omega
 refine ⟨?_, c.d2, ?_, c.y, ?_, hs, Nat.le_trans c.Y1 (Nat.le_max_right _ _), ?_, Nat.le_trans c.b1 (Nat.le_max_right _ _), ?_⟩
 ·rw [← c.g, Int.natAbs_tmod, Nat.gcd_comm a.natAbs, Nat.gcd_rec b.natAbs a.natAbs, Nat.gcd_comm]
 ·have e3 : a.tmod b - (x - a.tdiv b * next) * A = (a - x * A) - a.tdiv b * (b - next * A) := by
   rw [Int.sub_mul, Int.mul_sub, Int.mul_assoc, Int.mul_comm (a.tdiv b) b]; omega
  rw [e3]; exact Int.dvd_sub c.d1 (Int.dvd_mul_of_dvd_right c.d2)
 ·refine Nat.le_trans (Int.natAbs_sub_le _ _) ?_
  rw [Int.natAbs_mul]
  exact Nat.add_le_add c.x (Nat.mul_le_mul_left _ c.y)
 ·have h1 := Nat.le_mul_of_pos_right (X + (a.tdiv b).natAbs * Y) hb
  omega
 ·rw [Int.natAbs_tmod]; exact Nat.le_trans (Nat.le_of_lt (Nat.mod_lt _ hb)) c.b1
theorem Cf.fin {A B a x next : Int} {X Y : Nat} (c : Cf A B a 0 x next X Y) : (cof a 0 x next).1 = (Nat.gcd A.natAbs B.natAbs : Nat) ∧ B ∣ (cof a 0 x next).1 - (cof a 0 x next).2 * A ∧ (cof a 0 x next).2.natAbs ≤ max 1 B.natAbs := by
 have hg := c.g
 rw [Int.natAbs_zero, Nat.gcd_zero_right] at hg
 have hx := Nat.le_trans c.x c.X1
 rw [cof_zero]
 by_cases h : a < 0
 ·rw [if_pos h]
  refine ⟨by show -a = _; omega, ?_, by show (-x).natAbs ≤ _; rw [Int.natAbs_neg]; exact hx⟩
  show B ∣ -a - -x * A
  have : -a - -x * A = -(a - x * A) := by rw [Int.neg_mul]; omega
  rw [this]; exact Int.dvd_neg.2 c.d1
 ·rw [if_neg h]
  exact ⟨by show a = _; omega, c.d1, hx⟩
theorem cof_all (A B : Int) : (cof A B 1 0).1 = (Nat.gcd A.natAbs B.natAbs : Nat) ∧ B ∣ (cof A B 1 0).1 - (cof A B 1 0).2 * A ∧ (cof A B 1 0).2.natAbs ≤ max 1 B.natAbs := by
  have key : ∀ (n : Nat) (a b x next : Int) (X Y : Nat), b.natAbs = n → Cf A B a b x next X Y → (cof a b x next).1 = (Nat.gcd A.natAbs B.natAbs : Nat) ∧ B ∣ (cof a b x next).1 - (cof a b x next).2 * A ∧ (cof a b x next).2.natAbs ≤ max 1 B.natAbs := by
    intro n
    induction n using Nat.strongRecOn with
    | _ n ih =>
      intro a b x next X Y hn c
      by_cases h : b = 0
      · subst h; exact c.fin
      · rw [cof_step h]
        refine ih (a.tmod b).natAbs ?_ _ _ _ _ _ _ rfl (c.step h)
        rw [Int.natAbs_tmod, ← hn]; exact Nat.mod_lt _ (by omega)
  exact key _ _ _ _ _ _ _ rfl (Cf.start A B)
end Go.Nt
namespace Go.Proofs.YthkdmhaafanjlaaGreat
open Go.En Go.RowKit
set_option maxRecDepth 10000
set_option maxHeartbeats 4000000
open Go.Nt
def upW (n : Nat) (xs : List Nat) : List Nat := if xs.length = 0 then [] else List.replicate n 0 ++ xs
theorem upW_nil {n : Nat} {xs : List Nat} (h : xs.length = 0) : [] = upW n xs := by unfold upW; rw [if_pos h]
theorem upW_app {n : Nat} {xs : List Nat} (h : xs.length ≠ 0) : List.replicate n 0 ++ xs = upW n xs := by unfold upW; rw [if_neg h]
theorem upW_val (n : Nat) (xs : List Nat) : val (upW n xs) = W ^ n * val xs := by
 unfold upW
 split
 ·rename_i h; rw [List.eq_nil_of_length_eq_zero h]; rfl
 ·rw [val_append, val_replicate, List.length_replicate, Nat.zero_add]
theorem upW_nw {n : Nat} {xs : List Nat} (h : Ok xs) : (List.length (words (val (upW n xs)))) ≤ n + xs.length := by
 rw [upW_val]
 refine nw_le ?_
 rw [Nat.pow_add]
 exact Nat.mul_lt_mul_of_pos_left (val_lt h) (pow_pos' n)
theorem ok_take {xs : List Nat} (h : Ok xs) (n : Nat) : Ok (xs.take n) := fun x hx => h x (List.mem_of_mem_take hx)
theorem ok_drop {xs : List Nat} (h : Ok xs) (n : Nat) : Ok (xs.drop n) := fun x hx => h x (List.mem_of_mem_drop hx)
theorem lowW_nw (a n : Nat) : (List.length (words (val ((words a).take n)))) ≤ min n ((List.length (words a))) := by
 have := nw_val (ok_take (words_ok a) n)
 rwa [List.length_take] at this
theorem highW_nw (a n : Nat) : (List.length (words (val ((words a).drop n)))) ≤ (List.length (words a)) - n := by
 have := nw_val (ok_drop (words_ok a) n)
 rwa [List.length_drop] at this
theorem halves (a n : Nat) : val ((words a).take n) + W ^ n * val ((words a).drop n) = a := by
 rcases Nat.lt_or_ge n (words a).length with h | h
 ·have e := val_append ((words a).take n) ((words a).drop n)
  rw [List.take_append_drop, val_words, List.length_take, Nat.min_eq_left (Nat.le_of_lt h)] at e
  exact e.symm
 ·rw [List.take_of_length_le h, List.drop_eq_nil_of_le h, val_words]; exact Nat.add_zero _
theorem kara (p q r s n : Nat) : p * r + W ^ n * ((p + q) * (r + s) - p * r - q * s) + W ^ (2 * n) * (q * s) = (p + W ^ n * q) * (r + W ^ n * s) := by
 have e : (p + q) * (r + s) - p * r - q * s = p * s + q * r := by
  rw [Nat.add_mul, Nat.mul_add, Nat.mul_add]; omega
 rw [e, Nat.two_mul, Nat.pow_add]
 generalize W ^ n = w
 simp only [Nat.add_mul, Nat.mul_add, Nat.mul_assoc, Nat.mul_left_comm, Nat.mul_comm, Nat.add_assoc, Nat.add_left_comm, Nat.add_comm]
theorem mul_low {xs : List Nat} {n : Nat} : Ctr Tryz.prog 244 [isWords xs, isI (n : Int)] (isWords (xs.take n)) := by
 refine Ctr.intro Tryz.func244 rfl (by kernel_rfl) Tryz.ntmps244 rfl fun w0 F0 => .cv (Cv.wk (.l [0, 1] rfl)) (.fact (Has.lenLt (Has.t (t := 0) rfl)) fun lt0 => .fact (Has.okW (Has.t (t := 0) rfl)) fun ok0 => .fact (Has.rngI (Has.t (t := 1) rfl)) fun lt1 => .seq fun _ k1 => .region (st (.as (.cW (f := isU))) rfl (nl (.thn (k1 _ _ (.seq fun _ k2 => .seq fun _ k3 => .region (st (.mv (.t rfl)) rfl (st (.len sl29 (.t rfl)) rfl (st (.mv (.t rfl)) rfl (st (.leI (.t rfl) (.t rfl)) rfl (nl (.thn (k3 _ _ (.cond (.t rfl) (fun hc1 => ?_) (fun hc1 => ?_)))))))))))))))
 ·have hc1 := BP.t hc1
  refine .seq fun _ k4 => .region (st (.mv (.t rfl)) rfl (st (.as (.t rfl)) rfl (nl (.thn (k4 _ _ (.cv (Cv.wk (.l [0, 1, 4] rfl)) (.ret (.thr (rt1 (.inl rfl) Tryz.results244 rfl (.tmp (Has.t' rfl ?_) .nil))))))))))
  all_goals (exact SlM_eq (List.take_of_length_le (by omega)).symm)
 ·have hc1 := BP.f hc1
  refine .skip (.thn (k2 _ _ (.seq fun _ k5 => .region (st (.mv (.t rfl)) rfl (st (.mv (.t rfl)) rfl (st (.slHM sl29 ty39 (.t rfl) (.t rfl) ⟨by omega, by omega⟩) rfl (st (.as (.t rfl)) rfl (nl (.thn (k5 _ _ (.cv (Cv.wk (.l [4] rfl)) (.ret (rt1 (.inl rfl) Tryz.results244 rfl (.tmp (Has.t' rfl ?_) .nil))))))))))))))
  all_goals (exact SlM_eq (by rw [Int.toNat_natCast]))
theorem mul_high {xs : List Nat} {n : Nat} : Ctr Tryz.prog 245 [isWords xs, isI (n : Int)] (isWords (xs.drop n)) := by
 refine Ctr.intro Tryz.func245 rfl (by kernel_rfl) Tryz.ntmps245 rfl fun w0 F0 => .cv (Cv.wk (.l [0, 1] rfl)) (.fact (Has.lenLt (Has.t (t := 0) rfl)) fun lt0 => .fact (Has.okW (Has.t (t := 0) rfl)) fun ok0 => .fact (Has.rngI (Has.t (t := 1) rfl)) fun lt1 => .seq fun _ k1 => .region (st (.as (.cW (f := isU))) rfl (nl (.thn (k1 _ _ (.seq fun _ k2 => .seq fun _ k3 => .region (st (.mv (.t rfl)) rfl (st (.len sl29 (.t rfl)) rfl (st (.mv (.t rfl)) rfl (st (.leI (.t rfl) (.t rfl)) rfl (nl (.thn (k3 _ _ (.cond (.t rfl) (fun hc1 => ?_) (fun hc1 => ?_)))))))))))))))
 ·have hc1 := BP.t hc1
  refine .seq fun _ k4 => .region (st (.as (.cW (f := isU))) rfl (nl (.thn (k4 _ _ (.ret (.thr (rt1 (.inl rfl) Tryz.results245 rfl (.tmp (Has.t' rfl ?_) .nil))))))))
  all_goals (exact SlM_eq (List.drop_eq_nil_of_le (by omega)).symm)
 ·have hc1 := BP.f hc1
  refine .skip (.thn (k2 _ _ (.seq fun _ k5 => .region (st (.mv (.t rfl)) rfl (st (.mv (.t rfl)) rfl (st (.slLM sl29 ty39 (.t rfl) (.t rfl) ⟨by omega, by omega⟩) rfl (st (.as (.t rfl)) rfl (nl (.thn (k5 _ _ (.cv (Cv.wk (.l [4] rfl)) (.ret (rt1 (.inl rfl) Tryz.results245 rfl (.tmp (Has.t' rfl ?_) .nil))))))))))))))
  all_goals (exact SlM_eq (by rw [Int.toNat_natCast]))
theorem mul_less {xs ys : List Nat} (hx : (List.length (words (val xs))) < 4294967296) : Ctr Tryz.prog 246 [isWords xs, isWords ys] (isWords (words (val xs - val ys))) := by
 refine Ctr.intro Tryz.func246 rfl (by kernel_rfl) Tryz.ntmps246 rfl fun w0 F0 => .cv (Cv.wk (.l [0, 1] rfl)) (.fact (Has.lenLt (Has.t (t := 0) rfl)) fun lt0 => .fact (Has.okW (Has.t (t := 0) rfl)) fun ok0 => .fact (Has.lenLt (Has.t (t := 1) rfl)) fun lt1 => .fact (Has.okW (Has.t (t := 1) rfl)) fun ok1 => .seq fun _ k1 => .region (st (.as (.cW (f := isU))) rfl (nl (.thn (k1 _ _ (.seq fun _ k2 => .region (st (.mv (.t rfl)) rfl (st (.mv (.t rfl)) rfl (st (.call (nat_Sub (by first | with_reducible assumption | omega | (simp only [val_words]; omega))) (.cons (.t rfl) (.cons (.t rfl) .nil))) rfl ?_)))))))))
 refine st (.mv (.t rfl)) rfl (st (.ext (.t rfl) rfl) rfl (st (.ext (.t rfl) rfl) rfl (st (.as (.t rfl)) rfl (st (.as (.t rfl)) rfl (nl (.thn (k2 _ _ (.cv (Cv.wk (.l [4, 5] rfl)) (.seq fun _ k3 => .region (st (.mv (.t rfl)) rfl (st (.as (.t rfl)) rfl (nl (.thn (k3 _ _ (.ret (rt1 (.inl rfl) Tryz.results246 rfl (.tmp (Has.t' rfl ?_) .nil)))))))))))))))))
 all_goals (rfl)
theorem mul_up {xs : List Nat} {n : Nat} (hn : n + xs.length ≤ 4294967296) : Ctr Tryz.prog 274 [isWords xs, isI (n : Int)] (isWords (upW n xs)) := by
 refine Ctr.intro Tryz.func274 rfl (by kernel_rfl) Tryz.ntmps274 rfl fun w0 F0 => .cv (Cv.wk (.l [0, 1] rfl)) (.fact (Has.lenLt (Has.t (t := 0) rfl)) fun lt0 => .fact (Has.okW (Has.t (t := 0) rfl)) fun ok0 => .fact (Has.rngI (Has.t (t := 1) rfl)) fun lt1 => .seq fun _ k1 => .region (st (.as (.cW (f := isU))) rfl (nl (.thn (k1 _ _ (.seq fun _ k2 => .seq fun _ k3 => .region (st (.mv (.t rfl)) rfl (st (.len sl29 (.t rfl)) rfl (st (.eqI (.t rfl) (.cI 0 rfl)) rfl (nl (.thn (k3 _ _ (.cond (.t rfl) (fun hc1 => ?_) (fun hc1 => ?_))))))))))))))
 ·have hc1 := BP.t hc1
  refine .seq fun _ k4 => .region (st (.as (.cW (f := isU))) rfl (nl (.thn (k4 _ _ (.ret (.thr (rt1 (.inl rfl) Tryz.results274 rfl (.tmp (Has.t' rfl ?_) .nil))))))))
  all_goals (exact SlM_eq (upW_nil (by omega)))
 ·have hc1 := BP.f hc1
  refine .skip (.thn (k2 _ _ (.seq fun _ k5 => .region (st (.mv (.t rfl)) rfl (st (.mv (.t rfl)) rfl (st (.mv (.t rfl)) rfl (st (.len sl29 (.t rfl)) rfl (st (.eq (.addI (.t rfl) (.t rfl) (by first | omega | assumption) (by first | omega | assumption)) ((show isI _ = isI ((n + xs.length : Nat) : Int) from isI_eq (by omega)))) rfl (.make (f := isU) (u := 0) (n := n) (c := n + xs.length) sl29 ty39 zero39 (fun _ _ => ⟨⟨rfl, by decide⟩, trivial⟩) by39 (Has.t' rfl rfl) (Has.t' rfl rfl) ⟨by omega, by omega⟩ rfl fun b1 => st (.mv (.t rfl)) rfl (.cv (Cv.winGrM (f := isU) (t := 13) (i := 0) (ys := List.replicate n 0) rfl rfl (by simp) (by simp) (by simp)) ?_))))))))))
  refine .memEq (M' := [grM _ _ _]) rfl (.appendG (f := isU) (u := 0) sl29 ty39 zero39 (fun _ _ => ⟨⟨rfl, by decide⟩, trivial⟩) (fun _ => inferInstance) by39 (.t rfl) (i := 0) rfl (.t rfl) (by rw [List.length_replicate]; exact hn) (by omega) rfl fun gr1 => ?_)
  refine .memEq (M' := [grM _ _ _]) rfl (.cv (Cv.freezeGn (t := 15) (i := 0) (ys := List.replicate n 0 ++ xs) rfl rfl rfl (by simp)) ?_)
  refine .memEq (M' := []) rfl (.cv (Cv.wk (.l [0, 1, 4, 5, 6, 7, 8, 9, 10, 11, 12, 14, 15] rfl)) (st (.as (.t rfl)) rfl (nl (.thn (k5 _ _ (.cv (Cv.wk (.l [4] rfl)) (.ret (rt1 (.inl rfl) Tryz.results274 rfl (.tmp (Has.t' rfl ?_) .nil)))))))))
  all_goals (exact SlM_eq (upW_app (by omega)))
theorem mul_joined {xs ys zs : List Nat} {n : Nat} (hx : (List.length (words (val xs))) ≤ 2100000000) (hn : n ≤ 1000000000) (hy : ys.length ≤ 2000000000) (hz : zs.length ≤ 2000000000) : Ctr Tryz.prog 247 [isWords xs, isWords ys, isWords zs, isI (n : Int)] (isWords (words (val xs + W ^ n * val ys + W ^ (2 * n) * val zs))) := by
 refine Ctr.intro Tryz.func247 rfl (by kernel_rfl) Tryz.ntmps247 rfl fun w0 F0 => .cv (Cv.wk (.l [0, 1, 2, 3] rfl)) (.fact (Has.lenLt (Has.t (t := 0) rfl)) fun lt0 => .fact (Has.okW (Has.t (t := 0) rfl)) fun ok0 => .fact (Has.lenLt (Has.t (t := 1) rfl)) fun lt1 => .fact (Has.okW (Has.t (t := 1) rfl)) fun ok1 => .fact (Has.lenLt (Has.t (t := 2) rfl)) fun lt2 => .fact (Has.okW (Has.t (t := 2) rfl)) fun ok2 => .fact (Has.rngI (Has.t (t := 3) rfl)) fun lt3 => ?_)
 have u1 := upW_nw (n := n) ok1
 have u2 := upW_nw (n := 2 * n) ok2
 have h1 := nw_add_le (val xs) (val (upW n ys))
 refine .seq fun _ k1 => .region (st (.as (.cW (f := isU))) rfl (nl (.thn (k1 _ _ (.seq fun _ k2 => .region (st (.as (Has.fn (ι := { p : List Nat × Nat // p.2 + p.1.length ≤ 4294967296 }) (As := fun p => [isWords p.1.1, isI (p.1.2 : Int)]) (R := fun p => isWords (upW p.1.2 p.1.1)) (fun p => mul_up p.2))) rfl (nl (.thn (k2 _ _ (.seq fun _ k3 => .region (st (.mv (.t rfl)) rfl (st (.mv (.t rfl)) rfl (st (.mv (.t rfl)) rfl ?_)))))))))))))
 refine st (.mv (.t rfl)) rfl (st (.callV ⟨(ys, n), by show n + ys.length ≤ _; omega⟩ (.t rfl) (.cons (.t rfl) (.cons (.t rfl) .nil))) rfl ?_)
 refine st (.call (nat_Add (by first | with_reducible assumption | omega | (simp only [val_words]; omega)) (by first | with_reducible assumption | omega | (simp only [val_words]; omega))) (.cons (.t rfl) (.cons (.t rfl) .nil))) rfl ?_
 refine st (.mv (.t rfl)) rfl (st (.mv (.t rfl)) rfl (st (.mv (.t rfl)) rfl (st (.eq (.mulI (.cI 2 rfl) (.t rfl) (by first | with_reducible assumption | omega | (simp only [val_words]; omega)) (by first | with_reducible assumption | omega | (simp only [val_words]; omega))) ((show isI _ = isI ((2 * n : Nat) : Int) from isI_eq (by omega)))) rfl ?_)))
 refine st (.callV ⟨(zs, 2 * n), by show 2 * n + zs.length ≤ _; omega⟩ (.t rfl) (.cons (.t rfl) (.cons (.t rfl) .nil))) rfl ?_
 refine st (.call (nat_Add (by first | with_reducible assumption | omega | (simp only [val_words]; omega)) (by first | with_reducible assumption | omega | (simp only [val_words]; omega))) (.cons (.t rfl) (.cons (.t rfl) .nil))) rfl ?_
 refine st (.as (.t rfl)) rfl (nl (.thn (k3 _ _ (.cv (Cv.wk (.l [8] rfl)) (.ret (rt1 (.inl rfl) Tryz.results247 rfl (.tmp (Has.t' rfl ?_) .nil)))))))
 all_goals (exact SlM_eq (by rw [val_words, upW_val, upW_val]))
theorem mul_MulStep {xs ys : List Nat} (hx : (List.length (words (val xs))) ≤ 1000000000) (hy : (List.length (words (val ys))) ≤ 1000000000) (IH : ∀ us vs : List Nat, max ((List.length (words (val us)))) ((List.length (words (val vs)))) < max ((List.length (words (val xs)))) ((List.length (words (val ys)))) → (List.length (words (val us))) ≤ 1000000000 → (List.length (words (val vs))) ≤ 1000000000 → Ctr Tryz.prog 189 [isWords us, isWords vs] (isWords (words (val us * val vs)))) : Ctr Tryz.prog 189 [isWords xs, isWords ys] (isWords (words (val xs * val ys))) := by
 refine Ctr.intro Tryz.func189 rfl (by kernel_rfl) Tryz.ntmps189 rfl fun w0 F0 => .cv (Cv.wk (.l [0, 1] rfl)) (.fact (Has.lenLt (Has.t (t := 0) rfl)) fun lt0 => .fact (Has.okW (Has.t (t := 0) rfl)) fun ok0 => .fact (Has.lenLt (Has.t (t := 1) rfl)) fun lt1 => .fact (Has.okW (Has.t (t := 1) rfl)) fun ok1 => ?_)
 obtain ⟨N, hN⟩ : ∃ N, N = (max ((List.length (words (val xs)))) ((List.length (words (val ys)))) + 1) / 2 := ⟨_, rfl⟩
 have kp := lowW_nw (val xs) N
 have kq := highW_nw (val xs) N
 have kr := lowW_nw (val ys) N
 have ks := highW_nw (val ys) N
 have ka := nw_add_le (val ((words (val xs)).take N)) (val ((words (val xs)).drop N))
 have kb := nw_add_le (val ((words (val ys)).take N)) (val ((words (val ys)).drop N))
 have ea := halves (val xs) N
 have eb := halves (val ys) N
 obtain ⟨p, hp⟩ : ∃ p, p = (words (val xs)).take N := ⟨_, rfl⟩
 obtain ⟨q, hq⟩ : ∃ q, q = (words (val xs)).drop N := ⟨_, rfl⟩
 obtain ⟨r, hr⟩ : ∃ r, r = (words (val ys)).take N := ⟨_, rfl⟩
 obtain ⟨s, hs⟩ : ∃ s, s = (words (val ys)).drop N := ⟨_, rfl⟩
 rw [← hp] at kp ka ea
 rw [← hq] at kq ka ea
 rw [← hr] at kr kb eb
 rw [← hs] at ks kb eb
 have kpr := nw_mul_le (val p) (val r)
 have kqs := nw_mul_le (val q) (val s)
 have kc := nw_mul_le (val p + val q) (val r + val s)
 have kc2 := nw_mono (Nat.sub_le ((val p + val q) * (val r + val s)) (val p * val r))
 have kc3 := nw_mono (Nat.sub_le ((val p + val q) * (val r + val s) - val p * val r) (val q * val s))
 refine .seq fun _ k1 => .region (st (.as (.cW (f := isU))) rfl (nl (.thn (k1 _ _ (.seq fun _ k2 => .region (st (.mv (.t rfl)) rfl (st (.eq (.call (nat_Norm (by first | with_reducible assumption | omega | (simp only [val_words]; omega))) (.cons (.t rfl) .nil)) (by first | (simp only [val_words]; rfl) | rfl)) rfl ?_)))))))
 refine st (.mv (.t rfl)) rfl (st (.eq (.call (nat_Norm (by first | with_reducible assumption | omega | (simp only [val_words]; omega))) (.cons (.t rfl) .nil)) (by first | (simp only [val_words]; rfl) | rfl)) rfl ?_)
 refine st (.as (.t rfl)) rfl (st (.as (.t rfl)) rfl (nl (.thn (k2 _ _ (.seq fun _ k3 => .seq fun _ k4 => .region (st (.mv (.t rfl)) rfl (st (.len sl29 (.t rfl)) rfl (st (.mv (.t rfl)) rfl (st (.len sl29 (.t rfl)) rfl (st (.minI (.t rfl) (.t rfl)) rfl (st (.leI (.t rfl) (.cI 8 rfl)) rfl (nl (.thn (k4 _ _ (.cv (Cv.wk (.l [0, 1, 4, 22] rfl)) (.cond (.t rfl) (fun hc1 => ?_) (fun hc1 => ?_)))))))))))))))))
 ·have hc1 := BP.t hc1
  have HM : (List.length (words (val xs))) ≤ 8 ∨ (List.length (words (val ys))) ≤ 8 := (by revert hc1; split <;> intro hc1 <;> omega)
  refine .seq fun _ k5 => .region (st (.mv (.t rfl)) rfl (st (.mv (.t rfl)) rfl (st (.eq (.call (nat_Mul (by first | with_reducible assumption | omega | (simp only [val_words]; omega))) (.cons (.t rfl) (.cons (.t rfl) .nil))) (by first | (simp only [val_words]; rfl) | rfl)) rfl ?_)))
  refine st (.as (.t rfl)) rfl (nl (.thn (k5 _ _ (.ret (.thr (rt1 (.inl rfl) Tryz.results189 rfl (.tmp (Has.t' rfl ?_) .nil)))))))
  all_goals (rfl)
 ·have hc1 := BP.f hc1
  have HM : 8 < (List.length (words (val xs))) ∧ 8 < (List.length (words (val ys))) := (by revert hc1; split <;> intro hc1 <;> omega)
  refine .skip (.thn (k3 _ _ (.seq fun _ k6 => .region (st (.mv (.t rfl)) rfl (st (.len sl29 (.t rfl)) rfl (st (.mv (.t rfl)) rfl (st (.len sl29 (.t rfl)) rfl (st (.maxI (.t rfl) (.t rfl)) rfl (st (.addI (.t rfl) (.cI 1 rfl) (by first | with_reducible assumption | omega | (simp only [val_words]; omega)) (by first | with_reducible assumption | omega | (simp only [val_words]; omega))) rfl ?_)))))))))
  refine st (.eq (.quoI (.t rfl) (.cI 2 rfl) (by first | with_reducible assumption | omega | (simp only [val_words]; omega)) (by first | with_reducible assumption | omega | (simp only [val_words]; omega)) (by first | with_reducible assumption | omega | (simp only [val_words]; omega))) ((show isI _ = isI (N : Int) from isI_eq (by rw [hN]; split <;> omega)))) rfl ?_
  refine st (.as (.t rfl)) rfl (nl (.thn (k6 _ _ (.cv (Cv.wk (.l [0, 1, 4, 5] rfl)) (.seq fun _ k7 => .region (st (.mv (.t rfl)) rfl (st (.mv (.t rfl)) rfl (st (.eq (.call (mul_low) (.cons (.t rfl) (.cons (.t rfl) .nil))) ((show isWords ((words (val xs)).take N) = isWords p from SlM_eq hp.symm))) rfl (st (.mv (.t rfl)) rfl (st (.mv (.t rfl)) rfl (st (.eq (.call (mul_high) (.cons (.t rfl) (.cons (.t rfl) .nil))) ((show isWords ((words (val xs)).drop N) = isWords q from SlM_eq hq.symm))) rfl (st (.mv (.t rfl)) rfl (st (.mv (.t rfl)) rfl (st (.eq (.call (mul_low) (.cons (.t rfl) (.cons (.t rfl) .nil))) ((show isWords ((words (val ys)).take N) = isWords r from SlM_eq hr.symm))) rfl (st (.mv (.t rfl)) rfl (st (.mv (.t rfl)) rfl (st (.eq (.call (mul_high) (.cons (.t rfl) (.cons (.t rfl) .nil))) ((show isWords ((words (val ys)).drop N) = isWords s from SlM_eq hs.symm))) rfl (st (.as (.t rfl)) rfl (st (.as (.t rfl)) rfl (st (.as (.t rfl)) rfl (st (.as (.t rfl)) rfl (nl (.thn (k7 _ _ (.cv (Cv.wk (.l [4, 5, 6, 7, 8, 9] rfl)) (.seq fun _ k8 => .region (st (.mv (.t rfl)) rfl (st (.mv (.t rfl)) rfl (st (.call (IH _ _ (by first | with_reducible assumption | omega | (simp only [val_words]; omega)) (by first | with_reducible assumption | omega | (simp only [val_words]; omega)) (by first | with_reducible assumption | omega | (simp only [val_words]; omega))) (.cons (.t rfl) (.cons (.t rfl) .nil))) rfl ?_)))))))))))))))))))))))))))))
  refine st (.mv (.t rfl)) rfl (st (.mv (.t rfl)) rfl (st (.call (IH _ _ (by first | with_reducible assumption | omega | (simp only [val_words]; omega)) (by first | with_reducible assumption | omega | (simp only [val_words]; omega)) (by first | with_reducible assumption | omega | (simp only [val_words]; omega))) (.cons (.t rfl) (.cons (.t rfl) .nil))) rfl ?_))
  refine st (.as (.t rfl)) rfl (st (.as (.t rfl)) rfl (nl (.thn (k8 _ _ (.cv (Cv.wk (.l [4, 5, 6, 7, 8, 9, 10, 11] rfl)) (.seq fun _ k9 => .region (st (.mv (.t rfl)) rfl (st (.mv (.t rfl)) rfl (st (.eq (.call (nat_Add (by first | with_reducible assumption | omega | (simp only [val_words]; omega)) (by first | with_reducible assumption | omega | (simp only [val_words]; omega))) (.cons (.t rfl) (.cons (.t rfl) .nil))) ((show isWords (words (val p + val q)) = _ from rfl))) rfl ?_)))))))))
  refine st (.mv (.t rfl)) rfl (st (.mv (.t rfl)) rfl (st (.call (nat_Add (by first | with_reducible assumption | omega | (simp only [val_words]; omega)) (by first | with_reducible assumption | omega | (simp only [val_words]; omega))) (.cons (.t rfl) (.cons (.t rfl) .nil))) rfl ?_))
  refine st (.eq (.call (IH _ _ (by first | with_reducible assumption | omega | (simp only [val_words]; omega)) (by first | with_reducible assumption | omega | (simp only [val_words]; omega)) (by first | with_reducible assumption | omega | (simp only [val_words]; omega))) (.cons (.t rfl) (.cons (.t rfl) .nil))) ((show isWords _ = isWords (words ((val p + val q) * (val r + val s))) from SlM_eq (by rw [val_words, val_words])))) rfl ?_
  refine st (.mv (.t rfl)) rfl (st (.eq (.call (mul_less (by first | with_reducible assumption | omega | (simp only [val_words]; omega))) (.cons (.t rfl) (.cons (.t rfl) .nil))) ((show isWords _ = isWords (words ((val p + val q) * (val r + val s) - val p * val r)) from SlM_eq (by rw [val_words, val_words])))) rfl ?_)
  refine st (.mv (.t rfl)) rfl (st (.eq (.call (mul_less (by first | with_reducible assumption | omega | (simp only [val_words]; omega))) (.cons (.t rfl) (.cons (.t rfl) .nil))) ((show isWords _ = isWords (words ((val p + val q) * (val r + val s) - val p * val r - val q * val s)) from SlM_eq (by rw [val_words, val_words])))) rfl ?_)
  refine st (.as (.t rfl)) rfl (nl (.thn (k9 _ _ (.cv (Cv.wk (.l [4, 5, 10, 11, 12] rfl)) (.seq fun _ k10 => .region (st (.mv (.t rfl)) rfl (st (.mv (.t rfl)) rfl (st (.mv (.t rfl)) rfl (st (.mv (.t rfl)) rfl (st (.call (mul_joined (by simp only [val_words]; omega) (by omega) (by omega) (by omega)) (.cons (.t rfl) (.cons (.t rfl) (.cons (.t rfl) (.cons (.t rfl) .nil))))) rfl ?_))))))))))
  refine st (.as (.t rfl)) rfl (nl (.thn (k10 _ _ (.cv (Cv.wk (.l [4] rfl)) (.ret (rt1 (.inl rfl) Tryz.results189 rfl (.tmp (Has.t' rfl ?_) .nil)))))))
  all_goals (exact SlM_eq (by simp only [val_words]; rw [kara, ea, eb]))
theorem mul_Mul : ∀ {xs ys : List Nat}, (List.length (words (val xs))) ≤ 1000000000 → (List.length (words (val ys))) ≤ 1000000000 → Ctr Tryz.prog 189 [isWords xs, isWords ys] (isWords (words (val xs * val ys))) := by
 have h : ∀ N, ∀ xs ys : List Nat, max ((List.length (words (val xs)))) ((List.length (words (val ys)))) ≤ N → (List.length (words (val xs))) ≤ 1000000000 → (List.length (words (val ys))) ≤ 1000000000 → Ctr Tryz.prog 189 [isWords xs, isWords ys] (isWords (words (val xs * val ys))) := by
  intro N
  induction N with
  | zero => intro xs ys h hx hy; exact mul_MulStep hx hy (fun us vs hl => absurd hl (by omega))
  | succ N ih => intro xs ys h hx hy; exact mul_MulStep hx hy (fun us vs hl => ih us vs (by omega))
 intro xs ys hx hy
 exact h _ xs ys (Nat.le_refl _) hx hy
end Go.Proofs.YthkdmhaafanjlaaGreat
namespace Go.Nt
theorem zv_zero (n : Bool) (xs : List Nat) : zv n xs = 0 ↔ val xs = 0 := by unfold zv; split <;> omega
theorem from_neg (m : Bool) (xs : List Nat) : (m && decide (0 < (((List.length (words (val xs))) : Nat) : Int))) = decide (zv m xs < 0) := by
 rw [zv_neg]
 congr 1
 apply decide_eq_decide.2
 constructor
 ·intro h e; rw [e, words_zero] at h; simp at h
 ·intro h; have := nw_pos h; omega
theorem from_word (m : Bool) (n : Nat) : zv m (words n) = if m = true then -(n : Int) else (n : Int) := by unfold zv; rw [val_words]
theorem neg_word {x : Int} (h : x < 0) (h2 : -9223372036854775808 ≤ x) : (18446744073709551616 - (x % 18446744073709551616).toNat) % 18446744073709551616 = x.natAbs := by omega
theorem sgn_zero {n : Bool} {xs : List Nat} (h : ((bitLen (val xs) : Nat) : Int) = 0) : 0 = sgn (zv n xs) := by
 have h2 : val xs = 0 := by
  rcases Nat.eq_zero_or_pos (val xs) with e | e
  ·exact e
  ·have := bitLen_pos (x := val xs) (by omega); omega
 unfold sgn; rw [if_pos ((zv_zero n xs).2 h2)]
theorem sgn_of {n : Bool} {xs : List Nat} (h : ¬ ((bitLen (val xs) : Nat) : Int) = 0) : (if n = true then -1 else 1) = sgn (zv n xs) := by
 have h2 : val xs ≠ 0 := fun e => h (by rw [e]; rfl)
 cases n
 ·have e : zv false xs = (val xs : Int) := zv_false xs
  show (1 : Int) = sgn (zv false xs)
  rw [e]; unfold sgn; rw [if_neg (by omega), if_neg (by omega)]
 ·have e : zv true xs = -(val xs : Int) := by unfold zv; rw [if_pos rfl]
  show (-1 : Int) = sgn (zv true xs)
  rw [e]; unfold sgn; rw [if_neg (by omega), if_pos (by omega)]
theorem sgn_cases (z : Int) : (sgn z = 0 ∧ z = 0) ∨ (sgn z = -1 ∧ z < 0) ∨ (sgn z = 1 ∧ 0 < z) := by
 unfold sgn; split
 ·exact .inl ⟨rfl, by assumption⟩
 ·split
  ·exact .inr (.inl ⟨rfl, by assumption⟩)
  ·exact .inr (.inr ⟨rfl, by omega⟩)
theorem sgn_range (z : Int) : -1 ≤ sgn z ∧ sgn z ≤ 1 := by rcases sgn_cases z with h | h | h <;> omega
theorem cmpZ_lt {x y : Int} (h : sgn x < sgn y) : -1 = cmpZ x y := by
 have : x < y := by rcases sgn_cases x with h1 | h1 | h1 <;> rcases sgn_cases y with h2 | h2 | h2 <;> omega
 unfold cmpZ; rw [if_pos this]
theorem cmpZ_gt {x y : Int} (h : sgn y < sgn x) : 1 = cmpZ x y := by
 have : y < x := by rcases sgn_cases x with h1 | h1 | h1 <;> rcases sgn_cases y with h2 | h2 | h2 <;> omega
 unfold cmpZ; rw [if_neg (by omega), if_pos this]
theorem cmpN_cases (a b : Nat) : (a < b ∧ cmpN a b = -1) ∨ (b < a ∧ cmpN a b = 1) ∨ (a = b ∧ cmpN a b = 0) := by
 unfold cmpN; split
 ·exact .inl ⟨by assumption, rfl⟩
 ·split
  ·exact .inr (.inl ⟨by assumption, rfl⟩)
  ·exact .inr (.inr ⟨by omega, rfl⟩)
theorem cmpZ_cases (x y : Int) : (x < y ∧ cmpZ x y = -1) ∨ (y < x ∧ cmpZ x y = 1) ∨ (x = y ∧ cmpZ x y = 0) := by
 unfold cmpZ; split
 ·exact .inl ⟨by assumption, rfl⟩
 ·split
  ·exact .inr (.inl ⟨by assumption, rfl⟩)
  ·exact .inr (.inr ⟨by omega, rfl⟩)
theorem cmpZ_neg {m n : Bool} {xs ys : List Nat} (h1 : sgn (zv m xs) < 0) (h2 : ¬ sgn (zv m xs) < sgn (zv n ys)) (h3 : ¬ sgn (zv n ys) < sgn (zv m xs)) : cmpN (val ys) (val xs) = cmpZ (zv m xs) (zv n ys) := by
 have hx := zv_abs m xs
 have hy := zv_abs n ys
 generalize zv m xs = x at *
 generalize zv n ys = y at *
 rcases sgn_cases x with c | c | c <;> rcases sgn_cases y with d | d | d <;> rcases cmpN_cases (val ys) (val xs) with e | e | e <;> rcases cmpZ_cases x y with f | f | f <;> omega
theorem cmpZ_pos {m n : Bool} {xs ys : List Nat} (h1 : ¬ sgn (zv m xs) < 0) (h2 : ¬ sgn (zv m xs) < sgn (zv n ys)) (h3 : ¬ sgn (zv n ys) < sgn (zv m xs)) : cmpN (val xs) (val ys) = cmpZ (zv m xs) (zv n ys) := by
 have hx := zv_abs m xs
 have hy := zv_abs n ys
 generalize zv m xs = x at *
 generalize zv n ys = y at *
 rcases sgn_cases x with c | c | c <;> rcases sgn_cases y with d | d | d <;> rcases cmpN_cases (val xs) (val ys) with e | e | e <;> rcases cmpZ_cases x y with f | f | f <;> omega
theorem cmpZ_eq0 (x y : Int) : decide (cmpZ x y = 0) = decide (x = y) := by
 apply decide_eq_decide.2
 rcases cmpZ_cases x y with h | h | h <;> omega
theorem sgn_nn (z : Int) : 0 ≤ sgn z ↔ 0 ≤ z := by rcases sgn_cases z with h | h | h <;> omega
theorem sgn_pos (z : Int) : 0 < sgn z ↔ 0 < z := by rcases sgn_cases z with h | h | h <;> omega
theorem sgn_eq0 (z : Int) : sgn z = 0 ↔ z = 0 := by rcases sgn_cases z with h | h | h <;> omega
theorem sgn_lt (z : Int) : sgn z < 0 ↔ z < 0 := by rcases sgn_cases z with h | h | h <;> omega
theorem quo_rest (m n : Bool) (xs ys : List Nat) : zv m (words (if val ys = 0 then 0 else val xs % val ys)) = if zv n ys = 0 then 0 else (zv m xs).tmod (zv n ys) := by
 by_cases h : val ys = 0
 ·rw [if_pos h, if_pos ((zv_zero n ys).2 h), from_word]; simp
 ·rw [if_neg h, if_neg (fun e => h ((zv_zero n ys).1 e)), zv_tmod]
theorem ne_zv (n : Bool) (ys : List Nat) : decide (val ys ≠ 0) = decide (zv n ys ≠ 0) := decide_eq_decide.2 (not_congr (zv_zero n ys).symm)
theorem euc0 {x y : Int} (h : ¬ y ≠ 0 ∨ 0 ≤ sgn (if y = 0 then 0 else x.tmod y)) : x.tdiv y = x / y ∧ (if y = 0 then 0 else x.tmod y) = (if y = 0 then 0 else x % y) := by
 by_cases hy : y = 0
 ·subst hy; simp
 ·rw [if_neg hy, sgn_nn] at h
  rw [if_neg hy, if_neg hy]
  exact (tmod_cases x y).1 (h.resolve_left (fun e => e hy))
theorem euc1 {x y : Int} (h : y ≠ 0 ∧ sgn (if y = 0 then 0 else x.tmod y) < 0) (hp : 0 < sgn y) : x.tdiv y - 1 = x / y ∧ (if y = 0 then 0 else x.tmod y) + y = (if y = 0 then 0 else x % y) := by
 obtain ⟨hy, h⟩ := h
 rw [if_neg hy, sgn_lt] at h
 rw [if_neg hy, if_neg hy]
 exact ((tmod_cases x y).2 h).1 ((sgn_pos y).1 hp)
theorem euc2 {x y : Int} (h : y ≠ 0 ∧ sgn (if y = 0 then 0 else x.tmod y) < 0) (hp : sgn y ≤ 0) : x.tdiv y + 1 = x / y ∧ (if y = 0 then 0 else x.tmod y) - y = (if y = 0 then 0 else x % y) := by
 obtain ⟨hy, h⟩ := h
 rw [if_neg hy, sgn_lt] at h
 rw [if_neg hy, if_neg hy]
 refine ((tmod_cases x y).2 h).2 ?_
 rcases sgn_cases y with g | g | g <;> omega
theorem ex_no {x y : Int} (h : ¬ y ≠ 0 ∨ ¬ sgn (if y = 0 then 0 else x.tmod y) = 0) : ¬ (y ≠ 0 ∧ x.tmod y = 0) := by
 rintro ⟨h1, h2⟩
 rcases h with h | h
 ·exact h h1
 ·rw [if_neg h1, sgn_eq0] at h; exact h h2
theorem ex_yes {x y : Int} (h : y ≠ 0 ∧ sgn (if y = 0 then 0 else x.tmod y) = 0) : y ≠ 0 ∧ x.tmod y = 0 := by
 obtain ⟨h1, h2⟩ := h
 rw [if_neg h1, sgn_eq0] at h2
 exact ⟨h1, h2⟩
theorem nz_if (x y : Int) : (List.length (words (if y = 0 then 0 else x.tmod y).natAbs)) ≤ (List.length (words x.natAbs)) := by
 split
 ·rw [Int.natAbs_zero, words_zero]; exact Nat.zero_le _
 ·exact nz_tmod x y
theorem nz_one : (List.length (words (1 : Int).natAbs)) = 1 := nw_one
end Go.Nt
namespace Go.Nt
def dv (n : Bool) (xs : List Nat) : Int := if n = true then -(dval xs : Int) else (dval xs : Int)
/-! ### lines of a product -/
end Go.Nt
namespace Go.Nt
def xg (A B : Int) : Int := (cof A B 1 0).2 % ((B.natAbs : Int) / ((Nat.gcd A.natAbs B.natAbs : Nat) : Int))
theorem gcd_pos' {A B : Int} (h : B ≠ 0) : 0 < Nat.gcd A.natAbs B.natAbs := Nat.gcd_pos_of_pos_right _ (by omega)
theorem xg_step {A B : Int} (h : B ≠ 0) : (if (cof A B 1 0).1 ≠ 0 ∧ (((B.natAbs : Nat) : Int)).tmod (cof A B 1 0).1 = 0 then (((B.natAbs : Nat) : Int)).tdiv (cof A B 1 0).1 else 0) = (B.natAbs : Int) / ((Nat.gcd A.natAbs B.natAbs : Nat) : Int) := by
 have hg := gcd_pos' (A := A) h
 rw [(cof_all A B).1]
 have hd : B.natAbs % Nat.gcd A.natAbs B.natAbs = 0 := Nat.mod_eq_zero_of_dvd (Nat.gcd_dvd_right _ _)
 have h1 : (((B.natAbs : Nat) : Int)).tmod ((Nat.gcd A.natAbs B.natAbs : Nat) : Int) = 0 := by
  rw [← Int.ofNat_tmod, hd]; rfl
 rw [if_pos ⟨by omega, h1⟩, Int.tdiv_eq_ediv_of_nonneg (by omega)]
theorem step_pos {A B : Int} (h : B ≠ 0) : 0 < (B.natAbs : Int) / ((Nat.gcd A.natAbs B.natAbs : Nat) : Int) := by
 have hg := gcd_pos' (A := A) h
 rw [← Int.natCast_ediv]
 have : 0 < B.natAbs / Nat.gcd A.natAbs B.natAbs := Nat.div_pos (Nat.le_of_dvd (by omega) (Nat.gcd_dvd_right _ _)) hg
 omega
theorem step_le (A B : Int) : ((B.natAbs : Int) / ((Nat.gcd A.natAbs B.natAbs : Nat) : Int)).natAbs ≤ B.natAbs := by
 rw [← Int.natCast_ediv, Int.natAbs_natCast]; exact Nat.div_le_self _ _
theorem xg_le {A B : Int} (h : B ≠ 0) : (xg A B).natAbs ≤ B.natAbs := by
 have h1 := step_pos (A := A) h
 have h2 := step_le A B
 have h3 := Int.emod_nonneg (cof A B 1 0).2 (show (B.natAbs : Int) / ((Nat.gcd A.natAbs B.natAbs : Nat) : Int) ≠ 0 by omega)
 have h4 := Int.emod_lt_of_pos (cof A B 1 0).2 h1
 unfold xg; omega
/-! ### powers -/
/-! ### Euclid's steps are few -/
/-! ### the elements of a field -/
theorem toNat_lt {z : Int} {p : Nat} (hp : 0 < p) : (z % (p : Int)).toNat < p := by
 have h1 := Int.emod_nonneg z (show (p : Int) ≠ 0 by omega)
 have h2 := Int.emod_lt_of_pos z (show 0 < (p : Int) by omega)
 omega
end Go.Nt
namespace Go.En
open Go.RowKit Go.Nt
abbrev isZ (z : Int) : VP := Flat [isB (decide (z < 0)), SlM isU (words z.natAbs)]
abbrev zM (k : Nat) (z : Int) : Option Nat × MP := (some k, cellM [isB (decide (z < 0)), SlM isU (words z.natAbs)])
theorem isZ_eq {z z' : Int} (h : z = z') : isZ z = isZ z' := h ▸ rfl
theorem isZ_of {n : Bool} {xs : List Nat} {z : Int} (h : n = decide (z < 0)) (h2 : xs = words z.natAbs) : Flat [isB n, SlM isU xs] = isZ z := by subst h; subst h2; rfl
theorem isZ0 : Flat [isB false, SlM isU []] = isZ 0 := isZ_of (by decide) (by rw [Int.natAbs_zero, words_zero])
section
variable {E : Env} {P : Program} {Γ : Ctx} {M : Mem} {x : Operand}
theorem Has.okZ {n : Bool} {xs : List Nat} (h : Has E Γ M x (Flat [isB n, SlM isU xs])) : ∀ a w F, Sat E Γ M a w F → (∀ y ∈ xs, y < 18446744073709551616) ∧ xs.length ≤ 9223372036854775807 := by
 intro a w F s
 obtain ⟨vs, e, hv⟩ := h a w F s
 obtain ⟨v, hv1, hv2⟩ := hv.get 1 (SlM isU xs) rfl
 obtain ⟨ad, cap, e, g1, g2, g3, g4⟩ := hv2
 refine ⟨fun y hy => ?_, by rw [maxLen_eq] at g2; omega⟩
 obtain ⟨i, hi, rfl⟩ := List.mem_iff_getElem.1 hy
 rcases g4 with g4 | ⟨b, off, _, _, vs, hv, _⟩
 ·omega
 ·obtain ⟨v, _, h2⟩ := hv.get i (isU xs[i]) (by simp [hi])
  exact h2.2
theorem Has.lt2 {a b : Nat} (h : Has E Γ M x (Flat [isU a, isU b])) : ∀ ac w F, Sat E Γ M ac w F → a < 18446744073709551616 ∧ b < 18446744073709551616 := by
 intro ac w F s
 obtain ⟨vs, e, hv⟩ := h ac w F s
 obtain ⟨v, hv1, hv2⟩ := hv.get 0 (isU a) rfl
 obtain ⟨v', hv3, hv4⟩ := hv.get 1 (isU b) rfl
 exact ⟨hv2.2, hv4.2⟩
end
end Go.En
namespace Go.Proofs.YthkdmhaafanjlaaGreat
open Go.En Go.RowKit
set_option maxRecDepth 10000
set_option maxHeartbeats 4000000
open Go.Nt
theorem zint_From {xs : List Nat} {m : Bool} (hx : (List.length (words (val xs))) ≤ 4294967296) : Ctr Tryz.prog 102 [isWords xs, isB m] (isZ (zv m xs)) := by
 refine Ctr.intro Tryz.func102 rfl (by kernel_rfl) Tryz.ntmps102 rfl fun w0 F0 => .cv (Cv.wk (.l [0, 1] rfl)) (.fact (Has.lenLt (Has.t (t := 0) rfl)) fun lt0 => .fact (Has.okW (Has.t (t := 0) rfl)) fun ok0 => .seq fun _ k1 => .region (.alloc [isB false, SlM isU []] zero31 (fun _ _ => ⟨rfl, nilM _ _, trivial⟩) rfl fun b1 => nl (.thn (k1 _ _ (.seq fun _ k2 => .region (st (.mv (.t rfl)) rfl (st (.call (nat_Norm (by first | with_reducible assumption | omega | (simp only [val_words, zv_nf]; omega) | (simp only [val_words]; exact Nat.le_trans (nw_small' (by omega)) (by decide)))) (.cons (.t rfl) .nil)) rfl ?_)))))))
 refine st (.as (.t rfl)) rfl (nl (.thn (k2 _ _ (.seq fun _ k3 => .region (st (.mv (.t rfl)) rfl (st (.mv (.t rfl)) rfl ?_))))))
 refine stT rfl rfl (fun hg => have hg' := BP.t hg; OK1.mv (.t rfl)) rfl ?_
 refine stT rfl rfl (fun hg => have hg' := BP.t hg; OK1.len sl29 (Has.g rfl hg)) rfl ?_
 refine stT rfl rfl (fun hg => have hg' := BP.t hg; OK1.gtI (Has.g rfl hg) (.cI 0 rfl)) rfl ?_
 refine st (.pickAnd (.t rfl) (fun h => Has.g rfl h)) rfl (st (.mv (.t rfl)) rfl (st (.build [isB false, SlM isU []] pl31 zero31 (fun _ _ => ⟨rfl, nilM _ _, trivial⟩) (.cons (.t rfl) rfl rfl rfl (.cons (.t rfl) rfl rfl rfl .nil)) (Z'' := [_, _]) rfl) rfl (.store (.t rfl) (.t rfl) (i := 0) rfl ty31 rfl rfl (Ss' := [_, _]) rfl (M' := [(some _, cellM [_, _])]) rfl (nl (.thn (k3 _ _ (.cv (Cv.wk (.l [4] rfl)) (.ret (rt1 (.inl rfl) Tryz.results102 rfl (.cell rfl (i := 0) rfl ty31 rfl ?_ .nil))))))))))
 ·exact isZ_of (from_neg m xs) (by rw [zv_abs])
theorem zint_Of {x : Int} : Ctr Tryz.prog 34 [isI x] (isZ x) := by
 refine Ctr.intro Tryz.func34 rfl (by kernel_rfl) Tryz.ntmps34 rfl fun w0 F0 => .cv (Cv.wk (.l [0] rfl)) (.fact (Has.rngI (Has.t (t := 0) rfl)) fun lt0 => .seq fun _ k1 => .region (.alloc [isB false, SlM isU []] zero31 (fun _ _ => ⟨rfl, nilM _ _, trivial⟩) rfl fun b1 => nl (.thn (k1 _ _ (.seq fun _ k2 => .seq fun _ k3 => .region (st (.mv (.t rfl)) rfl (st (.ltI (.t rfl) (.cI 0 rfl)) rfl (nl (.thn (k3 _ _ (.cond (.t rfl) (fun hc1 => ?_) (fun hc1 => ?_))))))))))))
 ·have hc1 := BP.t hc1
  have hN : x < 0 := hc1
  refine .seq fun _ k4 => .region (st (.mv (.t rfl)) rfl (st (.convIUw un2 un39 (.t rfl)) rfl (st (.eq (.negU (.t rfl) (by first | with_reducible assumption | omega | (simp only [val_words, zv_nf]; omega) | (simp only [val_words]; exact Nat.le_trans (nw_small' (by omega)) (by decide)))) ((show isU _ = isU x.natAbs from isU_eq (neg_word hc1 (by omega))))) rfl ?_)))
  refine st (.call (nat_Of) (.cons (.t rfl) .nil)) rfl (st (.call (zint_From (by first | with_reducible assumption | omega | (simp only [val_words, zv_nf]; omega) | (simp only [val_words]; exact Nat.le_trans (nw_small' (by omega)) (by decide)))) (.cons (.t rfl) (.cons (.cB true) .nil))) rfl ?_)
  refine .store (.t rfl) (.t rfl) (i := 0) rfl ty31 rfl rfl (Ss' := [_, _]) rfl (M' := [(some _, cellM [_, _])]) rfl (nl (.thn (k4 _ _ (.cv (Cv.wk (.l [0, 2] rfl)) (.ret (.thr (rt1 (.inl rfl) Tryz.results34 rfl (.cell rfl (i := 0) rfl ty31 rfl ?_ .nil))))))))
  ·exact isZ_eq (by rw [from_word, if_pos rfl]; omega)
 ·have hc1 := BP.f hc1
  have hN : 0 ≤ x := (by omega)
  refine .skip (.thn (k2 _ _ (.seq fun _ k5 => .region (st (.mv (.t rfl)) rfl (st (.eq (.convIU un2 un39 (.t rfl) (by first | with_reducible assumption | omega | (simp only [val_words, zv_nf]; omega) | (simp only [val_words]; exact Nat.le_trans (nw_small' (by omega)) (by decide))) (by first | with_reducible assumption | omega | (simp only [val_words, zv_nf]; omega) | (simp only [val_words]; exact Nat.le_trans (nw_small' (by omega)) (by decide)))) ((show isU _ = isU x.natAbs from isU_eq (by omega)))) rfl ?_)))))
  refine st (.call (nat_Of) (.cons (.t rfl) .nil)) rfl (st (.call (zint_From (by first | with_reducible assumption | omega | (simp only [val_words, zv_nf]; omega) | (simp only [val_words]; exact Nat.le_trans (nw_small' (by omega)) (by decide)))) (.cons (.t rfl) (.cons (.cB false) .nil))) rfl ?_)
  refine .store (.t rfl) (.t rfl) (i := 0) rfl ty31 rfl rfl (Ss' := [_, _]) rfl (M' := [(some _, cellM [_, _])]) rfl (nl (.thn (k5 _ _ (.cv (Cv.wk (.l [2] rfl)) (.ret (rt1 (.inl rfl) Tryz.results34 rfl (.cell rfl (i := 0) rfl ty31 rfl ?_ .nil)))))))
  ·exact isZ_eq (by rw [from_word, if_neg (by decide)]; omega)
theorem zint_Sign {m : Bool} {xs : List Nat} (hx : (List.length (words (val xs))) < 4294900000) : Ctr Tryz.prog 74 [Flat [isB m, isWords xs]] (isI (sgn (zv m xs))) := by
 refine Ctr.intro Tryz.func74 rfl (by kernel_rfl) Tryz.ntmps74 rfl fun w0 F0 => .cv (Cv.wk (.l [0] rfl)) (.fact (Has.okZ (Has.t (t := 0) rfl)) fun okz0 => .seq fun _ k1 => .region (.box (.t rfl) rfl fun b1 => st (.as (.cI 0 rfl)) rfl (nl (.thn (k1 _ _ (.seq fun _ k2 => .block (.seq fun _ k3 => .region (st (.fieldAddr (.t rfl) fld31_1 ty29) rfl (st (.load1 (.t rfl) (i := 0) rfl ty29 rfl) rfl (st (.call (nat_Bits (by first | with_reducible assumption | omega | (simp only [val_words, zv_nf]; omega) | (simp only [val_words]; exact Nat.le_trans (nw_small' (by omega)) (by decide)))) (.cons (.t rfl) .nil)) rfl ?_))))))))))
 refine st (.eqI (.t rfl) (.cI 0 rfl)) rfl (st (.as (.t rfl)) rfl (nl (.thn (k3 _ _ (.cv (Cv.wk (.l [1, 2, 3] rfl)) (.cond (.t rfl) (fun hc1 => ?_) (fun hc1 => ?_)))))))
 ·have hc1 := BP.t hc1
  refine .seq fun _ k4 => .region (st (.as (.cI 0 rfl)) rfl (nl (.thn (k4 _ _ (.ret (.blr (.thr (rt1 (.inl rfl) Tryz.results74 rfl (.tmp (Has.t' rfl ?_) .nil)))))))))
  all_goals (exact isI_eq (sgn_zero hc1))
 ·have hc1 := BP.f hc1
  refine .seq fun _ k5 => .region (st (.fieldAddr (.t rfl) fld31_0 ty4) rfl (st (.load1 (.t rfl) (i := 0) rfl ty4 rfl) rfl (st (.as (.t rfl)) rfl (nl (.thn (k5 _ _ (.cond (.t rfl) (fun hc2 => ?_) (fun hc2 => ?_))))))))
  ·have hc2 := BP.t hc2
   have HM := hc2
   refine .seq fun _ k6 => .region (st (.as (.cI (-1) rfl)) rfl (nl (.thn (k6 _ _ (.cv (Cv.wk (.l [2] rfl)) (.ret (.blr (.thr (rt1 (.inl rfl) Tryz.results74 rfl (.tmp (Has.t' rfl ?_) .nil))))))))))
   all_goals (exact isI_eq (by rw [← sgn_of hc1, if_pos HM]))
  ·have hc2 := BP.f hc2
   have HM := hc2
   refine .skip (.bln (.thn (k2 _ _ (.cv (Cv.wk (.l [2] rfl)) (.seq fun _ k7 => .region (st (.as (.cI 1 rfl)) rfl (nl (.thn (k7 _ _ (.ret (rt1 (.inl rfl) Tryz.results74 rfl (.tmp (Has.t' rfl ?_) .nil))))))))))))
   all_goals (exact isI_eq (by rw [← sgn_of hc1, if_neg (by rw [HM]; decide)]))
theorem zint_Cmp {m n : Bool} {xs ys : List Nat} (hx : (List.length (words (val xs))) < 4294700000) (hy : (List.length (words (val ys))) < 4294700000) : Ctr Tryz.prog 75 [Flat [isB m, isWords xs], Flat [isB n, isWords ys]] (isI (cmpZ (zv m xs) (zv n ys))) := by
 refine Ctr.intro Tryz.func75 rfl (by kernel_rfl) Tryz.ntmps75 rfl fun w0 F0 => .cv (Cv.wk (.l [0, 1] rfl)) (.fact (Has.okZ (Has.t (t := 0) rfl)) fun okz0 => .fact (Has.okZ (Has.t (t := 1) rfl)) fun okz1 => .seq fun _ k1 => .region (.box (.t rfl) rfl fun b1 => .box (.t rfl) rfl fun b2 => st (.as (.cI 0 rfl)) rfl (nl (.thn (k1 _ _ (.seq fun _ k2 => .dr (.s [] rfl rfl rfl (.o rfl (.load (.t rfl) (i := 1) rfl ty31 rfl (Ss' := [_, _]) rfl)) (.s [7] rfl rfl rfl (.o rfl (.call (zint_Sign (by first | with_reducible assumption | omega | (simp only [val_words, zv_nf]; omega) | (simp only [val_words]; exact Nat.le_trans (nw_small' (by omega)) (by decide)))) (.cons (.t rfl) .nil))) ?_))))))))
 refine .s [] rfl rfl rfl (.o rfl (.load (.t rfl) (i := 0) rfl ty31 rfl (Ss' := [_, _]) rfl)) (.fin (n := 3) mixed (by kernel_rfl) (by kernel_rfl) (by kernel_rfl) (.cv (Cv.wk (.l [2, 3, 4, 8, 9] rfl)) (st (.call (zint_Sign (by first | with_reducible assumption | omega | (simp only [val_words, zv_nf]; omega) | (simp only [val_words]; exact Nat.le_trans (nw_small' (by omega)) (by decide)))) (.cons (.t rfl) .nil)) rfl ?_)))
 refine st (.as (.t rfl)) rfl (st (.as (.t rfl)) rfl (nl (.thn (k2 _ _ (.seq fun _ k3 => .block (.seq fun _ k4 => .region (st (.mv (.t rfl)) rfl (st (.mv (.t rfl)) rfl (st (.ltI (.t rfl) (.t rfl)) rfl (st (.as (.t rfl)) rfl (nl (.thn (k4 _ _ (.cv (Cv.wk (.l [2, 3, 4, 5, 6, 11] rfl)) (.cond (.t rfl) (fun hc1 => ?_) (fun hc1 => ?_))))))))))))))))
 ·have hc1 := BP.t hc1
  refine .seq fun _ k5 => .region (st (.as (.cI (-1) rfl)) rfl (nl (.thn (k5 _ _ (.ret (.blr (.thr (rt1 (.inl rfl) Tryz.results75 rfl (.tmp (Has.t' rfl ?_) .nil)))))))))
  all_goals (exact isI_eq (cmpZ_lt hc1))
 ·have hc1 := BP.f hc1
  refine .seq fun _ k6 => .region (st (.mv (.t rfl)) rfl (st (.mv (.t rfl)) rfl (st (.gtI (.t rfl) (.t rfl)) rfl (st (.as (.t rfl)) rfl (nl (.thn (k6 _ _ (.cv (Cv.wk (.l [2, 3, 4, 5, 15] rfl)) (.cond (.t rfl) (fun hc2 => ?_) (fun hc2 => ?_))))))))))
  ·have hc2 := BP.t hc2
   refine .seq fun _ k7 => .region (st (.as (.cI 1 rfl)) rfl (nl (.thn (k7 _ _ (.ret (.blr (.thr (rt1 (.inl rfl) Tryz.results75 rfl (.tmp (Has.t' rfl ?_) .nil)))))))))
   all_goals (exact isI_eq (cmpZ_gt hc2))
  ·have hc2 := BP.f hc2
   refine .seq fun _ k8 => .region (st (.mv (.t rfl)) rfl (st (.ltI (.t rfl) (.cI 0 rfl)) rfl (st (.as (.t rfl)) rfl (nl (.thn (k8 _ _ (.cond (.t rfl) (fun hc3 => ?_) (fun hc3 => ?_))))))))
   ·have hc3 := BP.t hc3
    refine .seq fun _ k9 => .region (st (.fieldAddr (.t rfl) fld31_1 ty29) rfl (st (.load1 (.t rfl) (i := 0) rfl ty29 rfl) rfl (st (.fieldAddr (.t rfl) fld31_1 ty29) rfl (st (.load1 (.t rfl) (i := 1) rfl ty29 rfl) rfl (st (.call (nat_Cmp) (.cons (.t rfl) (.cons (.t rfl) .nil))) rfl (st (.as (.t rfl)) rfl (nl (.thn (k9 _ _ (.cv (Cv.wk (.l [2, 3, 4] rfl)) (.ret (.blr (.thr (rt1 (.inl rfl) Tryz.results75 rfl (.tmp (Has.t' rfl ?_) .nil)))))))))))))))
    all_goals (exact isI_eq (cmpZ_neg hc3 (by omega) (by omega)))
   ·have hc3 := BP.f hc3
    refine .skip (.bln (.thn (k3 _ _ (.cv (Cv.wk (.l [2, 3, 4] rfl)) (.seq fun _ k10 => .region (st (.fieldAddr (.t rfl) fld31_1 ty29) rfl (st (.load1 (.t rfl) (i := 1) rfl ty29 rfl) rfl (st (.fieldAddr (.t rfl) fld31_1 ty29) rfl (st (.load1 (.t rfl) (i := 0) rfl ty29 rfl) rfl (st (.call (nat_Cmp) (.cons (.t rfl) (.cons (.t rfl) .nil))) rfl (st (.as (.t rfl)) rfl (nl (.thn (k10 _ _ (.cv (Cv.wk (.l [4] rfl)) (.ret (rt1 (.inl rfl) Tryz.results75 rfl (.tmp (Has.t' rfl ?_) .nil))))))))))))))))))
    all_goals (exact isI_eq (cmpZ_pos (by omega) (by omega) (by omega)))
theorem zint_Same {m n : Bool} {xs ys : List Nat} (hx : (List.length (words (val xs))) < 4294700000) (hy : (List.length (words (val ys))) < 4294700000) : Ctr Tryz.prog 33 [Flat [isB m, isWords xs], Flat [isB n, isWords ys]] (isB (decide (zv m xs = zv n ys))) := by
 refine Ctr.intro Tryz.func33 rfl (by kernel_rfl) Tryz.ntmps33 rfl fun w0 F0 => .cv (Cv.wk (.l [0, 1] rfl)) (.fact (Has.okZ (Has.t (t := 0) rfl)) fun okz0 => .fact (Has.okZ (Has.t (t := 1) rfl)) fun okz1 => .seq fun _ k1 => .region (.box (.t rfl) rfl fun b1 => .box (.t rfl) rfl fun b2 => st (.as (.cB false)) rfl (nl (.thn (k1 _ _ (.seq fun _ k2 => .region (st (.load (.t rfl) (i := 1) rfl ty31 rfl (Ss' := [_, _]) rfl) rfl (st (.load (.t rfl) (i := 0) rfl ty31 rfl (Ss' := [_, _]) rfl) rfl (st (.call (zint_Cmp (by first | with_reducible assumption | omega | (simp only [val_words, zv_nf]; omega) | (simp only [val_words]; exact Nat.le_trans (nw_small' (by omega)) (by decide))) (by first | with_reducible assumption | omega | (simp only [val_words, zv_nf]; omega) | (simp only [val_words]; exact Nat.le_trans (nw_small' (by omega)) (by decide)))) (.cons (.t rfl) (.cons (.t rfl) .nil))) rfl ?_)))))))))
 refine st (.eqI (.t rfl) (.cI 0 rfl)) rfl (st (.as (.t rfl)) rfl (nl (.thn (k2 _ _ (.cv (Cv.wk (.l [4] rfl)) (.ret (rt1 (.inl rfl) Tryz.results33 rfl (.tmp (Has.t' rfl ?_) .nil))))))))
 all_goals (exact isB_eq (cmpZ_eq0 _ _))
theorem zint_Neg {m : Bool} {xs : List Nat} (hx : (List.length (words (val xs))) < 4294900000) : Ctr Tryz.prog 110 [Flat [isB m, isWords xs]] (isZ (-(zv m xs))) := by
 refine Ctr.intro Tryz.func110 rfl (by kernel_rfl) Tryz.ntmps110 rfl fun w0 F0 => .cv (Cv.wk (.l [0] rfl)) (.fact (Has.okZ (Has.t (t := 0) rfl)) fun okz0 => .seq fun _ k1 => .region (.box (.t rfl) rfl fun b1 => .alloc [isB false, SlM isU []] zero31 (fun _ _ => ⟨rfl, nilM _ _, trivial⟩) rfl fun b2 => nl (.thn (k1 _ _ (.seq fun _ k2 => .region (st (.fieldAddr (.t rfl) fld31_1 ty29) rfl (st (.load1 (.t rfl) (i := 1) rfl ty29 rfl) rfl (st (.fieldAddr (.t rfl) fld31_0 ty4) rfl (st (.load1 (.t rfl) (i := 1) rfl ty4 rfl) rfl (st (.not (.t rfl)) rfl (st (.call (zint_From (by first | with_reducible assumption | omega | (simp only [val_words, zv_nf]; omega) | (simp only [val_words]; exact Nat.le_trans (nw_small' (by omega)) (by decide)))) (.cons (.t rfl) (.cons (.t rfl) .nil))) rfl ?_)))))))))))
 refine .store (.t rfl) (.t rfl) (i := 0) rfl ty31 rfl rfl (Ss' := [_, _]) rfl (M' := [(some _, cellM [_, _]), _]) rfl (nl (.thn (k2 _ _ (.cv (Cv.wk (.l [2] rfl)) (.ret (rt1 (.inl rfl) Tryz.results110 rfl (.cell rfl (i := 0) rfl ty31 rfl ?_ .nil)))))))
 ·exact isZ_eq (zv_not m xs)
theorem zint_Abs {m : Bool} {xs : List Nat} (hx : (List.length (words (val xs))) < 4294900000) : Ctr Tryz.prog 125 [Flat [isB m, isWords xs]] (isZ (((zv m xs).natAbs : Nat) : Int)) := by
 refine Ctr.intro Tryz.func125 rfl (by kernel_rfl) Tryz.ntmps125 rfl fun w0 F0 => .cv (Cv.wk (.l [0] rfl)) (.fact (Has.okZ (Has.t (t := 0) rfl)) fun okz0 => .seq fun _ k1 => .region (.box (.t rfl) rfl fun b1 => .alloc [isB false, SlM isU []] zero31 (fun _ _ => ⟨rfl, nilM _ _, trivial⟩) rfl fun b2 => nl (.thn (k1 _ _ (.seq fun _ k2 => .region (st (.fieldAddr (.t rfl) fld31_1 ty29) rfl (st (.load1 (.t rfl) (i := 1) rfl ty29 rfl) rfl (st (.call (zint_From (by first | with_reducible assumption | omega | (simp only [val_words, zv_nf]; omega) | (simp only [val_words]; exact Nat.le_trans (nw_small' (by omega)) (by decide)))) (.cons (.t rfl) (.cons (.cB false) .nil))) rfl ?_))))))))
 refine .store (.t rfl) (.t rfl) (i := 0) rfl ty31 rfl rfl (Ss' := [_, _]) rfl (M' := [(some _, cellM [_, _]), _]) rfl (nl (.thn (k2 _ _ (.cv (Cv.wk (.l [2] rfl)) (.ret (rt1 (.inl rfl) Tryz.results125 rfl (.cell rfl (i := 0) rfl ty31 rfl ?_ .nil)))))))
 ·exact isZ_eq (by rw [zv_abs]; exact zv_false xs)
theorem zint_Add {m n : Bool} {xs ys : List Nat} (hx : (List.length (words (val xs))) < 4294700000) (hy : (List.length (words (val ys))) < 4294700000) : Ctr Tryz.prog 113 [Flat [isB m, isWords xs], Flat [isB n, isWords ys]] (isZ (zv m xs + zv n ys)) := by
 refine Ctr.intro Tryz.func113 rfl (by kernel_rfl) Tryz.ntmps113 rfl fun w0 F0 => .cv (Cv.wk (.l [0, 1] rfl)) (.fact (Has.okZ (Has.t (t := 0) rfl)) fun okz0 => .fact (Has.okZ (Has.t (t := 1) rfl)) fun okz1 => ?_)
 have ha := nw_add_le (val xs) (val ys)
 have hb := nw_mono (Nat.sub_le (val xs) (val ys))
 have hd := nw_mono (Nat.sub_le (val ys) (val xs))
 refine .seq fun _ k1 => .region (.box (.t rfl) rfl fun b1 => .box (.t rfl) rfl fun b2 => .alloc [isB false, SlM isU []] zero31 (fun _ _ => ⟨rfl, nilM _ _, trivial⟩) rfl fun b3 => nl (.thn (k1 _ _ (.seq fun _ k2 => .seq fun _ k3 => .region (st (.fieldAddr (.t rfl) fld31_0 ty4) rfl (st (.load1 (.t rfl) (i := 2) rfl ty4 rfl) rfl (st (.fieldAddr (.t rfl) fld31_0 ty4) rfl (st (.load1 (.t rfl) (i := 1) rfl ty4 rfl) rfl (st (.eqB (du := un4) rfl (.t rfl) (.t rfl)) rfl (nl (.thn (k3 _ _ (.cv (Cv.wk (.l [2, 3, 4, 13] rfl)) (.cond (.t rfl) (fun hc1 => ?_) (fun hc1 => ?_)))))))))))))))
 ·have hc1 := BP.t hc1
  have HM : m = n := eq_of_beq hc1
  refine .seq fun _ k4 => .dr (.s [] rfl rfl rfl (.o rfl (.fieldAddr (.t rfl) fld31_1 ty29)) (.s [14] rfl rfl rfl (.o rfl (.load1 (.t rfl) (i := 2) rfl ty29 rfl)) (.s [] rfl rfl rfl (.o rfl (.fieldAddr (.t rfl) fld31_1 ty29)) (.s [16] rfl rfl rfl (.o rfl (.load1 (.t rfl) (i := 1) rfl ty29 rfl)) (.s [15, 17] rfl rfl rfl (.o rfl (.call (nat_Add (by first | with_reducible assumption | omega | (simp only [val_words, zv_nf]; omega) | (simp only [val_words]; exact Nat.le_trans (nw_small' (by omega)) (by decide))) (by first | with_reducible assumption | omega | (simp only [val_words, zv_nf]; omega) | (simp only [val_words]; exact Nat.le_trans (nw_small' (by omega)) (by decide)))) (.cons (.t rfl) (.cons (.t rfl) .nil)))) ?_)))))
  refine .s [] rfl rfl rfl (.o rfl (.fieldAddr (.t rfl) fld31_0 ty4)) (.s [19] rfl rfl rfl (.o rfl (.load1 (.t rfl) (i := 2) rfl ty4 rfl)) (.fin (n := 7) mixed (by kernel_rfl) (by kernel_rfl) (by kernel_rfl) (.cv (Cv.wk (.l [2, 3, 4, 18, 20] rfl)) (st (.call (zint_From (by first | with_reducible assumption | omega | (simp only [val_words, zv_nf]; omega) | (simp only [val_words]; exact Nat.le_trans (nw_small' (by omega)) (by decide)))) (.cons (.t rfl) (.cons (.t rfl) .nil))) rfl ?_))))
  refine .store (.t rfl) (.t rfl) (i := 0) rfl ty31 rfl rfl (Ss' := [_, _]) rfl (M' := [(some _, cellM [_, _]), _, _]) rfl (nl (.thn (k4 _ _ (.ret (.thr (rt1 (.inl rfl) Tryz.results113 rfl (.cell rfl (i := 0) rfl ty31 rfl ?_ .nil)))))))
  ·exact isZ_eq (zv_add_same HM xs ys).symm
 ·have hc1 := BP.f hc1
  have HM : m ≠ n := fun e => by rw [e] at hc1; simp at hc1
  refine .skip (.thn (k2 _ _ (.seq fun _ k5 => .seq fun _ k6 => .region (st (.fieldAddr (.t rfl) fld31_1 ty29) rfl (st (.load1 (.t rfl) (i := 2) rfl ty29 rfl) rfl (st (.fieldAddr (.t rfl) fld31_1 ty29) rfl (st (.load1 (.t rfl) (i := 1) rfl ty29 rfl) rfl (st (.call (nat_Sub (by first | with_reducible assumption | omega | (simp only [val_words, zv_nf]; omega) | (simp only [val_words]; exact Nat.le_trans (nw_small' (by omega)) (by decide)))) (.cons (.t rfl) (.cons (.t rfl) .nil))) rfl ?_))))))))
  refine st (.mv (.t rfl)) rfl (st (.ext (.t rfl) rfl) rfl (st (.ext (.t rfl) rfl) rfl (st (.as (.t rfl)) rfl (st (.as (.t rfl)) rfl (nl (.thn (k6 _ _ (.cv (Cv.wk (.l [2, 3, 4, 5, 6] rfl)) (.seq fun _ k7 => .region (st (.mv (.t rfl)) rfl (nl (.thn (k7 _ _ (.cond (.t rfl) (fun hc2 => ?_) (fun hc2 => ?_)))))))))))))))
  ·have hc2 := BP.t hc2
   have HL : val ys ≤ val xs := hc2
   refine .seq fun _ k8 => .region (st (.mv (.t rfl)) rfl (st (.fieldAddr (.t rfl) fld31_0 ty4) rfl (st (.load1 (.t rfl) (i := 2) rfl ty4 rfl) rfl (st (.call (zint_From (by first | with_reducible assumption | omega | (simp only [val_words, zv_nf]; omega) | (simp only [val_words]; exact Nat.le_trans (nw_small' (by omega)) (by decide)))) (.cons (.t rfl) (.cons (.t rfl) .nil))) rfl ?_))))
   refine .store (.t rfl) (.t rfl) (i := 0) rfl ty31 rfl rfl (Ss' := [_, _]) rfl (M' := [(some _, cellM [_, _]), _, _]) rfl (nl (.thn (k8 _ _ (.cv (Cv.wk (.l [2, 3, 4] rfl)) (.ret (.thr (rt1 (.inl rfl) Tryz.results113 rfl (.cell rfl (i := 0) rfl ty31 rfl ?_ .nil))))))))
   ·exact isZ_eq (zv_add_sub HM HL).symm
  ·have hc2 := BP.f hc2
   have HL : ¬ val ys ≤ val xs := (by omega)
   refine .skip (.thn (k5 _ _ (.seq fun _ k9 => .region (st (.fieldAddr (.t rfl) fld31_1 ty29) rfl (st (.load1 (.t rfl) (i := 1) rfl ty29 rfl) rfl (st (.fieldAddr (.t rfl) fld31_1 ty29) rfl (st (.load1 (.t rfl) (i := 2) rfl ty29 rfl) rfl (st (.call (nat_Sub (by first | with_reducible assumption | omega | (simp only [val_words, zv_nf]; omega) | (simp only [val_words]; exact Nat.le_trans (nw_small' (by omega)) (by decide)))) (.cons (.t rfl) (.cons (.t rfl) .nil))) rfl ?_))))))))
   refine st (.mv (.t rfl)) rfl (st (.ext (.t rfl) rfl) rfl (st (.ext (.t rfl) rfl) rfl (st (.as (.t rfl)) rfl (st (.as (.t rfl)) rfl (nl (.thn (k9 _ _ (.cv (Cv.wk (.l [3, 4, 7] rfl)) (.seq fun _ k10 => .region (st (.mv (.t rfl)) rfl (st (.fieldAddr (.t rfl) fld31_0 ty4) rfl (st (.load1 (.t rfl) (i := 1) rfl ty4 rfl) rfl (st (.call (zint_From (by first | with_reducible assumption | omega | (simp only [val_words, zv_nf]; omega) | (simp only [val_words]; exact Nat.le_trans (nw_small' (by omega)) (by decide)))) (.cons (.t rfl) (.cons (.t rfl) .nil))) rfl ?_)))))))))))))
   refine .store (.t rfl) (.t rfl) (i := 0) rfl ty31 rfl rfl (Ss' := [_, _]) rfl (M' := [(some _, cellM [_, _]), _, _]) rfl (nl (.thn (k10 _ _ (.cv (Cv.wk (.l [4] rfl)) (.ret (rt1 (.inl rfl) Tryz.results113 rfl (.cell rfl (i := 0) rfl ty31 rfl ?_ .nil)))))))
   ·exact isZ_eq (by rw [Int.add_comm]; exact (zv_add_sub (fun e => HM e.symm) (by omega)).symm)
theorem zint_Sub {m n : Bool} {xs ys : List Nat} (hx : (List.length (words (val xs))) < 4294700000) (hy : (List.length (words (val ys))) < 4294700000) : Ctr Tryz.prog 101 [Flat [isB m, isWords xs], Flat [isB n, isWords ys]] (isZ (zv m xs - zv n ys)) := by
 refine Ctr.intro Tryz.func101 rfl (by kernel_rfl) Tryz.ntmps101 rfl fun w0 F0 => .cv (Cv.wk (.l [0, 1] rfl)) (.fact (Has.okZ (Has.t (t := 0) rfl)) fun okz0 => .fact (Has.okZ (Has.t (t := 1) rfl)) fun okz1 => .seq fun _ k1 => .region (.box (.t rfl) rfl fun b1 => .box (.t rfl) rfl fun b2 => .alloc [isB false, SlM isU []] zero31 (fun _ _ => ⟨rfl, nilM _ _, trivial⟩) rfl fun b3 => nl (.thn (k1 _ _ (.seq fun _ k2 => .dr (.s [] rfl rfl rfl (.o rfl (.load (.t rfl) (i := 2) rfl ty31 rfl (Ss' := [_, _]) rfl)) (.s [] rfl rfl rfl (.o rfl (.load (.t rfl) (i := 1) rfl ty31 rfl (Ss' := [_, _]) rfl)) (.s [6] rfl rfl rfl (.o rfl (.call (zint_Neg (by first | with_reducible assumption | omega | (simp only [val_words, zv_nf]; omega) | (simp only [val_words]; exact Nat.le_trans (nw_small' (by omega)) (by decide)))) (.cons (.t rfl) .nil))) ?_))))))))
 refine .fin (n := 3) mixed (by kernel_rfl) (by kernel_rfl) (by kernel_rfl) (.cv (Cv.wk (.l [4, 5, 7] rfl)) (st (.call (zint_Add (by omega) (by simp only [val_words]; rw [Int.natAbs_neg, zv_abs]; omega)) (.cons (.t rfl) (.cons (.t rfl) .nil))) rfl ?_))
 refine .store (.t rfl) (.t rfl) (i := 0) rfl ty31 rfl rfl (Ss' := [_, _]) rfl (M' := [(some _, cellM [_, _]), _, _]) rfl (nl (.thn (k2 _ _ (.ret (rt1 (.inl rfl) Tryz.results101 rfl (.cell rfl (i := 0) rfl ty31 rfl ?_ .nil))))))
 ·exact isZ_eq (by rw [zv_nf]; omega)
theorem zint_Mul {m n : Bool} {xs ys : List Nat} (hx : (List.length (words (val xs))) ≤ 1000000000) (hy : (List.length (words (val ys))) ≤ 1000000000) : Ctr Tryz.prog 114 [Flat [isB m, isWords xs], Flat [isB n, isWords ys]] (isZ (zv m xs * zv n ys)) := by
 refine Ctr.intro Tryz.func114 rfl (by kernel_rfl) Tryz.ntmps114 rfl fun w0 F0 => .cv (Cv.wk (.l [0, 1] rfl)) (.fact (Has.okZ (Has.t (t := 0) rfl)) fun okz0 => .fact (Has.okZ (Has.t (t := 1) rfl)) fun okz1 => ?_)
 have hm := nw_mul_le (val xs) (val ys)
 refine .seq fun _ k1 => .region (.box (.t rfl) rfl fun b1 => .box (.t rfl) rfl fun b2 => .alloc [isB false, SlM isU []] zero31 (fun _ _ => ⟨rfl, nilM _ _, trivial⟩) rfl fun b3 => nl (.thn (k1 _ _ (.seq fun _ k2 => .dr (.s [] rfl rfl rfl (.o rfl (.fieldAddr (.t rfl) fld31_1 ty29)) (.s [5] rfl rfl rfl (.o rfl (.load1 (.t rfl) (i := 2) rfl ty29 rfl)) (.s [] rfl rfl rfl (.o rfl (.fieldAddr (.t rfl) fld31_1 ty29)) (.s [7] rfl rfl rfl (.o rfl (.load1 (.t rfl) (i := 1) rfl ty29 rfl)) (.s [6, 8] rfl rfl rfl (.o rfl (.call (mul_Mul hx hy) (.cons (.t rfl) (.cons (.t rfl) .nil)))) (.s [] rfl rfl rfl (.o rfl (.fieldAddr (.t rfl) fld31_0 ty4)) (.s [10] rfl rfl rfl (.o rfl (.load1 (.t rfl) (i := 2) rfl ty4 rfl)) (.s [] rfl rfl rfl (.o rfl (.fieldAddr (.t rfl) fld31_0 ty4)) (.s [12] rfl rfl rfl (.o rfl (.load1 (.t rfl) (i := 1) rfl ty4 rfl)) (.s [11, 13] rfl rfl rfl (.o rfl (.neB (du := un4) rfl (.t rfl) (.t rfl))) (.fin (n := 10) mixed (by kernel_rfl) (by kernel_rfl) (by kernel_rfl) (.cv (Cv.wk (.l [4, 9, 14] rfl)) (st (.call (zint_From (by first | with_reducible assumption | omega | (simp only [val_words, zv_nf]; omega) | (simp only [val_words]; exact Nat.le_trans (nw_small' (by omega)) (by decide)))) (.cons (.t rfl) (.cons (.t rfl) .nil))) rfl ?_)))))))))))))))))
 refine .store (.t rfl) (.t rfl) (i := 0) rfl ty31 rfl rfl (Ss' := [_, _]) rfl (M' := [(some _, cellM [_, _]), _, _]) rfl (nl (.thn (k2 _ _ (.ret (rt1 (.inl rfl) Tryz.results114 rfl (.cell rfl (i := 0) rfl ty31 rfl ?_ .nil))))))
 ·exact isZ_eq (zv_mul m n xs ys).symm
theorem zint_Quo {m n : Bool} {xs ys : List Nat} (hx : (List.length (words (val xs))) < 4294700000) (hy : (List.length (words (val ys))) < 4294700000) : Ctr Tryz.prog 190 [Flat [isB m, isWords xs], Flat [isB n, isWords ys]] (isTup [isZ ((zv m xs).tdiv (zv n ys)), isZ (if zv n ys = 0 then 0 else (zv m xs).tmod (zv n ys)), isB (decide (zv n ys ≠ 0))]) := by
 refine Ctr.intro Tryz.func190 rfl (by kernel_rfl) Tryz.ntmps190 rfl fun w0 F0 => .cv (Cv.wk (.l [0, 1] rfl)) (.fact (Has.okZ (Has.t (t := 0) rfl)) fun okz0 => .fact (Has.okZ (Has.t (t := 1) rfl)) fun okz1 => ?_)
 have ha := nw_mono (Nat.div_le_self (val xs) (val ys))
 have hb : (List.length (words (if val ys = 0 then 0 else val xs % val ys))) ≤ (List.length (words (val xs))) := nw_mono (by split; exact Nat.zero_le _; exact Nat.mod_le _ _)
 refine .seq fun _ k1 => .region (.box (.t rfl) rfl fun b1 => .box (.t rfl) rfl fun b2 => .alloc [isB false, SlM isU []] zero31 (fun _ _ => ⟨rfl, nilM _ _, trivial⟩) rfl fun b3 => .alloc [isB false, SlM isU []] zero31 (fun _ _ => ⟨rfl, nilM _ _, trivial⟩) rfl fun b4 => st (.as (.cB false)) rfl (nl (.thn (k1 _ _ (.seq fun _ k2 => .region (st (.fieldAddr (.t rfl) fld31_1 ty29) rfl (st (.load1 (.t rfl) (i := 3) rfl ty29 rfl) rfl (st (.fieldAddr (.t rfl) fld31_1 ty29) rfl (st (.load1 (.t rfl) (i := 2) rfl ty29 rfl) rfl (st (.call (div_DivMod (by first | with_reducible assumption | omega | (simp only [val_words, zv_nf]; omega) | (simp only [val_words]; exact Nat.le_trans (nw_small' (by omega)) (by decide))) (by first | with_reducible assumption | omega | (simp only [val_words, zv_nf]; omega) | (simp only [val_words]; exact Nat.le_trans (nw_small' (by omega)) (by decide)))) (.cons (.t rfl) (.cons (.t rfl) .nil))) rfl ?_))))))))))
 refine st (.mv (.t rfl)) rfl (st (.ext (.t rfl) rfl) rfl (st (.ext (.t rfl) rfl) rfl (st (.ext (.t rfl) rfl) rfl (st (.as (.t rfl)) rfl (st (.as (.t rfl)) rfl (st (.as (.t rfl)) rfl (nl (.thn (k2 _ _ (.cv (Cv.wk (.l [2, 3, 4, 5, 6, 7, 8, 9] rfl)) (.seq fun _ k3 => .drh [false, false, true, true] (Ms := [_, _]) rfl (.s [] rfl rfl rfl (.o rfl (.mv (.t rfl))) (.s [] rfl rfl rfl (.o rfl (.fieldAddr (.t rfl) fld31_0 ty4)) (.s [20] rfl rfl rfl (.o rfl (.load1 (.t rfl) (i := 1) rfl ty4 rfl)) (.s [] rfl rfl rfl (.o rfl (.fieldAddr (.t rfl) fld31_0 ty4)) (.s [22] rfl rfl rfl (.o rfl (.load1 (.t rfl) (i := 0) rfl ty4 rfl)) (.s [21, 23] rfl rfl rfl (.o rfl (.neB (du := un4) rfl (.t rfl) (.t rfl))) (.s [19, 24] rfl rfl rfl (.o rfl (.call (zint_From (by first | with_reducible assumption | omega | (simp only [val_words, zv_nf]; omega) | (simp only [val_words]; exact Nat.le_trans (nw_small' (by omega)) (by decide)))) (.cons (.t rfl) (.cons (.t rfl) .nil)))) ?_))))))))))))))))))
 refine .s [] rfl rfl rfl (.o rfl (.mv (.t rfl))) (.s [] rfl rfl rfl (.o rfl (.fieldAddr (.t rfl) fld31_0 ty4)) (.s [27] rfl rfl rfl (.o rfl (.load1 (.t rfl) (i := 1) rfl ty4 rfl)) (.s [26, 28] rfl rfl rfl (.o rfl (.call (zint_From (by first | with_reducible assumption | omega | (simp only [val_words, zv_nf]; omega) | (simp only [val_words]; exact Nat.le_trans (nw_small' (by omega)) (by decide)))) (.cons (.t rfl) (.cons (.t rfl) .nil)))) ?_)))
 refine .s [] rfl rfl rfl (.o rfl (.mv (.t rfl))) (.mid (.cons _ (.cons _ (.cons_cons _ (.cons_cons _ .slnil)))) (.st [25] rfl rfl (by kernel_rfl) (by kernel_rfl) (StS.store (.t rfl) (.t rfl) (i := 1) rfl ty31 rfl rfl (Ss' := [_, _]) rfl (M' := [_, (some _, cellM [_, _]), _, _]) rfl) (.cons _ (.cons _ (.cons_cons _ (.cons_cons _ .slnil)))) (.st [29] rfl rfl (by kernel_rfl) (by kernel_rfl) (StS.store (.t rfl) (.t rfl) (i := 0) rfl ty31 rfl rfl (Ss' := [_, _]) rfl (M' := [(some _, cellM [_, _]), _, _, _]) rfl) (.cons _ (.cons _ (.cons_cons _ (.cons_cons _ .slnil)))) (.fin (n := 14) mixed rfl (by kernel_rfl) (by kernel_rfl) (by kernel_rfl) (.cv (Cv.wk (.l [4, 5, 6, 30] rfl)) (st (.as (.t rfl)) rfl (nl (.thn (k3 _ _ (.ret (rtN (.inl rfl) Tryz.results190 rfl rfl (.cell rfl (i := 1) rfl ty31 rfl ?_ (.cell rfl (i := 0) rfl ty31 rfl ?_ (.tmp (Has.t' rfl ?_) .nil))))))))))))))
 ·exact isZ_eq (zv_tdiv m n xs ys).symm
 ·exact isZ_eq (quo_rest m n xs ys)
 ·exact isB_eq (ne_zv n ys)
theorem zint_one  : Ctr Tryz.prog 258 [] (isZ 1) := by
 refine Ctr.intro Tryz.func258 rfl (by kernel_rfl) Tryz.ntmps258 rfl fun w0 F0 => .cv (Cv.wk .nil) (.seq fun _ k1 => .region (.alloc [isB false, SlM isU []] zero31 (fun _ _ => ⟨rfl, nilM _ _, trivial⟩) rfl fun b1 => nl (.thn (k1 _ _ (.seq fun _ k2 => .region (st (.call (zint_Of) (.cons (.cI 1 rfl) .nil)) rfl (.store (.t rfl) (.t rfl) (i := 0) rfl ty31 rfl rfl (Ss' := [_, _]) rfl (M' := [(some _, cellM [_, _])]) rfl (nl (.thn (k2 _ _ (.ret (rt1 (.inl rfl) Tryz.results258 rfl (.cell rfl (i := 0) rfl ty31 rfl ?_ .nil)))))))))))))
 all_goals (rfl)
theorem zint_Euclid {m n : Bool} {xs ys : List Nat} (hx : (List.length (words (val xs))) < 4294700000) (hy : (List.length (words (val ys))) < 4294700000) : Ctr Tryz.prog 223 [Flat [isB m, isWords xs], Flat [isB n, isWords ys]] (isTup [isZ (zv m xs / zv n ys), isZ (if zv n ys = 0 then 0 else zv m xs % zv n ys), isB (decide (zv n ys ≠ 0))]) := by
 refine Ctr.intro Tryz.func223 rfl (by kernel_rfl) Tryz.ntmps223 rfl fun w0 F0 => .cv (Cv.wk (.l [0, 1] rfl)) (.fact (Has.okZ (Has.t (t := 0) rfl)) fun okz0 => .fact (Has.okZ (Has.t (t := 1) rfl)) fun okz1 => ?_)
 have ha := nz_tdiv (zv m xs) (zv n ys)
 have hb := nz_if (zv m xs) (zv n ys)
 have hxx := zv_nw m xs
 have hyy := zv_nw n ys
 have h1 := nz_one
 refine .seq fun _ k1 => .region (.box (.t rfl) rfl fun b1 => .box (.t rfl) rfl fun b2 => .alloc [isB false, SlM isU []] zero31 (fun _ _ => ⟨rfl, nilM _ _, trivial⟩) rfl fun b3 => .alloc [isB false, SlM isU []] zero31 (fun _ _ => ⟨rfl, nilM _ _, trivial⟩) rfl fun b4 => st (.as (.cB false)) rfl (nl (.thn (k1 _ _ (.seq fun _ k2 => .region (st (.load (.t rfl) (i := 3) rfl ty31 rfl (Ss' := [_, _]) rfl) rfl (st (.load (.t rfl) (i := 2) rfl ty31 rfl (Ss' := [_, _]) rfl) rfl (st (.call (zint_Quo (by first | with_reducible assumption | omega | (simp only [val_words, zv_nf]; omega) | (simp only [val_words]; exact Nat.le_trans (nw_small' (by omega)) (by decide))) (by first | with_reducible assumption | omega | (simp only [val_words, zv_nf]; omega) | (simp only [val_words]; exact Nat.le_trans (nw_small' (by omega)) (by decide)))) (.cons (.t rfl) (.cons (.t rfl) .nil))) rfl ?_))))))))
 refine st (.mv (.t rfl)) rfl (st (.ext (.t rfl) rfl) rfl (st (.ext (.t rfl) rfl) rfl (st (.ext (.t rfl) rfl) rfl (.alloc [isB false, SlM isU []] zero31 (fun _ _ => ⟨rfl, nilM _ _, trivial⟩) rfl fun b5 => .alloc [isB false, SlM isU []] zero31 (fun _ _ => ⟨rfl, nilM _ _, trivial⟩) rfl fun b6 => .store (.t rfl) (.t rfl) (i := 1) rfl ty31 rfl rfl (Ss' := [_, _]) rfl (M' := [_, (some _, cellM [_, _]), _, _, _, _]) rfl (.store (.t rfl) (.t rfl) (i := 0) rfl ty31 rfl rfl (Ss' := [_, _]) rfl (M' := [(some _, cellM [_, _]), _, _, _, _, _]) rfl (st (.as (.t rfl)) rfl (nl (.thn (k2 _ _ (.cv (Cv.wk (.l [3, 4, 5, 6, 7, 8, 9] rfl)) (.seq fun _ k3 => .block (.seq fun _ k4 => .region (st (.mv (.t rfl)) rfl (st (.not (.t rfl)) rfl (st (.mv (.t rfl)) rfl ?_)))))))))))))))
 refine stF rfl rfl (fun hg => have hg' := BP.t hg; OK1.load (.t rfl) (i := 0) rfl ty31 rfl (Ss' := [_, _]) rfl) rfl ?_
 refine stF rfl rfl (fun hg => have hg' := BP.t hg; OK1.eq (.call (zint_Sign (by first | with_reducible assumption | omega | (simp only [val_words, zv_nf]; omega) | (simp only [val_words]; exact Nat.le_trans (nw_small' (by omega)) (by decide)))) (.cons (Has.g rfl hg) .nil)) (by first | (simp only [val_words, zv_nf]; rfl) | rfl)) rfl ?_
 refine stF rfl rfl (fun hg => have hg' := BP.t hg; OK1.geI (Has.g rfl hg) (.cI 0 rfl)) rfl ?_
 refine st (.pickOr (.t rfl) (fun h => Has.g rfl (ng h))) rfl (st (.as (.t rfl)) rfl (nl (.thn (k4 _ _ (.cv (Cv.wk (.l [3, 4, 5, 6, 7, 8, 9, 17] rfl)) (.cond (.t rfl) (fun hc1 => ?_) (fun hc1 => ?_)))))))
 ·have hc1 := BP.t hc1
  have HE := euc0 hc1
  refine .seq fun _ k5 => .drh [true, true, false, false, true, true] (Ms := [_, _, _, _]) rfl (.s [] rfl rfl rfl (.o rfl (.load (.t rfl) (i := 1) rfl ty31 rfl (Ss' := [_, _]) rfl)) (.s [] rfl rfl rfl (.o rfl (.load (.t rfl) (i := 0) rfl ty31 rfl (Ss' := [_, _]) rfl)) (.s [] rfl rfl rfl (.o rfl (.mv (.t rfl))) (.mid (.cons_cons _ (.cons_cons _ (.cons _ (.cons _ (.cons_cons _ (.cons_cons _ .slnil)))))) (.st [25] rfl rfl (by kernel_rfl) (by kernel_rfl) (StS.store (.t rfl) (.t rfl) (i := 3) rfl ty31 rfl rfl (Ss' := [_, _]) rfl (M' := [_, _, _, (some _, cellM [_, _]), _, _]) rfl) (.cons_cons _ (.cons_cons _ (.cons _ (.cons _ (.cons_cons _ (.cons_cons _ .slnil)))))) (.st [26] rfl rfl (by kernel_rfl) (by kernel_rfl) (StS.store (.t rfl) (.t rfl) (i := 2) rfl ty31 rfl rfl (Ss' := [_, _]) rfl (M' := [_, _, (some _, cellM [_, _]), _, _, _]) rfl) (.cons_cons _ (.cons_cons _ (.cons _ (.cons _ (.cons_cons _ (.cons_cons _ .slnil)))))) (.fin (n := 5) mixed rfl (by kernel_rfl) (by kernel_rfl) (by kernel_rfl) (.cv (Cv.wk (.l [3, 4, 5, 6, 7, 8, 27] rfl)) (st (.as (.t rfl)) rfl (nl (.thn (k5 _ _ (.ret (.blr (.thr (rtN (.inl rfl) Tryz.results223 rfl rfl (.cell rfl (i := 3) rfl ty31 rfl ?_ (.cell rfl (i := 2) rfl ty31 rfl ?_ (.tmp (Has.t' rfl ?_) .nil)))))))))))))))))))
  ·exact isZ_eq HE.1
  ·exact isZ_eq HE.2
  ·rfl
 ·have hc1 := BP.f hc1
  have HE := hc1
  refine .seq fun _ k6 => .region (st (.load (.t rfl) (i := 4) rfl ty31 rfl (Ss' := [_, _]) rfl) rfl (st (.call (zint_Sign (by first | with_reducible assumption | omega | (simp only [val_words, zv_nf]; omega) | (simp only [val_words]; exact Nat.le_trans (nw_small' (by omega)) (by decide)))) (.cons (.t rfl) .nil)) rfl ?_))
  refine st (.gtI (.t rfl) (.cI 0 rfl)) rfl (st (.as (.t rfl)) rfl (nl (.thn (k6 _ _ (.cv (Cv.wk (.l [3, 4, 5, 6, 7, 8, 28] rfl)) (.cond (.t rfl) (fun hc2 => ?_) (fun hc2 => ?_)))))))
  ·have hc2 := BP.t hc2
   have HE2 := euc1 HE hc2
   refine .seq fun _ k7 => .dr (.s [] rfl rfl rfl (.o rfl (.load (.t rfl) (i := 1) rfl ty31 rfl (Ss' := [_, _]) rfl)) (.s [] rfl rfl rfl (.o rfl (.call (zint_one) .nil)) (.s [32, 33] rfl rfl rfl (.o rfl (.eq (.call (zint_Sub (by first | with_reducible assumption | omega | (simp only [val_words, zv_nf]; omega) | (simp only [val_words]; exact Nat.le_trans (nw_small' (by omega)) (by decide))) (by first | with_reducible assumption | omega | (simp only [val_words, zv_nf]; omega) | (simp only [val_words]; exact Nat.le_trans (nw_small' (by omega)) (by decide)))) (.cons (.t rfl) (.cons (.t rfl) .nil))) (by first | (simp only [val_words, zv_nf]; rfl) | rfl))) ?_)))
   refine .s [] rfl rfl rfl (.o rfl (.load (.t rfl) (i := 0) rfl ty31 rfl (Ss' := [_, _]) rfl)) (.s [] rfl rfl rfl (.o rfl (.load (.t rfl) (i := 4) rfl ty31 rfl (Ss' := [_, _]) rfl)) (.fin (n := 5) mixed (by kernel_rfl) (by kernel_rfl) (by kernel_rfl) (.cv (Cv.wk (.l [3, 4, 5, 6, 7, 8, 34, 35, 36] rfl)) (st (.eq (.call (zint_Add (by first | with_reducible assumption | omega | (simp only [val_words, zv_nf]; omega) | (simp only [val_words]; exact Nat.le_trans (nw_small' (by omega)) (by decide))) (by first | with_reducible assumption | omega | (simp only [val_words, zv_nf]; omega) | (simp only [val_words]; exact Nat.le_trans (nw_small' (by omega)) (by decide)))) (.cons (.t rfl) (.cons (.t rfl) .nil))) (by first | (simp only [val_words, zv_nf]; rfl) | rfl)) rfl ?_))))
   refine .store (.t rfl) (.t rfl) (i := 3) rfl ty31 rfl rfl (Ss' := [_, _]) rfl (M' := [_, _, _, (some _, cellM [_, _]), _, _]) rfl (.store (.t rfl) (.t rfl) (i := 2) rfl ty31 rfl rfl (Ss' := [_, _]) rfl (M' := [_, _, (some _, cellM [_, _]), _, _, _]) rfl (st (.as (.cB true)) rfl (nl (.thn (k7 _ _ (.ret (.blr (.thr (rtN (.inl rfl) Tryz.results223 rfl rfl (.cell rfl (i := 3) rfl ty31 rfl ?_ (.cell rfl (i := 2) rfl ty31 rfl ?_ (.tmp (Has.t' rfl ?_) .nil))))))))))))
   ·exact isZ_eq HE2.1
   ·exact isZ_eq HE2.2
   ·exact isB_eq (decide_eq_true HE.1).symm
  ·have hc2 := BP.f hc2
   have HE2 := euc2 HE hc2
   refine .skip (.bln (.thn (k3 _ _ (.seq fun _ k8 => .dr (.s [] rfl rfl rfl (.o rfl (.load (.t rfl) (i := 1) rfl ty31 rfl (Ss' := [_, _]) rfl)) (.s [] rfl rfl rfl (.o rfl (.call (zint_one) .nil)) (.s [38, 39] rfl rfl rfl (.o rfl (.eq (.call (zint_Add (by first | with_reducible assumption | omega | (simp only [val_words, zv_nf]; omega) | (simp only [val_words]; exact Nat.le_trans (nw_small' (by omega)) (by decide))) (by first | with_reducible assumption | omega | (simp only [val_words, zv_nf]; omega) | (simp only [val_words]; exact Nat.le_trans (nw_small' (by omega)) (by decide)))) (.cons (.t rfl) (.cons (.t rfl) .nil))) (by first | (simp only [val_words, zv_nf]; rfl) | rfl))) ?_)))))))
   refine .s [] rfl rfl rfl (.o rfl (.load (.t rfl) (i := 0) rfl ty31 rfl (Ss' := [_, _]) rfl)) (.s [] rfl rfl rfl (.o rfl (.load (.t rfl) (i := 4) rfl ty31 rfl (Ss' := [_, _]) rfl)) (.fin (n := 5) mixed (by kernel_rfl) (by kernel_rfl) (by kernel_rfl) (.cv (Cv.wk (.l [4, 5, 6, 40, 41, 42] rfl)) (st (.eq (.call (zint_Sub (by first | with_reducible assumption | omega | (simp only [val_words, zv_nf]; omega) | (simp only [val_words]; exact Nat.le_trans (nw_small' (by omega)) (by decide))) (by first | with_reducible assumption | omega | (simp only [val_words, zv_nf]; omega) | (simp only [val_words]; exact Nat.le_trans (nw_small' (by omega)) (by decide)))) (.cons (.t rfl) (.cons (.t rfl) .nil))) (by first | (simp only [val_words, zv_nf]; rfl) | rfl)) rfl ?_))))
   refine .store (.t rfl) (.t rfl) (i := 3) rfl ty31 rfl rfl (Ss' := [_, _]) rfl (M' := [_, _, _, (some _, cellM [_, _]), _, _]) rfl (.store (.t rfl) (.t rfl) (i := 2) rfl ty31 rfl rfl (Ss' := [_, _]) rfl (M' := [_, _, (some _, cellM [_, _]), _, _, _]) rfl (st (.as (.cB true)) rfl (nl (.thn (k8 _ _ (.ret (rtN (.inl rfl) Tryz.results223 rfl rfl (.cell rfl (i := 3) rfl ty31 rfl ?_ (.cell rfl (i := 2) rfl ty31 rfl ?_ (.tmp (Has.t' rfl ?_) .nil))))))))))
   ·exact isZ_eq HE2.1
   ·exact isZ_eq HE2.2
   ·exact isB_eq (decide_eq_true HE.1).symm
theorem zint_Exact {m n : Bool} {xs ys : List Nat} (hx : (List.length (words (val xs))) < 4294700000) (hy : (List.length (words (val ys))) < 4294700000) : Ctr Tryz.prog 115 [Flat [isB m, isWords xs], Flat [isB n, isWords ys]] (isTup [isZ (if zv n ys ≠ 0 ∧ (zv m xs).tmod (zv n ys) = 0 then (zv m xs).tdiv (zv n ys) else 0), isB (decide (zv n ys ≠ 0 ∧ (zv m xs).tmod (zv n ys) = 0))]) := by
 refine Ctr.intro Tryz.func115 rfl (by kernel_rfl) Tryz.ntmps115 rfl fun w0 F0 => .cv (Cv.wk (.l [0, 1] rfl)) (.fact (Has.okZ (Has.t (t := 0) rfl)) fun okz0 => .fact (Has.okZ (Has.t (t := 1) rfl)) fun okz1 => ?_)
 have ha := nz_tdiv (zv m xs) (zv n ys)
 have hb := nz_if (zv m xs) (zv n ys)
 have hxx := zv_nw m xs
 have hyy := zv_nw n ys
 have h1 := nz_one
 refine .seq fun _ k1 => .region (.box (.t rfl) rfl fun b1 => .box (.t rfl) rfl fun b2 => .alloc [isB false, SlM isU []] zero31 (fun _ _ => ⟨rfl, nilM _ _, trivial⟩) rfl fun b3 => st (.as (.cB false)) rfl (nl (.thn (k1 _ _ (.seq fun _ k2 => .region (st (.load (.t rfl) (i := 2) rfl ty31 rfl (Ss' := [_, _]) rfl) rfl (st (.load (.t rfl) (i := 1) rfl ty31 rfl (Ss' := [_, _]) rfl) rfl (st (.call (zint_Quo (by first | with_reducible assumption | omega | (simp only [val_words, zv_nf]; omega) | (simp only [val_words]; exact Nat.le_trans (nw_small' (by omega)) (by decide))) (by first | with_reducible assumption | omega | (simp only [val_words, zv_nf]; omega) | (simp only [val_words]; exact Nat.le_trans (nw_small' (by omega)) (by decide)))) (.cons (.t rfl) (.cons (.t rfl) .nil))) rfl ?_))))))))
 refine st (.mv (.t rfl)) rfl (st (.ext (.t rfl) rfl) rfl (st (.ext (.t rfl) rfl) rfl (st (.ext (.t rfl) rfl) rfl (.alloc [isB false, SlM isU []] zero31 (fun _ _ => ⟨rfl, nilM _ _, trivial⟩) rfl fun b4 => .alloc [isB false, SlM isU []] zero31 (fun _ _ => ⟨rfl, nilM _ _, trivial⟩) rfl fun b5 => .store (.t rfl) (.t rfl) (i := 1) rfl ty31 rfl rfl (Ss' := [_, _]) rfl (M' := [_, (some _, cellM [_, _]), _, _, _]) rfl (.store (.t rfl) (.t rfl) (i := 0) rfl ty31 rfl rfl (Ss' := [_, _]) rfl (M' := [(some _, cellM [_, _]), _, _, _, _]) rfl (st (.as (.t rfl)) rfl (nl (.thn (k2 _ _ (.cv (Cv.wk (.l [4, 5, 6, 7, 8] rfl)) (.seq fun _ k3 => .seq fun _ k4 => .region (st (.mv (.t rfl)) rfl (st (.not (.t rfl)) rfl (st (.mv (.t rfl)) rfl ?_))))))))))))))
 refine stF rfl rfl (fun hg => have hg' := BP.t hg; OK1.load (.t rfl) (i := 0) rfl ty31 rfl (Ss' := [_, _]) rfl) rfl ?_
 refine stF rfl rfl (fun hg => have hg' := BP.t hg; OK1.eq (.call (zint_Sign (by first | with_reducible assumption | omega | (simp only [val_words, zv_nf]; omega) | (simp only [val_words]; exact Nat.le_trans (nw_small' (by omega)) (by decide)))) (.cons (Has.g rfl hg) .nil)) (by first | (simp only [val_words, zv_nf]; rfl) | rfl)) rfl ?_
 refine stF rfl rfl (fun hg => have hg' := BP.t hg; OK1.neI (Has.g rfl hg) (.cI 0 rfl)) rfl ?_
 refine st (.pickOr (.t rfl) (fun h => Has.g rfl (ng h))) rfl (nl (.thn (k4 _ _ (.cv (Cv.wk (.l [4, 5, 6, 22] rfl)) (.cond (.t rfl) (fun hc1 => ?_) (fun hc1 => ?_))))))
 ·have hc1 := BP.t hc1
  have HE := ex_no hc1
  refine .seq fun _ k5 => .region (st (.eq (.build [isB false, SlM isU []] pl31 zero31 (fun _ _ => ⟨rfl, nilM _ _, trivial⟩) .nil (Z'' := [_, _]) rfl) (isZ0)) rfl (.store (.t rfl) (.t rfl) (i := 2) rfl ty31 rfl rfl (Ss' := [_, _]) rfl (M' := [_, _, (some _, cellM [_, _]), _, _]) rfl (st (.as (.cB false)) rfl (nl (.thn (k5 _ _ (.ret (.thr (rtN (.inl rfl) Tryz.results115 rfl rfl (.cell rfl (i := 2) rfl ty31 rfl ?_ (.tmp (Has.t' rfl ?_) .nil)))))))))))
  ·exact isZ_eq (if_neg HE).symm
  ·exact isB_eq (decide_eq_false HE).symm
 ·have hc1 := BP.f hc1
  have HE := ex_yes hc1
  refine .skip (.thn (k3 _ _ (.seq fun _ k6 => .region (st (.load (.t rfl) (i := 1) rfl ty31 rfl (Ss' := [_, _]) rfl) rfl (.store (.t rfl) (.t rfl) (i := 2) rfl ty31 rfl rfl (Ss' := [_, _]) rfl (M' := [_, _, (some _, cellM [_, _]), _, _]) rfl (st (.as (.cB true)) rfl (nl (.thn (k6 _ _ (.ret (rtN (.inl rfl) Tryz.results115 rfl rfl (.cell rfl (i := 2) rfl ty31 rfl ?_ (.tmp (Has.t' rfl ?_) .nil)))))))))))))
  ·exact isZ_eq (if_pos HE).symm
  ·exact isB_eq (decide_eq_true HE).symm
theorem zint_cofactor {m n : Bool} {xs ys : List Nat} (hx : (List.length (words (val xs))) ≤ 100000000) (hy : (List.length (words (val ys))) ≤ 100000000) : Ctr Tryz.prog 286 [Flat [isB m, isWords xs], Flat [isB n, isWords ys]] (isTup [isZ (cof (zv m xs) (zv n ys) 1 0).1, isZ (cof (zv m xs) (zv n ys) 1 0).2]) := by
 refine Ctr.intro Tryz.func286 rfl (by kernel_rfl) Tryz.ntmps286 rfl fun w0 F0 => .cv (Cv.wk (.l [0, 1] rfl)) (.fact (Has.okZ (Has.t (t := 0) rfl)) fun okz0 => .fact (Has.okZ (Has.t (t := 1) rfl)) fun okz1 => ?_)
 have hxx := zv_nw m xs
 have hyy := zv_nw n ys
 refine .seq fun _ k1 => .region (.box (.t rfl) rfl fun b1 => .box (.t rfl) rfl fun b2 => .alloc [isB false, SlM isU []] zero31 (fun _ _ => ⟨rfl, nilM _ _, trivial⟩) rfl fun b3 => .alloc [isB false, SlM isU []] zero31 (fun _ _ => ⟨rfl, nilM _ _, trivial⟩) rfl fun b4 => nl (.thn (k1 _ _ (.seq fun _ k2 => .region (st (.call (zint_one) .nil) rfl (st (.eq (.build [isB false, SlM isU []] pl31 zero31 (fun _ _ => ⟨rfl, nilM _ _, trivial⟩) .nil (Z'' := [_, _]) rfl) (isZ0)) rfl (.alloc [isB false, SlM isU []] zero31 (fun _ _ => ⟨rfl, nilM _ _, trivial⟩) rfl fun b5 => .alloc [isB false, SlM isU []] zero31 (fun _ _ => ⟨rfl, nilM _ _, trivial⟩) rfl fun b6 => .store (.t rfl) (.t rfl) (i := 1) rfl ty31 rfl rfl (Ss' := [_, _]) rfl (M' := [_, (some _, cellM [_, _]), _, _, _, _]) rfl (.store (.t rfl) (.t rfl) (i := 0) rfl ty31 rfl rfl (Ss' := [_, _]) rfl (M' := [(some _, cellM [_, _]), _, _, _, _, _]) rfl (nl (.thn (k2 _ _ (.seq fun _ k3 => .dr (.s [] rfl rfl rfl (.o rfl (.fieldAddr (.t rfl) fld31_1 ty29)) (.s [13] rfl rfl rfl (.o rfl (.load1 (.t rfl) (i := 5) rfl ty29 rfl)) (.s [] rfl rfl rfl (.o rfl (.fieldAddr (.t rfl) fld31_0 ty4)) (.s [15] rfl rfl rfl (.o rfl (.load1 (.t rfl) (i := 5) rfl ty4 rfl)) (.s [14, 16] rfl rfl rfl (.o rfl (.call (zint_From (by first | with_reducible assumption | omega | (simp only [val_words, zv_nf]; omega) | (simp only [val_words]; exact Nat.le_trans (nw_small' (by omega)) (by decide)))) (.cons (.t rfl) (.cons (.t rfl) .nil)))) ?_)))))))))))))))))
 refine .s [] rfl rfl rfl (.o rfl (.fieldAddr (.t rfl) fld31_1 ty29)) (.s [18] rfl rfl rfl (.o rfl (.load1 (.t rfl) (i := 4) rfl ty29 rfl)) (.s [] rfl rfl rfl (.o rfl (.fieldAddr (.t rfl) fld31_0 ty4)) (.s [20] rfl rfl rfl (.o rfl (.load1 (.t rfl) (i := 4) rfl ty4 rfl)) (.fin (n := 9) mixed (by kernel_rfl) (by kernel_rfl) (by kernel_rfl) (.cv (Cv.wk (.l [2, 3, 4, 5, 6, 7, 17, 19, 21] rfl)) (st (.call (zint_From (by first | with_reducible assumption | omega | (simp only [val_words, zv_nf]; omega) | (simp only [val_words]; exact Nat.le_trans (nw_small' (by omega)) (by decide)))) (.cons (.t rfl) (.cons (.t rfl) .nil))) rfl ?_))))))
 refine .store (.t rfl) (.t rfl) (i := 5) rfl ty31 rfl rfl (Ss' := [_, _]) rfl (M' := [_, _, _, _, _, (some _, cellM [_, _])]) rfl (.store (.t rfl) (.t rfl) (i := 4) rfl ty31 rfl rfl (Ss' := [_, _]) rfl (M' := [_, _, _, _, (some _, cellM [_, _]), _]) rfl (nl (.thn (k3 _ _ (.seq fun _ k4 => .block (.loopF [2, 3, 4, 5, 6, 7] (fun (z : { z : Int × Int × Int × Int × Nat × Nat // Cf (zv m xs) (zv n ys) z.1 z.2.1 z.2.2.1 z.2.2.2.1 z.2.2.2.2.1 z.2.2.2.2.2 ∧ cof z.1 z.2.1 z.2.2.1 z.2.2.2.1 = cof (zv m xs) (zv n ys) 1 0 }) => match z with | ⟨(a, b, x, nx, X, Y), hI⟩ => []) (fun M => fun (z : { z : Int × Int × Int × Int × Nat × Nat // Cf (zv m xs) (zv n ys) z.1 z.2.1 z.2.2.1 z.2.2.2.1 z.2.2.2.2.1 z.2.2.2.2.2 ∧ cof z.1 z.2.1 z.2.2.1 z.2.2.2.1 = cof (zv m xs) (zv n ys) 1 0 }) => match z with | ⟨(a, b, x, nx, X, Y), hI⟩ => [zM b6 nx, zM b5 x, (some b4, cellM [isB false, SlM isU []]), (some b3, cellM [isB false, SlM isU []]), zM b2 b, zM b1 a]) (fun (z : { z : Int × Int × Int × Int × Nat × Nat // Cf (zv m xs) (zv n ys) z.1 z.2.1 z.2.2.1 z.2.2.2.1 z.2.2.2.2.1 z.2.2.2.2.2 ∧ cof z.1 z.2.1 z.2.2.1 z.2.2.2.1 = cof (zv m xs) (zv n ys) 1 0 }) => match z with | ⟨(a, b, x, nx, X, Y), hI⟩ => b.natAbs) (⟨(zv m xs, zv n ys, 1, 0, 1, 0), Cf.start _ _, rfl⟩) (Cv.mem (.l [2, 3, 4, 5, 6, 7] rfl) ?_) ?_))))))
 ·rfl
 rintro ⟨⟨a, b, x, nx, X, Y⟩, hI⟩ K5 hK5
 refine .cv (Cv.wk (.l [2, 3, 4, 5, 6, 7] rfl)) (.memEq (M' := [zM b6 nx, zM b5 x, (some b4, cellM [isB false, SlM isU []]), (some b3, cellM [isB false, SlM isU []]), zM b2 b, zM b1 a]) rfl ?_)
 simp only [] at hI
 obtain ⟨hC, hcof⟩ := hI
 have za := Nat.le_trans (nw_mono hC.a1) (nw_max _ _)
 have zb := nw_mono hC.b1
 have zx := Nat.le_trans (nw_mono (Nat.le_trans hC.x hC.X1)) (nw_max _ _)
 have zn := nw_mono (Nat.le_trans hC.y hC.Y1)
 have h1 := nw_one
 have zq := nz_tdiv a b
 have zr := nz_tmod a b
 refine .seq fun _ k6 => .seq fun _ k7 => .region (st (.load (.t rfl) (i := 4) rfl ty31 rfl (Ss' := [_, _]) rfl) rfl (st (.eq (.call (zint_Sign (by first | with_reducible assumption | omega | (simp only [val_words, zv_nf]; omega) | (simp only [val_words]; exact Nat.le_trans (nw_small' (by omega)) (by decide)))) (.cons (.t rfl) .nil)) (by first | (simp only [val_words, zv_nf]; rfl) | rfl)) rfl ?_))
 refine st (.neI (.t rfl) (.cI 0 rfl)) rfl (nl (.thn (k7 _ _ (.cond (.t rfl) (fun hc1 => ?_) (fun hc1 => ?_)))))
 ·have hc1 := BP.t hc1
  have hb : b ≠ 0 := fun e => hc1 (by rw [sgn_eq0]; exact e)
  have zm := nz_mul (a.tdiv b) nx
  refine .skip (.thn (k6 _ _ (.block (.seq fun _ k8 => .region (st (.load (.t rfl) (i := 5) rfl ty31 rfl (Ss' := [_, _]) rfl) rfl (st (.load (.t rfl) (i := 4) rfl ty31 rfl (Ss' := [_, _]) rfl) rfl (st (.eq (.call (zint_Quo (by first | with_reducible assumption | omega | (simp only [val_words, zv_nf]; omega) | (simp only [val_words]; exact Nat.le_trans (nw_small' (by omega)) (by decide))) (by first | with_reducible assumption | omega | (simp only [val_words, zv_nf]; omega) | (simp only [val_words]; exact Nat.le_trans (nw_small' (by omega)) (by decide)))) (.cons (.t rfl) (.cons (.t rfl) .nil))) (by first | (simp only [val_words, zv_nf]; rfl) | rfl)) rfl ?_)))))))
  refine st (.mv (.t rfl)) rfl (st (.ext (.t rfl) rfl) rfl (st (.ext (.t rfl) rfl) rfl (st (.ext (.t rfl) rfl) rfl (.alloc [isB false, SlM isU []] zero31 (fun _ _ => ⟨rfl, nilM _ _, trivial⟩) rfl fun b7 => .alloc [isB false, SlM isU []] zero31 (fun _ _ => ⟨rfl, nilM _ _, trivial⟩) rfl fun b8 => .store (.t rfl) (.t rfl) (i := 1) rfl ty31 rfl rfl (Ss' := [_, _]) rfl (M' := [_, (some _, cellM [_, _]), _, _, _, _, _, _]) rfl (.store (.t rfl) (.t rfl) (i := 0) rfl ty31 rfl rfl (Ss' := [_, _]) rfl (M' := [(some _, cellM [_, _]), _, _, _, _, _, _, _]) rfl (st (.as (.t rfl)) rfl (nl (.thn (k8 _ _ (.seq fun _ k9 => .drh [true, true, true, true, true, true, true, false] (Ms := [_, _, _, _, _, _, _]) rfl (.s [] rfl rfl rfl (.o rfl (.load (.t rfl) (i := 6) rfl ty31 rfl (Ss' := [_, _]) rfl)) (.s [] rfl rfl rfl (.o rfl (.load (.t rfl) (i := 0) rfl ty31 rfl (Ss' := [_, _]) rfl)) (.mid (.cons_cons _ (.cons_cons _ (.cons_cons _ (.cons_cons _ (.cons_cons _ (.cons_cons _ (.cons_cons _ (.cons _ .slnil)))))))) (.st [33] rfl rfl (by kernel_rfl) (by kernel_rfl) (StS.store (.t rfl) (.t rfl) (i := 7) rfl ty31 rfl rfl (Ss' := [_, _]) rfl (M' := [_, _, _, _, _, _, _, (some _, cellM [_, _])]) rfl) (.cons_cons _ (.cons_cons _ (.cons_cons _ (.cons_cons _ (.cons_cons _ (.cons_cons _ (.cons_cons _ (.cons _ .slnil)))))))) (.fin (n := 3) mixed rfl (by kernel_rfl) (by kernel_rfl) (by kernel_rfl) (.cv (Cv.wk (.l [2, 3, 4, 5, 6, 7, 23, 24, 25, 27, 28, 29, 26, 30, 31, 32, 8, 9, 33, 34] rfl)) (.store (.t rfl) (.t rfl) (i := 6) rfl ty31 rfl rfl (Ss' := [_, _]) rfl (M' := [_, _, _, _, _, _, (some _, cellM [_, _]), _]) rfl (nl (.thn (k9 _ _ (.dr (.s [] rfl rfl rfl (.o rfl (.load (.t rfl) (i := 2) rfl ty31 rfl (Ss' := [_, _]) rfl)) (.s [] rfl rfl rfl (.o rfl (.load (.t rfl) (i := 3) rfl ty31 rfl (Ss' := [_, _]) rfl)) (.s [] rfl rfl rfl (.o rfl (.load (.t rfl) (i := 1) rfl ty31 rfl (Ss' := [_, _]) rfl)) (.s [] rfl rfl rfl (.o rfl (.load (.t rfl) (i := 2) rfl ty31 rfl (Ss' := [_, _]) rfl)) (.s [37, 38] rfl rfl rfl (.o rfl (.eq (.call (zint_Mul (by first | with_reducible assumption | omega | (simp only [val_words, zv_nf]; omega) | (simp only [val_words]; exact Nat.le_trans (nw_small' (by omega)) (by decide))) (by first | with_reducible assumption | omega | (simp only [val_words, zv_nf]; omega) | (simp only [val_words]; exact Nat.le_trans (nw_small' (by omega)) (by decide)))) (.cons (.t rfl) (.cons (.t rfl) .nil))) (by first | (simp only [val_words, zv_nf]; rfl) | rfl))) ?_))))))))))))))))))))))))))
  refine .s [36, 39] rfl rfl rfl (.o rfl (.eq (.call (zint_Sub (by first | with_reducible assumption | omega | (simp only [val_words, zv_nf]; omega) | (simp only [val_words]; exact Nat.le_trans (nw_small' (by omega)) (by decide))) (by first | with_reducible assumption | omega | (simp only [val_words, zv_nf]; omega) | (simp only [val_words]; exact Nat.le_trans (nw_small' (by omega)) (by decide)))) (.cons (.t rfl) (.cons (.t rfl) .nil))) (by first | (simp only [val_words, zv_nf]; rfl) | rfl))) ?_
  refine .fin (n := 6) mixed (by kernel_rfl) (by kernel_rfl) (by kernel_rfl) (.cv (Cv.wk (.l [2, 3, 4, 5, 6, 7, 23, 24, 25, 27, 28, 29, 26, 30, 31, 32, 8, 9, 33, 34, 35, 36, 37, 38, 39, 40] rfl)) (.store (.t rfl) (.t rfl) (i := 3) rfl ty31 rfl rfl (Ss' := [_, _]) rfl (M' := [_, _, _, (some _, cellM [_, _]), _, _, _, _]) rfl (.store (.t rfl) (.t rfl) (i := 2) rfl ty31 rfl rfl (Ss' := [_, _]) rfl (M' := [_, _, (some _, cellM [_, _]), _, _, _, _, _]) rfl (nl (.bln (.thn (hK5 (⟨(b, a.tmod b, nx, x - a.tdiv b * nx, Y, X + (a.tdiv b).natAbs * Y), hC.step hb, by rw [← hcof, cof_step hb]⟩) _ _ ?_ (Cv.trans (Cv.drop ((.cons _ (.cons _ (.cons_cons _ (.cons_cons _ (.cons_cons _ (.cons_cons _ (.cons_cons _ (.cons_cons _ .slnil)))))))))) (Cv.mem (.l [2, 3, 4, 5, 6, 7] rfl) ?_)))))))))
  ·show (a.tmod b).natAbs < b.natAbs; rw [Int.natAbs_tmod]; exact Nat.mod_lt _ (by omega)
  ·simp only [if_neg hb]
 ·have hc1 := BP.f hc1
  have hb : b = 0 := (sgn_eq0 _).1 (by omega)
  refine .exit (.the (.the (.blh (.thn (k4 _ _ (.cv (Cv.wk (.l [2, 4, 5, 6] rfl)) (.seq fun _ k10 => .seq fun _ k11 => .region (st (.load (.t rfl) (i := 5) rfl ty31 rfl (Ss' := [_, _]) rfl) rfl (st (.eq (.call (zint_Sign (by first | with_reducible assumption | omega | (simp only [val_words, zv_nf]; omega) | (simp only [val_words]; exact Nat.le_trans (nw_small' (by omega)) (by decide)))) (.cons (.t rfl) .nil)) (by first | (simp only [val_words, zv_nf]; rfl) | rfl)) rfl ?_)))))))))
  refine st (.ltI (.t rfl) (.cI 0 rfl)) rfl (nl (.thn (k11 _ _ (.cond (.t rfl) (fun hc2 => ?_) (fun hc2 => ?_)))))
  ·have hc2 := BP.t hc2
   have ha : a < 0 := (sgn_lt _).1 hc2
   refine .seq fun _ k12 => .dr (.s [] rfl rfl rfl (.o rfl (.load (.t rfl) (i := 5) rfl ty31 rfl (Ss' := [_, _]) rfl)) (.s [44] rfl rfl rfl (.o rfl (.eq (.call (zint_Neg (by first | with_reducible assumption | omega | (simp only [val_words, zv_nf]; omega) | (simp only [val_words]; exact Nat.le_trans (nw_small' (by omega)) (by decide)))) (.cons (.t rfl) .nil)) (by first | (simp only [val_words, zv_nf]; rfl) | rfl))) ?_))
   refine .s [] rfl rfl rfl (.o rfl (.load (.t rfl) (i := 1) rfl ty31 rfl (Ss' := [_, _]) rfl)) (.fin (n := 3) mixed (by kernel_rfl) (by kernel_rfl) (by kernel_rfl) (.cv (Cv.wk (.l [2, 4, 5, 6, 45, 46] rfl)) (st (.eq (.call (zint_Neg (by first | with_reducible assumption | omega | (simp only [val_words, zv_nf]; omega) | (simp only [val_words]; exact Nat.le_trans (nw_small' (by omega)) (by decide)))) (.cons (.t rfl) .nil)) (by first | (simp only [val_words, zv_nf]; rfl) | rfl)) rfl ?_)))
   refine .store (.t rfl) (.t rfl) (i := 3) rfl ty31 rfl rfl (Ss' := [_, _]) rfl (M' := [_, _, _, (some _, cellM [_, _]), _, _]) rfl (.store (.t rfl) (.t rfl) (i := 2) rfl ty31 rfl rfl (Ss' := [_, _]) rfl (M' := [_, _, (some _, cellM [_, _]), _, _, _]) rfl (nl (.thn (k12 _ _ (.ret (.thr (rtN (.inl rfl) Tryz.results286 rfl rfl (.cell rfl (i := 3) rfl ty31 rfl ?_ (.cell rfl (i := 2) rfl ty31 rfl ?_ .nil)))))))))
   ·subst hb; exact isZ_eq (by rw [← hcof, cof_zero, if_pos ha])
   ·subst hb; exact isZ_eq (by rw [← hcof, cof_zero, if_pos ha])
  ·have hc2 := BP.f hc2
   have ha : ¬ a < 0 := fun e => by have := (sgn_lt a).2 e; omega
   refine .skip (.thn (k10 _ _ (.seq fun _ k13 => .drh [true, true, true, false, true, true] (Ms := [_, _, _, _, _]) rfl (.s [] rfl rfl rfl (.o rfl (.load (.t rfl) (i := 4) rfl ty31 rfl (Ss' := [_, _]) rfl)) (.s [] rfl rfl rfl (.o rfl (.load (.t rfl) (i := 1) rfl ty31 rfl (Ss' := [_, _]) rfl)) (.mid (.cons_cons _ (.cons_cons _ (.cons_cons _ (.cons _ (.cons_cons _ (.cons_cons _ .slnil)))))) (.st [48] rfl rfl (by kernel_rfl) (by kernel_rfl) (StS.store (.t rfl) (.t rfl) (i := 3) rfl ty31 rfl rfl (Ss' := [_, _]) rfl (M' := [_, _, _, (some _, cellM [_, _]), _, _]) rfl) (.cons_cons _ (.cons_cons _ (.cons_cons _ (.cons _ (.cons_cons _ (.cons_cons _ .slnil)))))) (.fin (n := 3) mixed rfl (by kernel_rfl) (by kernel_rfl) (by kernel_rfl) (.cv (Cv.wk (.l [4, 5, 49] rfl)) (.store (.t rfl) (.t rfl) (i := 2) rfl ty31 rfl rfl (Ss' := [_, _]) rfl (M' := [_, _, (some _, cellM [_, _]), _, _, _]) rfl (nl (.thn (k13 _ _ (.ret (rtN (.inl rfl) Tryz.results286 rfl rfl (.cell rfl (i := 3) rfl ty31 rfl ?_ (.cell rfl (i := 2) rfl ty31 rfl ?_ .nil)))))))))))))))))
   ·subst hb; exact isZ_eq (by rw [← hcof, cof_zero, if_neg ha])
   ·subst hb; exact isZ_eq (by rw [← hcof, cof_zero, if_neg ha])
end Go.Proofs.YthkdmhaafanjlaaGreat
namespace Go.Pz
def cf (l : List Int) (i : Nat) : Int := l.getD i 0
theorem cf_nil (i : Nat) : cf [] i = 0 := rfl
theorem cf_zero (a : Int) (l : List Int) : cf (a :: l) 0 = a := rfl
theorem cf_succ (a : Int) (l : List Int) (i : Nat) : cf (a :: l) (i + 1) = cf l i := rfl
theorem cf_high {l : List Int} {i : Nat} (h : l.length ≤ i) : cf l i = 0 := by
 unfold cf; rw [List.getD, List.getElem?_eq_none h]; rfl
def pnorm : List Int → List Int
 | [] => []
 | a :: l => if pnorm l = [] ∧ a = 0 then [] else a :: pnorm l
theorem cf_norm : ∀ (l : List Int) (i : Nat), cf (pnorm l) i = cf l i
  | [], i => rfl
  | a :: l, i => by
    unfold pnorm
    split
    · rename_i h
      cases i with
      | zero => rw [cf_zero, h.2]; rfl
      | succ i => rw [cf_succ, ← cf_norm l i, h.1]; rfl
    · cases i with
      | zero => rfl
      | succ i => rw [cf_succ, cf_succ, cf_norm l i]
theorem norm_nil {l : List Int} : pnorm l = [] ↔ ∀ i, cf l i = 0 := by
  constructor
  · intro h i; rw [← cf_norm, h]; rfl
  · induction l with
    | nil => intro _; rfl
    | cons a l ih =>
      intro h
      unfold pnorm
      rw [if_pos ⟨ih fun i => h (i + 1), h 0⟩]
def mul (f g : Nat → Int) : Nat → Int
 | 0 => f 0 * g 0
 | n + 1 => f 0 * g (n + 1) + mul (fun i => f (i + 1)) g n
theorem mul_congr {f f' g g' : Nat → Int} (h : ∀ i, f i = f' i) (k : ∀ i, g i = g' i) : ∀ n, mul f g n = mul f' g' n := by
 obtain rfl : f = f' := funext h
 obtain rfl : g = g' := funext k
 intro n; rfl
theorem mul_back : ∀ (n : Nat) (f g : Nat → Int), mul f g (n + 1) = mul f (fun i => g (i + 1)) n + f (n + 1) * g 0
  | 0, f, g => rfl
  | n + 1, f, g => by
    have h := mul_back n (fun i => f (i + 1)) g
    show f 0 * g (n + 2) + mul (fun i => f (i + 1)) g (n + 1) = (f 0 * g (n + 2) + mul (fun i => f (i + 1)) (fun i => g (i + 1)) n) + f (n + 2) * g 0
    rw [h]
    show _ = _ + f (n + 1 + 1) * g 0
    exact (Int.add_assoc _ _ _).symm
theorem mul_comm : ∀ (n : Nat) (f g : Nat → Int), mul f g n = mul g f n
  | 0, f, g => Int.mul_comm _ _
  | n + 1, f, g => by
    rw [mul_back, mul_comm n f, Int.mul_comm (f (n + 1))]
    show _ = g 0 * f (n + 1) + mul (fun i => g (i + 1)) f n
    omega
theorem add_mul (f f' g : Nat → Int)  (n : Nat) : mul (fun i => f i + f' i) g n = mul f g n + mul f' g n := by
    induction n generalizing f f' with
    | zero => exact Int.add_mul _ _ _
    | succ n ih =>
      have h := ih (fun i => f (i + 1)) (fun i => f' (i + 1))
      have e := Int.add_mul (f 0) (f' 0) (g (n + 1))
      show (f 0 + f' 0) * g (n + 1) + mul (fun i => f (i + 1) + f' (i + 1)) g n = _
      rw [h, e]
      show _ = (f 0 * g (n + 1) + mul (fun i => f (i + 1)) g n) + (f' 0 * g (n + 1) + mul (fun i => f' (i + 1)) g n)
      omega
theorem smul_mul (c : Int) (f g : Nat → Int)  (n : Nat) : mul (fun i => c * f i) g n = c * mul f g n := by
    induction n generalizing f with
    | zero => exact Int.mul_assoc _ _ _
    | succ n ih =>
      have h := ih (fun i => f (i + 1))
      show c * f 0 * g (n + 1) + mul (fun i => c * f (i + 1)) g n = c * (f 0 * g (n + 1) + mul (fun i => f (i + 1)) g n)
      rw [h, Int.mul_add, Int.mul_assoc]
theorem mul_add (f g g' : Nat → Int) (n : Nat) : mul f (fun i => g i + g' i) n = mul f g n + mul f g' n := by
 rw [mul_comm, add_mul, mul_comm n g, mul_comm n g']
theorem mul_assoc (f g h : Nat → Int)  (n : Nat) : mul (mul f g) h n = mul f (mul g h) n := by
    induction n generalizing f g with
    | zero => exact Int.mul_assoc _ _ _
    | succ n ih =>
      show f 0 * g 0 * h (n + 1) + mul (fun i => f 0 * g (i + 1) + mul (fun i => f (i + 1)) g i) h n = f 0 * (g 0 * h (n + 1) + mul (fun i => g (i + 1)) h n) + mul (fun i => f (i + 1)) (mul g h) n
      rw [add_mul, smul_mul, ih, Int.mul_add, Int.mul_assoc]
      omega
theorem zero_mul (g : Nat → Int) (n : Nat) : mul (fun _ => 0) g n = 0 := by
 have h := smul_mul 0 (fun _ => 0) g n
 exact h.trans (Int.zero_mul _)
theorem mul_high : ∀ {n A B : Nat} {f g : Nat → Int}, (∀ i, A ≤ i → f i = 0) → (∀ i, B ≤ i → g i = 0) → A + B ≤ n + 1 → mul f g n = 0
  | n, 0, B, f, g, hf, hg, h => by rw [mul_congr (f' := fun _ => 0) (fun i => hf i (Nat.zero_le _)) (fun _ => rfl), zero_mul]
  | 0, A + 1, B, f, g, hf, hg, h => by
    show f 0 * g 0 = 0
    rw [hg 0 (by omega), Int.mul_zero]
  | n + 1, A + 1, B, f, g, hf, hg, h => by
    show f 0 * g (n + 1) + mul (fun i => f (i + 1)) g n = 0
    rw [mul_high (A := A) (B := B) (fun i hi => hf (i + 1) (by omega)) hg (by omega), hg (n + 1) (by omega), Int.mul_zero]
    rfl
theorem mul_top : ∀ {A B : Nat} {f g : Nat → Int}, (∀ i, A < i → f i = 0) → (∀ i, B < i → g i = 0) → mul f g (A + B) = f A * g B
  | 0, 0, f, g, _, _ => rfl
  | 0, B + 1, f, g, hf, hg => by
    rw [Nat.zero_add]
    show f 0 * g (B + 1) + mul (fun i => f (i + 1)) g B = _
    rw [mul_congr (f' := fun _ => 0) (fun i => hf (i + 1) (by omega)) (fun _ => rfl), zero_mul]; omega
  | A + 1, B, f, g, hf, hg => by
    rw [show A + 1 + B = (A + B) + 1 by omega]
    show f 0 * g (A + B + 1) + mul (fun i => f (i + 1)) g (A + B) = _
    rw [mul_top (fun i hi => hf (i + 1) (by omega)) hg, hg (A + B + 1) (by omega)]
    omega
end Go.Pz
namespace Go.En
open Go.RowKit Go.Nt Go.Pz
abbrev nz (z : Int) : Bool × List Nat := (decide (z < 0), words z.natAbs)
def vals (xs : List (Bool × List Nat)) : List Int := xs.map fun p => zv p.1 p.2
abbrev isP (l : List Int) : VP := SlK 2 zc (l.map nz)
theorem nz_zero : nz 0 = (false, []) := by
 show (decide ((0 : Int) < 0), words (Int.natAbs 0)) = (false, [])
 rw [Int.natAbs_zero, words_zero]; rfl
theorem vals_nz (l : List Int) : vals (l.map nz) = l := by
 unfold vals
 rw [List.map_map]
 conv => rhs; rw [← List.map_id l]
 exact List.map_congr_left fun z _ => zv_nf z
theorem vals_len (xs : List (Bool × List Nat)) : (vals xs).length = xs.length := by unfold vals; rw [List.length_map]
theorem zv_dflt : zv false [] = 0 := by rw [zv_false]; rfl
theorem cf_vals (xs : List (Bool × List Nat)) (i : Nat) : cf (vals xs) i = zv (xs.getD i (false, [])).1 (xs.getD i (false, [])).2 := by
 unfold cf vals
 rw [List.getD, List.getD, List.getElem?_map]
 cases xs[i]? with
 | none => exact zv_dflt.symm
 | some p => rfl
theorem vals_take (xs : List (Bool × List Nat)) (n : Nat) : vals (xs.take n) = (vals xs).take n := by unfold vals; rw [List.map_take]
def fill {β : Type} (l : List β) (i : Nat) (z : β) : List β := l.take i ++ List.replicate (l.length - i) z
theorem fill_zero {β : Type} (l : List β) (z : β) : fill l 0 z = List.replicate l.length z := by simp [fill]
theorem fill_all {β : Type} (l : List β) (z : β) : fill l l.length z = l := by simp [fill]
theorem fill_len {β : Type} (l : List β) (i : Nat) (z : β) (h : i ≤ l.length) : (fill l i z).length = l.length := by
 unfold fill; rw [List.length_append, List.length_take, List.length_replicate]; omega
theorem fill_set {β : Type} (l : List β) (i : Nat) (z x : β) (h : l[i]? = some x) : (fill l i z).set i x = fill l (i + 1) z := by
 have hi : i < l.length := by
  rcases Nat.lt_or_ge i l.length with h1 | h1
  ·exact h1
  ·rw [List.getElem?_eq_none h1] at h; cases h
 rw [List.getElem?_eq_getElem hi] at h
 unfold fill
 rw [List.set_append_right _ _ (by rw [List.length_take]; omega), List.length_take, Nat.min_eq_left (by omega), Nat.sub_self, show l.length - i = (l.length - (i + 1)) + 1 by omega, List.replicate_succ, List.set_cons_zero,
  List.take_succ_eq_append_getElem hi, List.append_assoc, Option.some.inj h]; rfl
section
variable {E : Env} {P : Program} {Γ : Ctx} {M : Mem} {x : Operand}
end
end Go.En
namespace Go.Pz
theorem cf_tab (n : Nat) (f : Nat → Int) (i : Nat) : cf ((List.range n).map f) i = if i < n then f i else 0 := by
 unfold cf
 rw [List.getD, List.getElem?_map]
 by_cases h : i < n
 ·rw [List.getElem?_range h, if_pos h]; rfl
 ·rw [List.getElem?_eq_none (by simpa using h), if_neg h]; rfl
def both (op : Int → Int → Int) (a b : List Int) : List Int := pnorm ((List.range (max a.length b.length)).map fun i => op (cf a i) (cf b i))
theorem cf_both {op : Int → Int → Int} (h : op 0 0 = 0) (a b : List Int) (i : Nat) : cf (both op a b) i = op (cf a i) (cf b i) := by
 unfold both
 rw [cf_norm, cf_tab]
 split
 ·rfl
 ·rw [cf_high (l := a) (by omega), cf_high (l := b) (by omega), h]
def padd (a b : List Int) : List Int := both (fun x y => x + y) a b
def psub (a b : List Int) : List Int := both (fun x y => x - y) a b
theorem cf_add (a b : List Int) (i : Nat) : cf (padd a b) i = cf a i + cf b i := cf_both (by rfl) a b i
theorem cf_sub (a b : List Int) (i : Nat) : cf (psub a b) i = cf a i - cf b i := cf_both (by rfl) a b i
def pshift (a : List Int) (n : Nat) : List Int := List.replicate n 0 ++ a
theorem cf_shift (a : List Int) (n i : Nat) : cf (pshift a n) i = if i < n then 0 else cf a (i - n) := by
 unfold cf pshift
 rw [List.getD]
 by_cases h : i < n
 ·rw [List.getElem?_append_left (by simpa using h), if_pos h, List.getElem?_replicate, if_pos h]; rfl
 ·rw [List.getElem?_append_right (by simpa using Nat.le_of_not_lt h), if_neg h, List.length_replicate]; rfl
def rows (f g : Nat → Int) : Nat → Nat → Int
 | 0, _ => 0
 | i + 1, n => rows f g i n + if i ≤ n then f i * g (n - i) else 0
theorem rows_front (f g : Nat → Int) : ∀ i n, rows f g (i + 1) (n + 1) = f 0 * g (n + 1) + rows (fun j => f (j + 1)) g i n
  | 0, n => by
    show 0 + (if 0 ≤ n + 1 then f 0 * g (n + 1 - 0) else 0) = f 0 * g (n + 1) + 0
    rw [if_pos (Nat.zero_le _), Int.zero_add, Int.add_zero]; rfl
  | i + 1, n => by
    have h := rows_front f g i n
    show rows f g (i + 1) (n + 1) + (if i + 1 ≤ n + 1 then f (i + 1) * g (n + 1 - (i + 1)) else 0) = f 0 * g (n + 1) + (rows (fun j => f (j + 1)) g i n + if i ≤ n then f (i + 1) * g (n - i) else 0)
    rw [h, Int.add_assoc]
    congr 2
    by_cases hi : i ≤ n
    · rw [if_pos hi, if_pos (by omega), Nat.succ_sub_succ]
    · rw [if_neg hi, if_neg (by omega)]
theorem rows_zero (f g : Nat → Int) : ∀ i, rows f g (i + 1) 0 = f 0 * g 0
  | 0 => by show 0 + (if 0 ≤ 0 then f 0 * g (0 - 0) else 0) = _; rw [if_pos (Nat.le_refl _), Int.zero_add]
  | i + 1 => by
    show rows f g (i + 1) 0 + (if i + 1 ≤ 0 then _ else 0) = _
    rw [rows_zero f g i, if_neg (by omega), Int.add_zero]
theorem mul_rows : ∀ (n : Nat) (f g : Nat → Int), mul f g n = rows f g (n + 1) n
  | 0, f, g => (rows_zero f g 0).symm
  | n + 1, f, g => by
    rw [rows_front, ← mul_rows n]; rfl
theorem rows_more (f g : Nat → Int) {A n : Nat} (h : ∀ i, A ≤ i → i ≤ n → f i = 0) : ∀ d, rows f g (A + d) n = rows f g A n
  | 0 => rfl
  | d + 1 => by
    show rows f g (A + d) n + (if A + d ≤ n then f (A + d) * g (n - (A + d)) else 0) = _
    rw [rows_more f g h d]
    split
    · rename_i hd; rw [h _ (by omega) hd, Int.zero_mul, Int.add_zero]
    · rw [Int.add_zero]
theorem rows_all {f g : Nat → Int} {A : Nat} (h : ∀ i, A ≤ i → f i = 0) (n : Nat) : rows f g A n = mul f g n := by
 rw [mul_rows]
 rcases Nat.le_total A (n + 1) with h1 | h1
 ·have := rows_more f g (n := n) (fun i hi _ => h i hi) (n + 1 - A)
  rw [show A + (n + 1 - A) = n + 1 by omega] at this
  exact this.symm
 ·have := rows_more f g (A := n + 1) (n := n) (fun i hi hn => by omega) (A - (n + 1))
  rwa [show n + 1 + (A - (n + 1)) = A by omega] at this
def pmul (a b : List Int) : List Int := if pnorm a = [] ∨ pnorm b = [] then [] else pnorm ((List.range ((pnorm a).length + (pnorm b).length - 1)).map fun n => mul (cf a) (cf b) n)
theorem high_norm {l : List Int} {i : Nat} (h : (pnorm l).length ≤ i) : cf l i = 0 := by rw [← cf_norm]; exact cf_high h
theorem cf_pmul (a b : List Int) (n : Nat) : cf (pmul a b) n = mul (cf a) (cf b) n := by
 unfold pmul
 split
 ·rename_i h
  rcases h with h | h
  ·rw [mul_congr (f' := fun _ => 0) (norm_nil.1 h) (fun _ => rfl), zero_mul]; rfl
  ·rw [mul_comm, mul_congr (f' := fun _ => 0) (norm_nil.1 h) (fun _ => rfl), zero_mul]; rfl
 ·rename_i h
  rw [cf_norm, cf_tab]
  split
  ·rfl
  ·have h1 : 0 < (pnorm a).length := List.length_pos_iff.2 fun e => h (.inl e)
   exact (mul_high (A := (pnorm a).length) (B := (pnorm b).length) (fun i hi => high_norm hi) (fun i hi => high_norm hi) (by omega)).symm
def rowV (f g : Nat → Int) (i k n : Nat) : Int := rows f g i n + if i ≤ n ∧ n < i + k then f i * g (n - i) else 0
def rowL (f g : Nat → Int) (N i k : Nat) : List Int := (List.range N).map (rowV f g i k)
theorem rowL_len (f g : Nat → Int) (N i k : Nat) : (rowL f g N i k).length = N := by unfold rowL; rw [List.length_map, List.length_range]
end Go.Pz
namespace Go.Pz
theorem mul_zero (f : Nat → Int) (n : Nat) : mul f (fun _ => 0) n = 0 := by rw [mul_comm, zero_mul]
end Go.Pz
namespace Go.Pz
open Go.Nt Go.En
def Bd (l : List Int) (K : Nat) : Prop := ∀ i, (List.length (words (cf l i).natAbs)) ≤ K
theorem Bd.mono {l : List Int} {K L : Nat} (h : Bd l K) (hk : K ≤ L) : Bd l L := fun i => Nat.le_trans (h i) hk
theorem Bd.nil (K : Nat) : Bd [] K := fun i => by rw [cf_nil, Int.natAbs_zero, words_zero]; exact Nat.zero_le _
theorem Bd.add {a b : List Int} {K : Nat} (h : Bd a K) (k : Bd b K) : Bd (padd a b) (K + 1) := fun i => by
 rw [cf_add]
 have := nz_add (cf a i) (cf b i)
 have := h i
 have := k i
 omega
theorem Bd.sub {a b : List Int} {K : Nat} (h : Bd a K) (k : Bd b K) : Bd (psub a b) (K + 1) := fun i => by
 rw [cf_sub]
 have := nz_sub (cf a i) (cf b i)
 have := h i
 have := k i
 omega
theorem Bd.shift {a : List Int} {K : Nat} (h : Bd a K) (n : Nat) : Bd (pshift a n) K := fun i => by
 rw [cf_shift]
 split
 ·rw [Int.natAbs_zero, words_zero]; exact Nat.zero_le _
 ·exact h _
theorem rows_nw {a b : List Int} {K L : Nat} (h : Bd a K) (k : Bd b L) : ∀ i n, (List.length (words (rows (cf a) (cf b) i n).natAbs)) ≤ K + L + i
  | 0, n => by
    show (List.length (words (Int.natAbs 0))) ≤ _
    rw [Int.natAbs_zero, words_zero]; exact Nat.zero_le _
  | i + 1, n => by
    show (List.length (words (rows (cf a) (cf b) i n + if i ≤ n then cf a i * cf b (n - i) else 0).natAbs)) ≤ _
    have h1 := rows_nw h k i n
    have h2 : (List.length (words (if i ≤ n then cf a i * cf b (n - i) else 0).natAbs)) ≤ K + L := by
      split
      · have := nz_mul (cf a i) (cf b (n - i))
        have := h i
        have := k (n - i)
        omega
      · rw [Int.natAbs_zero, words_zero]; exact Nat.zero_le _
    have := nz_add (rows (cf a) (cf b) i n) (if i ≤ n then cf a i * cf b (n - i) else 0)
    omega
theorem Bd.mul {a b : List Int} {K L : Nat} (h : Bd a K) (k : Bd b L) : Bd (pmul a b) (K + L + a.length) := fun n => by
 rw [cf_pmul, ← rows_all (A := a.length) (fun i hi => cf_high hi)]
 exact rows_nw h k _ _
theorem Bd.raw {xs : List (Bool × List Nat)} {K : Nat} (h : Bd (vals xs) K) (i : Nat) : (List.length (words (val (xs.getD i (false, [])).2))) ≤ K := by
 have := h i
 rwa [cf_vals, zv_nw] at this
end Go.Pz
namespace Go.En
open Go.Nt Go.Pz
def PR (K : Nat) : Type := { p : (Bool × List Nat) × (Bool × List Nat) // (List.length (words (val p.1.2))) ≤ K ∧ (List.length (words (val p.2.2))) ≤ K }
theorem memF_eq {b : Option Nat} {l : List (Bool × List Nat)} {i : Nat} {z x : Bool × List Nat} {r : Mem} (h : l[i]? = some x) : ((b, cellM (((fill l i z).set i x).flatMap zc)) :: r : Mem) = (b, cellM ((fill l (i + 1) z).flatMap zc)) :: r := by rw [fill_set _ _ _ _ h]
theorem memZ_eq {b : Option Nat} {l l' : List (Bool × List Nat)} {r : Mem} (h : l = l') : ((b, cellM (l.flatMap zc)) :: r : Mem) = (b, cellM (l'.flatMap zc)) :: r := h ▸ rfl
theorem getElem_cf {l : List Int} {i : Nat} (h : i < l.length) : l[i]? = some (cf l i) := by
 unfold cf; rw [List.getD, List.getElem?_eq_getElem h]; rfl
theorem fill_done {β : Type} {l : List β} {i n : Nat} {z : β} (h : i = l.length) (hn : n = l.length) : (fill l i z).take n = l := by
 subst h; subst hn; rw [fill_all, List.take_length]
end Go.En
namespace Go.Gf
def ch : Nat → Nat → Nat
 | _, 0 => 1
 | 0, _ + 1 => 0
 | n + 1, k + 1 => ch n k + ch n (k + 1)
def S (a n : Nat) : Nat → Nat
 | 0 => 0
 | m + 1 => S a n m + ch n m * a ^ m
end Go.Gf
namespace Go.Gf
end Go.Gf
namespace Go.Gf
theorem half (y : Nat) {k : Nat} (hk : 0 < k) : y / 2 ^ (k - 1) = 2 * (y / 2 ^ k) + y / 2 ^ (k - 1) % 2 := by
 have : y / 2 ^ k = y / 2 ^ (k - 1) / 2 := by
  rw [Nat.div_div_eq_div_mul, ← Nat.pow_succ]; congr 2; omega
 omega
theorem mul_step0 {x y p k o : Nat} (hk : 0 < k) (h : o = x * (y / 2 ^ k) % p) (hb : ¬ y / 2 ^ (k - 1) % 2 = 1) : 2 * o % p = x * (y / 2 ^ (k - 1)) % p := by
 have e := half y hk
 rw [h, Nat.mul_mod_mod]
 congr 1
 rw [e, show y / 2 ^ (k - 1) % 2 = 0 by omega]; grind
end Go.Gf
namespace Go.Gf
end Go.Gf
namespace Go.Gf
end Go.Gf
namespace Go.Pz
open Go.Gf
theorem first_of {P : Nat → Prop} (h : ¬ ∀ i, P i) : ∃ i, ¬ P i ∧ ∀ k, k < i → P k := by
  obtain ⟨n, hn⟩ : ∃ n, ¬ P n := Classical.byContradiction fun hk => h fun i => Classical.byContradiction fun hi => hk ⟨i, hi⟩
  induction n using Nat.strongRecOn with
  | ind n ih =>
    by_cases hc : ∀ k, k < n → P k
    · exact ⟨n, hn, hc⟩
    · obtain ⟨k, hk⟩ : ∃ k, ¬ (k < n → P k) := Classical.byContradiction fun hk => hc fun i => Classical.byContradiction fun hi => hk ⟨i, hi⟩
      exact ih k (Nat.lt_of_not_le fun hle => hk fun hlt => absurd hlt (by omega)) fun hp => hk fun _ => hp
end Go.Pz
namespace Go.Pz
open Go.Nt Go.En
theorem shift_len (a : List Int) (n : Nat) : (pshift a n).length = n + a.length := by unfold pshift; rw [List.length_append, List.length_replicate]
theorem zv_nz (z : Int) : zv (nz z).1 (nz z).2 = z := zv_nf z
theorem Bd.one {z : Int} {K : Nat} (h : (List.length (words z.natAbs)) ≤ K) : Bd [z] K := fun i => by
 cases i with
 | zero => exact h
 | succ i => rw [cf_succ, cf_nil, Int.natAbs_zero, words_zero]; exact Nat.zero_le _
theorem Bd.cons {z : Int} {l : List Int} {K : Nat} (h : (List.length (words z.natAbs)) ≤ K) (k : Bd l K) : Bd (z :: l) K := fun i => by
 cases i with
 | zero => exact h
 | succ i => exact k i
end Go.Pz
namespace Go.En
open Go.Nt Go.Pz
theorem zM0 {k : Nat} {r : Mem} : ((some k, cellM [isB false, SlM isU []]) :: r : Mem) = zM k 0 :: r := by
 show _ = (some k, cellM [isB (decide ((0 : Int) < 0)), SlM isU (words (0 : Int).natAbs)]) :: r
 rw [Int.natAbs_zero, words_zero]; rfl
theorem getZ {l : List Int} {i : Nat} (h : i < l.length) : (l.map nz)[i]? = some (nz (cf l i)) := by rw [List.getElem?_map, getElem_cf h]; rfl
theorem bd64 {l : List Int} (h : ∀ y ∈ l, -9223372036854775808 ≤ y ∧ y < 9223372036854775808) : Bd l 1 := fun i => by
 rcases Nat.lt_or_ge i l.length with hi | hi
 ·have := h (cf l i) (List.mem_of_getElem? (getElem_cf hi))
  exact nw_small' (by omega)
 ·rw [cf_high hi, Int.natAbs_zero, words_zero]; exact Nat.zero_le _
end Go.En
namespace Go.En
open Go.RowKit
section
variable {E : Env} {P : Program} {Γ : Ctx} {M : Mem} {ty : TypeId} {pos : String} {after : Array Edge}
 {ops : Array Oper} {Q : Exit → Act → World → Prop} {rest : List Oper}
theorem any_one {l : List Oper} {i fuel : Nat} {o : Oper} {listed : Array Bool} {a : Act} {w : World} (hr : ∀ j, j ∈ Region.ready .any l.toArray listed → j = i) (hi : i ∈ Region.ready .any l.toArray listed) (ho : l[i]? = some o)
  (hl : wpList P l.toArray Q (o :: rest) a w) (hn : ∀ a w, wpList P l.toArray Q rest a w → wpAny P .any l.toArray Q fuel (listed.setIfInBounds i true) a w) : wpAny P .any l.toArray Q (fuel + 1) listed a w := by
 refine ⟨fun h0 => ?_, fun j hj => ?_⟩
 ·rw [h0] at hi; simp at hi
 ·obtain rfl := hr j hj
  have ho' : l.toArray[j]? = some o := by simpa using ho
  unfold wpOp
  rw [ho']
  simp only []
  unfold wpList at hl
  split
  ·rename_i hw; rw [if_pos hw] at hl; exact hl.imp (Oper.wp_mono hn) id
  ·rename_i hw; rw [if_neg hw] at hl; exact hn _ _ hl
end
end Go.En
namespace Go.Mz
open Go.Pz Go.Nt Go.En
def tab (N C : Nat) (g : Nat → Nat → Int) : List Int := (List.range N).map fun j => g (j / C) (j % C)
theorem tab_len (N C : Nat) (g : Nat → Nat → Int) : (tab N C g).length = N := by unfold tab; rw [List.length_map, List.length_range]
theorem divmod {C i k : Nat} (h : k < C) : (i * C + k) / C = i ∧ (i * C + k) % C = k := by
 have hC : 0 < C := by omega
 constructor
 ·rw [Nat.mul_comm, Nat.mul_add_div hC, Nat.div_eq_of_lt h, Nat.add_zero]
 ·rw [Nat.mul_comm, Nat.mul_add_mod, Nat.mod_eq_of_lt h]
theorem cf_tab' {N C i k : Nat} (g : Nat → Nat → Int) (hk : k < C) (hN : i * C + k < N) : cf (tab N C g) (i * C + k) = g i k := by
 unfold tab
 rw [cf_tab, if_pos hN, (divmod hk).1, (divmod hk).2]
theorem tab_succ {C i k : Nat} (g : Nat → Nat → Int) (hk : k < C) : tab (i * C + k) C g ++ [g i k] = tab (i * C + (k + 1)) C g := by
 unfold tab
 rw [← Nat.add_assoc, List.range_succ, List.map_append, List.map_singleton, (divmod hk).1, (divmod hk).2]
theorem tab_next {C i : Nat} (g : Nat → Nat → Int) : tab (i * C + C) C g = tab ((i + 1) * C + 0) C g := by rw [Nat.add_zero, Nat.succ_mul]
theorem place_lt {R C i k : Nat} (hi : i < R) (hk : k < C) : i * C + k < R * C := by
 have : (i + 1) * C ≤ R * C := Nat.mul_le_mul_right C hi
 rw [Nat.succ_mul] at this; omega
theorem side_le {R C : Nat} (hR : R ≤ 64) (hC : C ≤ 64) : R * C ≤ 4096 := Nat.le_trans (Nat.mul_le_mul hR hC) (by decide)
theorem Bd_tab {N C K : Nat} {g : Nat → Nat → Int} (h : ∀ i k, (List.length (words (g i k).natAbs)) ≤ K) : Bd (tab N C g) K := fun i => by
 unfold Go.Mz.tab
 rw [cf_tab]
 split
 ·exact h _ _
 ·rw [Int.natAbs_zero, words_zero]; exact Nat.zero_le _
def formB (r c : Int) (n : Nat) : Bool := (decide (0 ≤ r) && decide (r ≤ 64)) && (decide (0 ≤ c) && decide (c ≤ 64)) && decide ((n : Int) = r * c)
theorem formB_iff {r c : Int} {n : Nat} : formB r c n = true ↔ ∃ R C : Nat, r = R ∧ c = C ∧ R ≤ 64 ∧ C ≤ 64 ∧ n = R * C := by
 unfold formB
 simp only [Bool.and_eq_true, decide_eq_true_eq]
 constructor
 ·rintro ⟨⟨⟨h1, h2⟩, h3, h4⟩, h5⟩
  refine ⟨r.toNat, c.toNat, by omega, by omega, by omega, by omega, ?_⟩
  have : (n : Int) = (r.toNat * c.toNat : Nat) := by rw [h5, Int.natCast_mul]; congr 1 <;> omega
  omega
 ·rintro ⟨R, C, rfl, rfl, h1, h2, rfl⟩
  exact ⟨⟨⟨by omega, by omega⟩, by omega, by omega⟩, by rw [Int.natCast_mul]⟩
theorem formB_true {R C n : Nat} (h1 : R ≤ 64) (h2 : C ≤ 64) (h : n = R * C) : formB (R : Int) (C : Int) n = true := formB_iff.2 ⟨R, C, rfl, rfl, h1, h2, h⟩
theorem mul_bnd {r c : Int} (h : (0 ≤ r ∧ r ≤ 64) ∧ (0 ≤ c ∧ c ≤ 64)) : 0 ≤ r * c ∧ r * c ≤ 4096 := by
 refine ⟨Int.mul_nonneg h.1.1 h.2.1, ?_⟩
 have h1 : r * c ≤ 64 * c := Int.mul_le_mul_of_nonneg_right h.1.2 h.2.1
 omega
def dotS (f g : Nat → Int) : Nat → Int
 | 0 => 0
 | n + 1 => dotS f g n + f n * g n
theorem dotS_congr {f f' g g' : Nat → Int} : ∀ n, (∀ i, i < n → f i = f' i) → (∀ i, i < n → g i = g' i) → dotS f g n = dotS f' g' n
  | 0, _, _ => rfl
  | n + 1, h, k => by
    show dotS f g n + f n * g n = dotS f' g' n + f' n * g' n
    rw [dotS_congr n (fun i hi => h i (by omega)) (fun i hi => k i (by omega)), h n (by omega), k n (by omega)]
theorem dotS_nw {f g : Nat → Int} {K L : Nat} (h : ∀ i, (List.length (words (f i).natAbs)) ≤ K) (k : ∀ i, (List.length (words (g i).natAbs)) ≤ L) : ∀ n, (List.length (words (dotS f g n).natAbs)) ≤ K + L + n
  | 0 => by show (List.length (words (Int.natAbs 0))) ≤ _; rw [Int.natAbs_zero, words_zero]; exact Nat.zero_le _
  | n + 1 => by
    have h1 := dotS_nw h k n
    have h2 := nz_mul (f n) (g n)
    have h3 := h n
    have h4 := k n
    have h5 := nz_add (dotS f g n) (f n * g n)
    show (List.length (words (dotS f g n + f n * g n).natAbs)) ≤ _
    omega
end Go.Mz
namespace Go.En
open Go.Nt Go.Pz Go.Mz
abbrev PI (R C : Nat) : Type := { p : Nat × Nat // p.1 < R ∧ p.2 < C }
abbrev isAt (P : Program) (R C : Nat) (f : Nat → Nat → Bool × List Nat) : VP := isFun (ι := PI R C) P (fun p => [isI (p.1.1 : Int), isI (p.1.2 : Int)]) (fun p => Flat (zc (f p.1.1 p.1.2)))
abbrev isM (r c : Int) (xs : List (Bool × List Nat)) : VP := Flat [isI r, isI c, SlK 2 zc xs]
abbrev isMz (R C : Nat) (L : List Int) : VP := Flat [isI (R : Int), isI (C : Int), isP L]
abbrev ptM (r c : Int) (xs : List (Bool × List Nat)) : VP := PtrL [isI r, isI c, SlK 2 zc xs]
abbrev isM0 : VP := Flat [isI 0, isI 0, SlK 2 zc ([] : List (Bool × List Nat))]
theorem isMz_eq {R C : Nat} {L L' : List Int} (h : L = L') : isMz R C L = isMz R C L' := h ▸ rfl
theorem grF_eq {α : Type} {fk : α → List VP} {g : Gr α} {ys ys' : List α} {n : Nat} {b : Nat} {A B : VP} {r : Mem} (hn : n = ys'.length) (h : ys = ys') : (grMK fk g ys :: (some b, cellM [A, B, isGr g n]) :: r : Mem) = grMK fk g ys' :: (some b, cellM [A, B, isGr g ys'.length]) :: r := by subst h; subst hn; rfl
theorem zvz (f : Nat → Nat → Int) : (fun i k => zv (nz (f i k)).1 (nz (f i k)).2) = f := by funext i k; exact zv_nz _
end Go.En
namespace Go.Proofs.YthkdmhaafanjlaaGreat
open Go.En Go.RowKit
set_option maxRecDepth 10000
set_option maxHeartbeats 4000000
open Go.Nt
open Go.Pz
open Go.Mz
theorem zmat_side {n : Int} : Ctr Tryz.prog 76 [isI n] (isB (decide (0 ≤ n) && decide (n ≤ 64))) := by
 refine Ctr.intro Tryz.func76 rfl (by kernel_rfl) Tryz.ntmps76 rfl fun w0 F0 => .cv (Cv.wk (.l [0] rfl)) (.fact (Has.rngI (Has.t (t := 0) rfl)) fun lt0 => .seq fun _ k1 => .region (st (.as (.cB false)) rfl (nl (.thn (k1 _ _ (.seq fun _ k2 => .region (st (.mv (.t rfl)) rfl (st (.geI (.t rfl) (.cI 0 rfl)) rfl (st (.mv (.t rfl)) rfl ?_)))))))))
 refine stT rfl rfl (fun hg => have hg' := BP.t hg; OK1.mv (.t rfl)) rfl ?_
 refine stT rfl rfl (fun hg => have hg' := BP.t hg; OK1.leI (Has.g rfl hg) (.cI 64 rfl)) rfl ?_
 refine st (.pickAnd (.t rfl) (fun h => Has.g rfl h)) rfl (st (.as (.t rfl)) rfl (nl (.thn (k2 _ _ (.cv (Cv.wk (.l [2] rfl)) (.ret (rt1 (.inl rfl) Tryz.results76 rfl (.tmp (Has.t' rfl ?_) .nil))))))))
 all_goals (rfl)
theorem zmat_Formed {r c : Int} {xs : List (Bool × List Nat)} : Ctr Tryz.prog 71 [isM r c xs] (isB (formB r c xs.length)) := by
 refine Ctr.intro Tryz.func71 rfl (by kernel_rfl) Tryz.ntmps71 rfl fun w0 F0 => .cv (Cv.wk (.l [0] rfl)) (.seq fun _ k1 => .region (.box (.t rfl) rfl fun b1 => st (.as (.cB false)) rfl (nl (.thn (k1 _ _ (.seq fun _ k2 => .region (st (.fieldAddr (.t rfl) fld24_0 ty3) rfl (st (.load1 (.t rfl) (i := 0) rfl ty3 rfl) rfl (st (.call (zmat_side) (.cons (.t rfl) .nil)) rfl (st (.mv (.t rfl)) rfl ?_))))))))))
 refine stT rfl rfl (fun hg => have hg' := BP.t hg; OK1.fieldAddr (.t rfl) fld24_1 ty3) rfl ?_
 refine stT rfl rfl (fun hg => have hg' := BP.t hg; OK1.load1 (Has.g rfl hg) (i := 0) rfl ty3 rfl) rfl ?_
 refine stT rfl rfl (fun hg => have hg' := BP.t hg; OK1.call (zmat_side) (.cons (Has.g rfl hg) .nil)) rfl ?_
 refine st (.pickAnd (.t rfl) (fun h => Has.g rfl h)) rfl (st (.mv (.t rfl)) rfl ?_)
 refine stT rfl rfl (fun hg => have hg' := BP.t hg; OK1.fieldAddr (.t rfl) fld24_2 ty22) rfl ?_
 refine stT rfl rfl (fun hg => have hg' := BP.t hg; OK1.load1 (Has.g rfl hg) (i := 0) rfl ty22 rfl) rfl ?_
 refine stT rfl rfl (fun hg => have hg' := BP.t hg; OK1.len sl22 (Has.g rfl hg)) rfl ?_
 refine stT rfl rfl (fun hg => have hg' := BP.t hg; OK1.fieldAddr (.t rfl) fld24_0 ty3) rfl ?_
 refine stT rfl rfl (fun hg => have hg' := BP.t hg; OK1.load1 (Has.g rfl hg) (i := 0) rfl ty3 rfl) rfl ?_
 refine stT rfl rfl (fun hg => have hg' := BP.t hg; OK1.fieldAddr (.t rfl) fld24_1 ty3) rfl ?_
 refine stT rfl rfl (fun hg => have hg' := BP.t hg; OK1.load1 (Has.g rfl hg) (i := 0) rfl ty3 rfl) rfl ?_
 refine stT rfl rfl (fun hg => have hg' := BP.t hg; OK1.mulI (Has.g rfl hg) (Has.g rfl hg) (by have := mul_bnd ⟨hg'.1, hg'.2⟩; omega) (by have := mul_bnd ⟨hg'.1, hg'.2⟩; omega)) rfl ?_
 refine stT rfl rfl (fun hg => have hg' := BP.t hg; OK1.eqI (Has.g rfl hg) (Has.g rfl hg)) rfl ?_
 refine st (.pickAnd (.t rfl) (fun h => Has.g rfl h)) rfl (st (.as (.t rfl)) rfl (nl (.thn (k2 _ _ (.cv (Cv.wk (.l [2] rfl)) (.ret (rt1 (.inl rfl) Tryz.results71 rfl (.tmp (Has.t' rfl ?_) .nil))))))))
 all_goals (rfl)
theorem zmat_get {r : Int} {C i k : Nat} {xs : List (Bool × List Nat)} (hx : xs.length ≤ 4096) (hl : i * C + k < xs.length) : Ctr Tryz.prog 79 [isM r (C : Int) xs, isI (i : Int), isI (k : Int)] (Flat (zc (xs.getD (i * C + k) (false, [])))) := by
 refine Ctr.intro Tryz.func79 rfl (by kernel_rfl) Tryz.ntmps79 rfl fun w0 F0 => .cv (Cv.wk (.l [0, 1, 2] rfl)) (.fact (Has.rngI (Has.t (t := 1) rfl)) fun lt1 => .fact (Has.rngI (Has.t (t := 2) rfl)) fun lt2 => ?_)
 have hcp : ((i : Int) * (C : Int)) = ((i * C : Nat) : Int) := (Int.natCast_mul i C).symm
 refine .seq fun _ k1 => .region (.box (.t rfl) rfl fun b1 => .alloc [isB false, SlM isU []] zero31 (fun _ _ => ⟨rfl, nilM _ _, trivial⟩) rfl fun b2 => nl (.thn (k1 _ _ (.seq fun _ k2 => .region (st (.fieldAddr (.t rfl) fld24_2 ty22) rfl (st (.load1 (.t rfl) (i := 1) rfl ty22 rfl) rfl (st (.mv (.t rfl)) rfl (st (.fieldAddr (.t rfl) fld24_1 ty3) rfl (st (.load1 (.t rfl) (i := 1) rfl ty3 rfl) rfl (st (.eq (.mulI (.t rfl) (.t rfl) (by first | omega | (rw [hcp]; omega)) (by first | omega | (rw [hcp]; omega))) ((show isI _ = isI ((i * C : Nat) : Int) from isI_eq hcp))) rfl ?_))))))))))
 refine st (.mv (.t rfl)) rfl (st (.eq (.addI (.t rfl) (.t rfl) (by first | omega | (rw [hcp]; omega)) (by first | omega | (rw [hcp]; omega))) ((show isI _ = isI ((i * C + k : Nat) : Int) from isI_eq (by omega)))) rfl ?_)
 refine st (.ixK sl22 ty31 (.t rfl) (.t rfl) zc_len ⟨by omega, by omega⟩ (getD_some (d := (false, [])) (by first | omega | (simp only [Int.toNat_natCast, List.length_set]; omega)))) rfl ?_
 refine st (.loadP (.t rfl) ty31 rfl (Ss' := [_, _]) rfl) rfl (.store (.t rfl) (.t rfl) (i := 0) rfl ty31 rfl rfl (Ss' := [_, _]) rfl (M' := [(some _, cellM [_, _]), _]) rfl (nl (.thn (k2 _ _ (.cv (Cv.wk (.l [6] rfl)) (.ret (rt1 (.inl rfl) Tryz.results79 rfl (.cell rfl (i := 0) rfl ty31 rfl ?_ .nil))))))))
 all_goals (rfl)
theorem zmat_has {r c i : Int} {xs : List (Bool × List Nat)} : Ctr Tryz.prog 111 [isM r c xs, isI i] (isB (decide (0 ≤ i) && decide (i < r))) := by
 refine Ctr.intro Tryz.func111 rfl (by kernel_rfl) Tryz.ntmps111 rfl fun w0 F0 => .cv (Cv.wk (.l [0, 1] rfl)) (.fact (Has.rngI (Has.t (t := 1) rfl)) fun lt1 => .seq fun _ k1 => .region (.box (.t rfl) rfl fun b1 => st (.as (.cB false)) rfl (nl (.thn (k1 _ _ (.seq fun _ k2 => .region (st (.mv (.t rfl)) rfl (st (.geI (.t rfl) (.cI 0 rfl)) rfl (st (.mv (.t rfl)) rfl ?_)))))))))
 refine stT rfl rfl (fun hg => have hg' := BP.t hg; OK1.mv (.t rfl)) rfl ?_
 refine stT rfl rfl (fun hg => have hg' := BP.t hg; OK1.fieldAddr (.t rfl) fld24_0 ty3) rfl ?_
 refine stT rfl rfl (fun hg => have hg' := BP.t hg; OK1.load1 (Has.g rfl hg) (i := 0) rfl ty3 rfl) rfl ?_
 refine stT rfl rfl (fun hg => have hg' := BP.t hg; OK1.ltI (Has.g rfl hg) (Has.g rfl hg)) rfl ?_
 refine st (.pickAnd (.t rfl) (fun h => Has.g rfl h)) rfl (st (.as (.t rfl)) rfl (nl (.thn (k2 _ _ (.cv (Cv.wk (.l [4] rfl)) (.ret (rt1 (.inl rfl) Tryz.results111 rfl (.tmp (Has.t' rfl ?_) .nil))))))))
 all_goals (rfl)
theorem zmat_made {R C : Nat} {f : Nat → Nat → Bool × List Nat} (hR : R ≤ 64) (hC : C ≤ 64) (hf : ∀ i k, i < R → k < C → (List.length (words (val (f i k).2))) ≤ 4294967296) : Ctr Tryz.prog 77 [isI (R : Int), isI (C : Int), isAt Tryz.prog R C f] (isMz R C (tab (R * C) C fun i k => zv (f i k).1 (f i k).2)) := by
 refine Ctr.intro Tryz.func77 rfl (by kernel_rfl) Tryz.ntmps77 rfl fun w0 F0 => .cv (Cv.wk (.l [0, 1, 2] rfl)) (.fact (Has.rngI (Has.t (t := 0) rfl)) fun lt0 => .fact (Has.rngI (Has.t (t := 1) rfl)) fun lt1 => ?_)
 have hRC := side_le hR hC
 obtain ⟨G, hG⟩ : ∃ G : Nat → Nat → Int, G = fun i k => zv (f i k).1 (f i k).2 := ⟨_, rfl⟩
 rw [← hG]
 refine .seq fun _ k1 => .region (.alloc [isI 0, isI 0, nilS] zero24 (fun _ _ => ⟨⟨rfl, by decide, by decide⟩, ⟨rfl, by decide, by decide⟩, rfl, trivial⟩) rfl fun b1 => nl (.thn (k1 _ _ (.seq fun _ k2 => .region (st (.mv (.t rfl)) rfl (st (.mv (.t rfl)) rfl (st (.build [isI 0, isI 0, nilS] pl24 zero24 (fun _ _ => ⟨⟨rfl, by decide, by decide⟩, ⟨rfl, by decide, by decide⟩, rfl, trivial⟩) (.cons (.t rfl) rfl rfl rfl (.cons (.t rfl) rfl rfl rfl .nil)) (Z'' := [_, _, _]) rfl) rfl (.alloc [isI 0, isI 0, nilS] zero24 (fun _ _ => ⟨⟨rfl, by decide, by decide⟩, ⟨rfl, by decide, by decide⟩, rfl, trivial⟩) rfl fun b2 => .store (.t rfl) (.t rfl) (i := 0) rfl ty24 rfl rfl (Ss' := [_, _, _]) rfl (M' := [(some _, cellM [_, _, _]), _]) rfl (nl (.thn (k2 _ _ (.seq fun _ k3 => .seq fun _ k4 => .cv (Cv.growF (Bool × List Nat) (i := 0) (o := 2) rfl rfl rfl) (.memEq (M' := [grMK zc Gr.nil [], _, _]) rfl (.region (st (.mv (.t rfl)) rfl (st (.mv (.cI 0 rfl)) rfl (nl (.thn (k4 _ _ (.block (.loopF [1, 2, 6, 7, 14] (fun (z : { z : Nat × Gr (Bool × List Nat) // z.1 ≤ R }) => match z with | ⟨(i, g), hI⟩ => [(15, isI (i : Int))]) (fun M => fun (z : { z : Nat × Gr (Bool × List Nat) // z.1 ≤ R }) => match z with | ⟨(i, g), hI⟩ => [grMK zc g ((tab (i * C + 0) C G).map nz), (some b2, cellM [isI (R : Int), isI (C : Int), isGr g ((tab (i * C + 0) C G).map nz).length]), (some b1, cellM [isI 0, isI 0, nilS])]) (fun (z : { z : Nat × Gr (Bool × List Nat) // z.1 ≤ R }) => match z with | ⟨(i, g), hI⟩ => R - i) (⟨(0, Gr.nil), Nat.zero_le _⟩) (Cv.mem (.c 15 rfl ?_ (.l [1, 2, 6, 7, 14] rfl)) ?_) ?_)))))))))))))))))))))
 ·rfl
 ·exact grF_eq (n := 0) (ys := []) (by rw [List.length_map, tab_len, Nat.zero_mul]) (show [] = (tab (0 * C + 0) C G).map nz by rw [Nat.zero_mul]; rfl)
 rintro ⟨⟨i, g⟩, hI⟩ K5 hK5
 refine .cv (Cv.wk (.l [15, 1, 2, 6, 7, 14] rfl)) (.memEq (M' := [grMK zc g ((tab (i * C + 0) C G).map nz), (some b2, cellM [isI (R : Int), isI (C : Int), isGr g ((tab (i * C + 0) C G).map nz).length]), (some b1, cellM [isI 0, isI 0, nilS])]) rfl ?_)
 simp only [] at hI
 refine .seq fun _ k6 => .region (st (.ltI (.t rfl) (.t rfl)) rfl (nl (.thn (k6 _ _ (.seq fun _ k7 => .cond (.t rfl) (fun hc1 => ?_) (fun hc1 => ?_))))))
 ·have hc1 := BP.t hc1
  refine .skip (.thn (k7 _ _ (.seq fun _ k8 => .block (.seq fun _ k9 => .region (st (.mv (.t rfl)) rfl (st (.as (.t rfl)) rfl (nl (.thn (k9 _ _ (.seq fun _ k10 => .region (st (.mv (.t rfl)) rfl (st (.mv (.cI 0 rfl)) rfl (nl (.thn (k10 _ _ (.block (.loopF [1, 2, 6, 7, 14, 15, 16, 17, 8, 18] (fun (z : { z : Nat × Gr (Bool × List Nat) // z.1 ≤ C }) => match z with | ⟨(k, g2), hK⟩ => [(19, isI (k : Int))]) (fun M => fun (z : { z : Nat × Gr (Bool × List Nat) // z.1 ≤ C }) => match z with | ⟨(k, g2), hK⟩ => [grMK zc g2 ((tab (i * C + k) C G).map nz), (some b2, cellM [isI (R : Int), isI (C : Int), isGr g2 ((tab (i * C + k) C G).map nz).length]), (some b1, cellM [isI 0, isI 0, nilS])]) (fun (z : { z : Nat × Gr (Bool × List Nat) // z.1 ≤ C }) => match z with | ⟨(k, g2), hK⟩ => C - k) (⟨(0, g), Nat.zero_le _⟩) (Cv.mem (.c 19 rfl ?_ (.l [1, 2, 6, 7, 14, 15, 16, 17, 8, 18] rfl)) ?_) ?_)))))))))))))))))
  ·rfl
  ·rfl
  rintro ⟨⟨k, g2⟩, hK⟩ K11 hK11
  refine .cv (Cv.wk (.l [19, 1, 2, 6, 7, 14, 15, 16, 17, 8, 18] rfl)) (.memEq (M' := [grMK zc g2 ((tab (i * C + k) C G).map nz), (some b2, cellM [isI (R : Int), isI (C : Int), isGr g2 ((tab (i * C + k) C G).map nz).length]), (some b1, cellM [isI 0, isI 0, nilS])]) rfl ?_)
  simp only [] at hK
  refine .seq fun _ k12 => .region (st (.ltI (.t rfl) (.t rfl)) rfl (nl (.thn (k12 _ _ (.seq fun _ k13 => .cond (.t rfl) (fun hc2 => ?_) (fun hc2 => ?_))))))
  ·have hc2 := BP.t hc2
   refine .skip (.thn (k13 _ _ (.seq fun _ k14 => .block (.seq fun _ k15 => .region (st (.mv (.t rfl)) rfl (st (.as (.t rfl)) rfl (nl (.thn (k15 _ _ (.seq fun _ k16 => .region (st (.mv (.t rfl)) rfl (st (.mv (.t rfl)) rfl (st (.mv (.t rfl)) rfl (st (.callV ⟨(i, k), by omega, by omega⟩ (.t rfl) (.cons (.t rfl) (.cons (.t rfl) .nil))) rfl (.alloc [isB false, SlM isU []] zero31 (fun _ _ => ⟨rfl, nilM _ _, trivial⟩) rfl fun b3 => .store (.t rfl) (.t rfl) (i := 0) rfl ty31 rfl rfl (Ss' := [_, _]) rfl (M' := [(some _, cellM [_, _]), _, _, _]) rfl (nl (.thn (k16 _ _ (.dr (.s [] rfl rfl rfl (.o rfl (.fieldAddr (.t rfl) fld24_2 ty22)) (.s [26] rfl rfl rfl (.o rfl (.load1 (.t rfl) (i := 2) rfl ty22 rfl)) (.s [] rfl rfl rfl (.o rfl (.fieldAddr (.t rfl) fld31_1 ty29)) (.s [28] rfl rfl rfl (.o rfl (.load1 (.t rfl) (i := 0) rfl ty29 rfl)) (.s [] rfl rfl rfl (.o rfl (.fieldAddr (.t rfl) fld31_0 ty4)) (.s [30] rfl rfl rfl (.o rfl (.load1 (.t rfl) (i := 0) rfl ty4 rfl)) (.s [29, 31] rfl rfl rfl (.o rfl (.eq (.call (zint_From (hf i k (by omega) (by omega))) (.cons (.t rfl) (.cons (.t rfl) .nil))) ((show isZ _ = Flat (zc (nz (G i k))) from isZ_eq (by rw [hG]))))) (.s [32] rfl rfl rfl (.o rfl (.buildS [isB false, SlM isU []] sl22 ty31 zero31 (fun _ _ => ⟨rfl, nilM _ _, trivial⟩) rfl rfl (.cons (.t rfl) rfl rfl rfl .nil) rfl (S := SlK 2 zc [nz (G i k)]) rfl)) (.fin (n := 8) mixed (by kernel_rfl) (by kernel_rfl) (by kernel_rfl) (.cv (Cv.wk (.l [1, 2, 6, 7, 14, 15, 16, 17, 8, 18, 19, 20, 21, 9, 22, 23, 24, 25, 10, 26, 27, 28, 29, 30, 31, 32, 33] rfl)) (.appendGK (fk := zc) (u := (false, [])) zc_len (by decide) (fun _ => inferInstance) sl22 ty31 zero31 (fun _ _ => ⟨rfl, nilM _ _, trivial⟩) by31 (.t rfl) (i := 1) rfl (.t rfl) (by have hpl := place_lt (show i < R by omega) (show k < C by omega); rw [List.length_map, tab_len]; show i * C + k + 1 ≤ _; omega) (by simp) rfl fun gr1 => ?_))))))))))))))))))))))))))))))
   refine .memEq (M' := [_, grMK _ _ _, _, _]) rfl (st (.fieldAddr (.t rfl) fld24_2 ty22) rfl (.store (.t rfl) (.t rfl) (i := 2) rfl ty22 rfl rfl (Ss' := [_, _, _]) rfl (M' := [_, _, (some _, cellM [_, _, _]), _]) rfl (nl (.bln (.thn (k14 _ _ (.region (st (.addI (.t rfl) (.cI 1 rfl) (by first | omega | assumption) (by first | omega | assumption)) rfl (st (.mv (.t rfl)) rfl (nl (.thn ?_)))))))))))
   have hpl := place_lt (show i < R by omega) (show k < C by omega)
   refine hK11 (⟨(k + 1, gr1), by show k + 1 ≤ C; omega⟩) _ _ ?_ (Cv.trans (Cv.drop ((.cons _ (.cons_cons _ (.cons_cons _ (.cons_cons _ .slnil)))))) (Cv.mem (.c 19 rfl ?_ (.l [1, 2, 6, 7, 14, 15, 16, 17, 8, 18] rfl)) ?_))
   ·show C - (k + 1) < C - k; omega
   ·exact isI_eq (by omega)
   ·exact grF_eq (by rw [← tab_succ G (show k < C by omega), List.map_append, List.length_append]; rfl) (by rw [← tab_succ G (show k < C by omega), List.map_append]; rfl)
  ·have hc2 := BP.f hc2
   refine .exit (.the (.the (.blh (.bln (.thn (k8 _ _ (.region (st (.addI (.t rfl) (.cI 1 rfl) (by first | omega | assumption) (by first | omega | assumption)) rfl (st (.mv (.t rfl)) rfl (nl (.thn ?_)))))))))))
   have hkC : k = C := by omega
   subst hkC
   refine hK5 (⟨(i + 1, g2), by show i + 1 ≤ R; omega⟩) _ _ ?_ (Cv.mem (.c 15 rfl ?_ (.l [1, 2, 6, 7, 14] rfl)) ?_)
   ·show R - (i + 1) < R - i; omega
   ·exact isI_eq (by omega)
   ·exact grF_eq (by rw [tab_next]) (by rw [tab_next])
 ·have hc1 := BP.f hc1
  refine .exit (.the (.the (.blh (.thn (k3 _ _ (.cv (Cv.wk (.l [6, 7] rfl)) (.seq fun _ k17 => .cv (Cv.freezeF (k := 2) (i := 0) (j := 0) (o := 2) rfl rfl rfl rfl (gr_lenK zc_len) (gr_takeK zc_len) (Ss' := [_, _, SlK 2 zc ((tab (i * C + 0) C G).map nz)]) rfl) (.memEq (M' := [(some _, cellM [_, _, SlK 2 zc ((tab (i * C + 0) C G).map nz)]), _]) rfl (.cv (Cv.wk (.l [6, 7] rfl)) (.region (st (.load (.t rfl) (i := 0) rfl ty24 rfl (Ss' := [_, _, _]) rfl) rfl (.store (.t rfl) (.t rfl) (i := 1) rfl ty24 rfl rfl (Ss' := [_, _, _]) rfl (M' := [_, (some _, cellM [_, _, _])]) rfl (nl (.thn (k17 _ _ (.ret (rt1 (.inl rfl) Tryz.results77 rfl (.cell rfl (i := 1) rfl ty24 rfl ?_ .nil))))))))))))))))))
  all_goals (rw [Nat.add_zero, show i = R by omega])
theorem zmat_Of_1 {C i k : Nat} {l : List Int} (hx : l.length ≤ 4096) (hl : i * C + k < l.length) : Ctr Tryz.prog 146 [isI (i : Int), isI (k : Int), PtrL [SlM isI l], PtrL [isI (C : Int)]] (isZ (cf l (i * C + k))) := by
 refine Ctr.intro Tryz.func146 rfl (by kernel_rfl) Tryz.ntmps146 rfl fun w0 F0 => .cv (Cv.wk (.l [0, 1, 2, 3] rfl)) (.fact (Has.rngI (Has.t (t := 0) rfl)) fun lt0 => .fact (Has.rngI (Has.t (t := 1) rfl)) fun lt1 => ?_)
 have hcp : ((i : Int) * (C : Int)) = ((i * C : Nat) : Int) := (Int.natCast_mul i C).symm
 refine .seq fun _ k1 => .region (.alloc [isB false, SlM isU []] zero31 (fun _ _ => ⟨rfl, nilM _ _, trivial⟩) rfl fun b1 => nl (.thn (k1 _ _ (.seq fun _ k2 => .region (st (.loadP1 (.t rfl) ty174) rfl (st (.mv (.t rfl)) rfl (st (.loadP1 (.t rfl) ty3) rfl (st (.eq (.mulI (.t rfl) (.t rfl) (by first | omega | (rw [hcp]; omega)) (by first | omega | (rw [hcp]; omega))) ((show isI _ = isI ((i * C : Nat) : Int) from isI_eq hcp))) rfl ?_))))))))
 refine st (.mv (.t rfl)) rfl (st (.eq (.addI (.t rfl) (.t rfl) (by first | omega | (rw [hcp]; omega)) (by first | omega | (rw [hcp]; omega))) ((show isI _ = isI ((i * C + k : Nat) : Int) from isI_eq (by omega)))) rfl ?_)
 refine st (.ixP sl174 ty2 (.t rfl) (.t rfl) ⟨by omega, by omega⟩ (getD_some (d := 0) (by first | omega | (simp only [Int.toNat_natCast, List.length_set]; omega)))) rfl ?_
 refine st (.loadP1 (.t rfl) ty2) rfl (st (.call (zint_Of) (.cons (.t rfl) .nil)) rfl (.store (.t rfl) (.t rfl) (i := 0) rfl ty31 rfl rfl (Ss' := [_, _]) rfl (M' := [(some _, cellM [_, _])]) rfl (nl (.thn (k2 _ _ (.cv (Cv.wk (.l [6] rfl)) (.ret (rt1 (.inl rfl) Tryz.results146 rfl (.cell rfl (i := 0) rfl ty31 rfl ?_ .nil)))))))))
 all_goals (rfl)
theorem zmat_Of {R C : Nat} {l : List Int} (hR : R ≤ 64) (hC : C ≤ 64) (hl : l.length = R * C) (hb : ∀ y ∈ l, -9223372036854775808 ≤ y ∧ y < 9223372036854775808) : Ctr Tryz.prog 68 [isI (R : Int), isI (C : Int), SlM isI l] (isTup [isMz R C (tab (R * C) C fun i k => cf l (i * C + k)), isI 0]) := by
 refine Ctr.intro Tryz.func68 rfl (by kernel_rfl) Tryz.ntmps68 rfl fun w0 F0 => .cv (Cv.wk (.l [0, 1, 2] rfl)) (.fact (Has.rngI (Has.t (t := 0) rfl)) fun lt0 => .fact (Has.rngI (Has.t (t := 1) rfl)) fun lt1 => .fact (Has.lenLt (Has.t (t := 2) rfl)) fun lt2 => ?_)
 have hRC := side_le hR hC
 have hcp : ((R : Int) * (C : Int)) = ((R * C : Nat) : Int) := (Int.natCast_mul R C).symm
 refine .seq fun _ k1 => .region (.box (.t rfl) rfl fun b1 => .box (.t rfl) rfl fun b2 => .alloc [isI 0, isI 0, nilS] zero24 (fun _ _ => ⟨⟨rfl, by decide, by decide⟩, ⟨rfl, by decide, by decide⟩, rfl, trivial⟩) rfl fun b3 => st (.as (.cI 0 rfl)) rfl (nl (.thn (k1 _ _ (.seq fun _ k2 => .block (.seq fun _ k3 => .region (st (.mv (.t rfl)) rfl (st (.call (zmat_side) (.cons (.t rfl) .nil)) rfl (st (.not (.t rfl)) rfl (st (.mv (.t rfl)) rfl ?_))))))))))
 refine stF rfl rfl (fun hg => have hg' := BP.t hg; OK1.load1 (.t rfl) (i := 2) rfl ty3 rfl) rfl ?_
 refine stF rfl rfl (fun hg => have hg' := BP.t hg; OK1.call (zmat_side) (.cons (Has.g rfl hg) .nil)) rfl ?_
 refine stF rfl rfl (fun hg => have hg' := BP.t hg; OK1.not (Has.g rfl hg)) rfl ?_
 refine st (.pickOr (.t rfl) (fun h => Has.g rfl (ng h))) rfl (st (.as (.t rfl)) rfl (nl (.thn (k3 _ _ (.cv (Cv.wk (.l [0, 4, 5, 6, 7, 8] rfl)) (.cond (.t rfl) (fun hc1 => ?_) (fun hc1 => ?_)))))))
 ·have hc1 := BP.t hc1
  omega
 ·have hc1 := BP.f hc1
  refine .seq fun _ k4 => .region (st (.load1 (.t rfl) (i := 1) rfl ty174 rfl) rfl (st (.len sl174 (.t rfl)) rfl (st (.mv (.t rfl)) rfl (st (.load1 (.t rfl) (i := 2) rfl ty3 rfl) rfl (st (.mulI (.t rfl) (.t rfl) (by rw [hcp]; omega) (by rw [hcp]; omega)) rfl ?_)))))
  refine st (.neI (.t rfl) (.t rfl)) rfl (st (.as (.t rfl)) rfl (nl (.thn (k4 _ _ (.cv (Cv.wk (.l [0, 4, 5, 6, 7, 18] rfl)) (.cond (.t rfl) (fun hc2 => ?_) (fun hc2 => ?_)))))))
  ·have hc2 := BP.t hc2
   rw [hcp] at hc2; omega
  ·have hc2 := BP.f hc2
   refine .skip (.bln (.thn (k2 _ _ (.seq fun _ k5 => .region (st (.mv (.t rfl)) rfl (st (.load1 (.t rfl) (i := 2) rfl ty3 rfl) rfl (.cv (Cv.freezeBox (t := 5) (i := 1) rfl rfl rfl) (.memEq (M' := [_, _]) rfl (.cv (Cv.wk (.l [0, 4, 5, 6, 7, 18, 26, 27] rfl)) (.cv (Cv.freezeBox (t := 4) (i := 1) rfl rfl rfl) (.memEq (M' := [_]) rfl (.cv (Cv.wk (.l [0, 4, 5, 6, 7, 18, 26, 27] rfl)) (st (.makeFn (ι := PI R C) (As := fun p => [isI (p.1.1 : Int), isI (p.1.2 : Int)]) (R := fun p => Flat (zc (nz (cf l (p.1.1 * C + p.1.2))))) (fun p => zmat_Of_1 (by omega) (by rw [hl]; exact place_lt p.2.1 p.2.2)) .nil (.cons (.t rfl) (.cons (.t rfl) .nil))) rfl ?_)))))))))))))
   refine st (.call (zmat_made (f := fun i k => nz (cf l (i * C + k))) hR hC (fun i k _ _ => by rw [val_words]; exact Nat.le_trans (bd64 hb _) (by decide))) (.cons (.t rfl) (.cons (.t rfl) (.cons (.t rfl) .nil)))) rfl ?_
   refine .store (.t rfl) (.t rfl) (i := 0) rfl ty24 rfl rfl (Ss' := [_, _, _]) rfl (M' := [(some _, cellM [_, _, _])]) rfl (st (.as (.cI 0 rfl)) rfl (nl (.thn (k5 _ _ (.cv (Cv.wk (.l [6, 7] rfl)) (.ret (rtN (.inl rfl) Tryz.results68 rfl rfl (.cell rfl (i := 0) rfl ty24 rfl ?_ (.tmp (Has.t' rfl ?_) .nil)))))))))
   ·exact isMz_eq (by rw [zvz fun i k => cf l (i * C + k)])
   ·rfl
theorem zmat_At {R C i k : Nat} {xs : List (Bool × List Nat)} {K : Nat} (hx : Bd (vals xs) K) (hK : K ≤ 4000000000) (hR : R ≤ 64) (hC : C ≤ 64) (hl : xs.length = R * C) (hi : i < R) (hk : k < C) : Ctr Tryz.prog 37 [isM (R : Int) (C : Int) xs, isI (i : Int), isI (k : Int)] (isZ (cf (vals xs) (i * C + k))) := by
 refine Ctr.intro Tryz.func37 rfl (by kernel_rfl) Tryz.ntmps37 rfl fun w0 F0 => .cv (Cv.wk (.l [0, 1, 2] rfl)) (.fact (Has.rngI (Has.t (t := 1) rfl)) fun lt1 => .fact (Has.rngI (Has.t (t := 2) rfl)) fun lt2 => ?_)
 have hRC := side_le hR hC
 have hpl := place_lt hi hk
 have hfo := formB_true hR hC hl
 have hxr := hx.raw (i * C + k)
 refine .seq fun _ k1 => .region (.box (.t rfl) rfl fun b1 => .alloc [isB false, SlM isU []] zero31 (fun _ _ => ⟨rfl, nilM _ _, trivial⟩) rfl fun b2 => nl (.thn (k1 _ _ (.seq fun _ k2 => .seq fun _ k3 => .region (st (.load (.t rfl) (i := 1) rfl ty24 rfl (Ss' := [_, _, _]) rfl) rfl (st (.eq (.call (zmat_Formed) (.cons (.t rfl) .nil)) ((show isB _ = isB true from isB_eq hfo))) rfl (st (.not (.t rfl)) rfl (st (.mv (.t rfl)) rfl ?_))))))))
 refine stF rfl rfl (fun hg => have hg' := BP.t hg; OK1.load (.t rfl) (i := 1) rfl ty24 rfl (Ss' := [_, _, _]) rfl) rfl ?_
 refine stF rfl rfl (fun hg => have hg' := BP.t hg; OK1.mv (.t rfl)) rfl ?_
 refine stF rfl rfl (fun hg => have hg' := BP.t hg; OK1.call (zmat_has) (.cons (Has.g rfl hg) (.cons (Has.g rfl hg) .nil))) rfl ?_
 refine stF rfl rfl (fun hg => have hg' := BP.t hg; OK1.not (Has.g rfl hg)) rfl ?_
 refine st (.pickOr (.t rfl) (fun h => Has.g rfl (ng h))) rfl (st (.mv (.t rfl)) rfl ?_)
 refine stF rfl rfl (fun hg => have hg' := BP.t hg; OK1.mv (.t rfl)) rfl ?_
 refine stF rfl rfl (fun hg => have hg' := BP.t hg; OK1.ltI (Has.g rfl hg) (.cI 0 rfl)) rfl ?_
 refine st (.pickOr (.t rfl) (fun h => Has.g rfl (ng h))) rfl (st (.mv (.t rfl)) rfl ?_)
 refine stF rfl rfl (fun hg => have hg' := BP.t hg; OK1.mv (.t rfl)) rfl ?_
 refine stF rfl rfl (fun hg => have hg' := BP.t hg; OK1.fieldAddr (.t rfl) fld24_1 ty3) rfl ?_
 refine stF rfl rfl (fun hg => have hg' := BP.t hg; OK1.load1 (Has.g rfl hg) (i := 1) rfl ty3 rfl) rfl ?_
 refine stF rfl rfl (fun hg => have hg' := BP.t hg; OK1.geI (Has.g rfl hg) (Has.g rfl hg)) rfl ?_
 refine st (.pickOr (.t rfl) (fun h => Has.g rfl (ng h))) rfl (nl (.thn (k3 _ _ (.cv (Cv.wk (.l [1, 2, 3, 6, 26] rfl)) (.cond (.t rfl) (fun hc1 => ?_) (fun hc1 => ?_))))))
 ·have hc1 := BP.t hc1
  simp at hc1; omega
 ·have hc1 := BP.f hc1
  refine .skip (.thn (k2 _ _ (.seq fun _ k4 => .region (st (.load (.t rfl) (i := 1) rfl ty24 rfl (Ss' := [_, _, _]) rfl) rfl (st (.mv (.t rfl)) rfl (st (.mv (.t rfl)) rfl (st (.call (zmat_get (i := i) (k := k) (by omega) (by omega)) (.cons (.t rfl) (.cons (.t rfl) (.cons (.t rfl) .nil)))) rfl (.alloc [isB false, SlM isU []] zero31 (fun _ _ => ⟨rfl, nilM _ _, trivial⟩) rfl fun b3 => .store (.t rfl) (.t rfl) (i := 0) rfl ty31 rfl rfl (Ss' := [_, _]) rfl (M' := [(some _, cellM [_, _]), _, _]) rfl (nl (.thn (k4 _ _ (.cv (Cv.wk (.l [6, 7] rfl)) (.seq fun _ k5 => .region (st (.fieldAddr (.t rfl) fld31_1 ty29) rfl (st (.load1 (.t rfl) (i := 0) rfl ty29 rfl) rfl (st (.fieldAddr (.t rfl) fld31_0 ty4) rfl (st (.load1 (.t rfl) (i := 0) rfl ty4 rfl) rfl (st (.call (zint_From (by first | omega | assumption)) (.cons (.t rfl) (.cons (.t rfl) .nil))) rfl (.store (.t rfl) (.t rfl) (i := 1) rfl ty31 rfl rfl (Ss' := [_, _]) rfl (M' := [_, (some _, cellM [_, _]), _]) rfl (nl (.thn (k5 _ _ (.cv (Cv.wk (.l [6] rfl)) (.ret (rt1 (.inl rfl) Tryz.results37 rfl (.cell rfl (i := 1) rfl ty31 rfl ?_ .nil))))))))))))))))))))))))))
  all_goals (exact isZ_eq (by rw [cf_vals]))
theorem zmat_Mul_1 {R C D i k K L : Nat} {xs ys : List (Bool × List Nat)} (hx : Bd (vals xs) K) (hy : Bd (vals ys) L) (hK : K + L ≤ 400000000) (hC : C ≤ 64) (hxl : xs.length = R * C) (hyl : ys.length = C * D) (hxm : xs.length ≤ 4096) (hym : ys.length ≤ 4096) (hi : i < R) (hk : k < D) : Ctr Tryz.prog 177 [isI (i : Int), isI (k : Int), ptM (R : Int) (C : Int) xs, ptM (C : Int) (D : Int) ys] (isZ (dotS (fun j => cf (vals xs) (i * C + j)) (fun j => cf (vals ys) (j * D + k)) C)) := by
 refine Ctr.intro Tryz.func177 rfl (by kernel_rfl) Tryz.ntmps177 rfl fun w0 F0 => .cv (Cv.wk (.l [0, 1, 2, 3] rfl)) (.fact (Has.rngI (Has.t (t := 0) rfl)) fun lt0 => .fact (Has.rngI (Has.t (t := 1) rfl)) fun lt1 => ?_)
 obtain ⟨f, hf⟩ : ∃ f : Nat → Int, f = fun j => cf (vals xs) (i * C + j) := ⟨_, rfl⟩
 obtain ⟨g, hg⟩ : ∃ g : Nat → Int, g = fun j => cf (vals ys) (j * D + k) := ⟨_, rfl⟩
 rw [← hf, ← hg]
 refine .seq fun _ k1 => .region (.alloc [isB false, SlM isU []] zero31 (fun _ _ => ⟨rfl, nilM _ _, trivial⟩) rfl fun b1 => nl (.thn (k1 _ _ (.seq fun _ k2 => .region (.alloc [isB false, SlM isU []] zero31 (fun _ _ => ⟨rfl, nilM _ _, trivial⟩) rfl fun b2 => nl (.thn (k2 _ _ (.seq fun _ k3 => .seq fun _ k4 => .region (st (.fieldAddrP (.t rfl) fld24_1 ty3 (Ss' := [_, _]) rfl) rfl (st (.loadP1 (.t rfl) ty3) rfl (st (.mv (.cI 0 rfl)) rfl (nl (.thn (k4 _ _ (.block (.loopF [0, 1, 2, 3, 6, 7, 10] (fun (z : { j : Nat // j ≤ C }) => match z with | ⟨j, hj⟩ => [(11, isI (j : Int))]) (fun M => fun (z : { j : Nat // j ≤ C }) => match z with | ⟨j, hj⟩ => [zM b2 (dotS f g j), (some b1, cellM [isB false, SlM isU []])]) (fun (z : { j : Nat // j ≤ C }) => match z with | ⟨j, hj⟩ => C - j) (⟨0, Nat.zero_le _⟩) (Cv.mem (.c 11 rfl ?_ (.l [0, 1, 2, 3, 6, 7, 10] rfl)) ?_) ?_))))))))))))))))
 ·rfl
 ·exact zM0
 rintro ⟨j, hj⟩ K5 hK5
 refine .cv (Cv.wk (.l [11, 0, 1, 2, 3, 6, 7, 10] rfl)) (.memEq (M' := [zM b2 (dotS f g j), (some b1, cellM [isB false, SlM isU []])]) rfl ?_)
 have hds := dotS_nw (f := f) (g := g) (K := K) (L := L) (fun j => by rw [hf]; exact hx _) (fun j => by rw [hg]; exact hy _) j
 refine .seq fun _ k6 => .region (st (.ltI (.t rfl) (.t rfl)) rfl (nl (.thn (k6 _ _ (.seq fun _ k7 => .cond (.t rfl) (fun hc1 => ?_) (fun hc1 => ?_))))))
 ·have hc1 := BP.t hc1
  have hj2 : j < C := (by omega)
  have hp1 := place_lt hi hj2
  have hp2 := place_lt hj2 hk
  have hxr := hx.raw (i * C + j)
  have hyr := hy.raw (j * D + k)
  have hfj : f j = cf (vals xs) (i * C + j) := by rw [hf]
  have hgj : g j = cf (vals ys) (j * D + k) := by rw [hg]
  have hfk := hx (i * C + j)
  have hgk := hy (j * D + k)
  have hmm := nz_mul (f j) (g j)
  rw [← hfj] at hfk
  rw [← hgj] at hgk
  refine .skip (.thn (k7 _ _ (.seq fun _ k8 => .block (.seq fun _ k9 => .region (st (.mv (.t rfl)) rfl (st (.as (.t rfl)) rfl (nl (.thn (k9 _ _ (.dr (.s [] rfl rfl rfl (.o rfl (.load (.t rfl) (i := 0) rfl ty31 rfl (Ss' := [_, _]) rfl)) (.s [] rfl rfl rfl (.o rfl (.loadP (.t rfl) ty24 rfl (Ss' := [_, _, _]) rfl)) (.s [] rfl rfl rfl (.o rfl (.mv (.t rfl))) (.s [] rfl rfl rfl (.o rfl (.mv (.t rfl))) (.s [15, 16, 17] rfl rfl rfl (.o rfl (.call (zmat_get (i := i) (k := j) hxm (by omega)) (.cons (.t rfl) (.cons (.t rfl) (.cons (.t rfl) .nil))))) (.s [] rfl rfl rfl (.o rfl (.loadP (.t rfl) ty24 rfl (Ss' := [_, _, _]) rfl)) (.s [] rfl rfl rfl (.o rfl (.mv (.t rfl))) (.s [] rfl rfl rfl (.o rfl (.mv (.t rfl))) (.s [19, 20, 21] rfl rfl rfl (.o rfl (.call (zmat_get (i := j) (k := k) hym (by omega)) (.cons (.t rfl) (.cons (.t rfl) (.cons (.t rfl) .nil))))) (.s [18, 22] rfl rfl rfl (.o rfl (.eq (.call (zint_Mul (by omega) (by omega)) (.cons (.t rfl) (.cons (.t rfl) .nil))) ((show isZ _ = isZ (f j * g j) from isZ_eq (by rw [hfj, hgj, cf_vals, cf_vals]))))) (.fin (n := 10) mixed (by kernel_rfl) (by kernel_rfl) (by kernel_rfl) (.cv (Cv.wk (.l [0, 1, 2, 3, 6, 7, 10, 11, 12, 13, 8, 14, 15, 16, 17, 18, 19, 20, 21, 22, 23] rfl)) (st (.eq (.call (zint_Add (by rw [val_words]; omega) (by rw [val_words]; omega)) (.cons (.t rfl) (.cons (.t rfl) .nil))) ((show isZ _ = isZ (dotS f g j + f j * g j) from isZ_eq (by simp only [zv_nf])))) rfl ?_)))))))))))))))))))))))
  refine .store (.t rfl) (.t rfl) (i := 0) rfl ty31 rfl rfl (Ss' := [_, _]) rfl (M' := [(some _, cellM [_, _]), _]) rfl (nl (.bln (.thn (k8 _ _ (.region (st (.addI (.t rfl) (.cI 1 rfl) (by first | omega | assumption) (by first | omega | assumption)) rfl (st (.mv (.t rfl)) rfl (nl (.thn (hK5 (⟨j + 1, by omega⟩) _ _ ?_ (Cv.mem (.c 11 rfl ?_ (.l [0, 1, 2, 3, 6, 7, 10] rfl)) ?_)))))))))))
  ·show C - (j + 1) < C - j; omega
  ·exact isI_eq (by omega)
  ·rfl
 ·have hc1 := BP.f hc1
  refine .exit (.the (.the (.blh (.thn (k3 _ _ (.cv (Cv.wk (.l [6, 7] rfl)) (.seq fun _ k10 => .region (st (.load (.t rfl) (i := 0) rfl ty31 rfl (Ss' := [_, _]) rfl) rfl (.store (.t rfl) (.t rfl) (i := 1) rfl ty31 rfl rfl (Ss' := [_, _]) rfl (M' := [_, (some _, cellM [_, _])]) rfl (nl (.thn (k10 _ _ (.ret (rt1 (.inl rfl) Tryz.results177 rfl (.cell rfl (i := 1) rfl ty31 rfl ?_ .nil)))))))))))))))
  all_goals (exact isZ_eq (by rw [show j = C by omega]))
theorem zmat_Mul {R C D K L : Nat} {xs ys : List (Bool × List Nat)} (hx : Bd (vals xs) K) (hy : Bd (vals ys) L) (hK : K + L ≤ 400000000) (hR : R ≤ 64) (hC : C ≤ 64) (hD : D ≤ 64) (hxl : xs.length = R * C) (hyl : ys.length = C * D) : Ctr Tryz.prog 106 [isM (R : Int) (C : Int) xs, isM (C : Int) (D : Int) ys] (isTup [isMz R D (tab (R * D) D fun i k => dotS (fun j => cf (vals xs) (i * C + j)) (fun j => cf (vals ys) (j * D + k)) C), isI 0]) := by
 refine Ctr.intro Tryz.func106 rfl (by kernel_rfl) Tryz.ntmps106 rfl fun w0 F0 => .cv (Cv.wk (.l [0, 1] rfl)) ?_
 have h1 := side_le hR hC
 have h2 := side_le hC hD
 have hf1 := formB_true hR hC hxl
 have hf2 := formB_true hC hD hyl
 refine .seq fun _ k1 => .region (.box (.t rfl) rfl fun b1 => .box (.t rfl) rfl fun b2 => .alloc [isI 0, isI 0, nilS] zero24 (fun _ _ => ⟨⟨rfl, by decide, by decide⟩, ⟨rfl, by decide, by decide⟩, rfl, trivial⟩) rfl fun b3 => st (.as (.cI 0 rfl)) rfl (nl (.thn (k1 _ _ (.seq fun _ k2 => .seq fun _ k3 => .region (st (.load (.t rfl) (i := 2) rfl ty24 rfl (Ss' := [_, _, _]) rfl) rfl (st (.eq (.call (zmat_Formed) (.cons (.t rfl) .nil)) ((show isB _ = isB true from isB_eq hf1))) rfl (st (.not (.t rfl)) rfl (st (.mv (.t rfl)) rfl ?_)))))))))
 refine stF rfl rfl (fun hg => have hg' := BP.t hg; OK1.load (.t rfl) (i := 1) rfl ty24 rfl (Ss' := [_, _, _]) rfl) rfl ?_
 refine stF rfl rfl (fun hg => have hg' := BP.t hg; OK1.eq (.call (zmat_Formed) (.cons (Has.g rfl hg) .nil)) ((show isB _ = isB true from isB_eq hf2))) rfl ?_
 refine stF rfl rfl (fun hg => have hg' := BP.t hg; OK1.not (Has.g rfl hg)) rfl ?_
 refine st (.pickOr (.t rfl) (fun h => Has.g rfl (ng h))) rfl (st (.mv (.t rfl)) rfl ?_)
 refine stF rfl rfl (fun hg => have hg' := BP.t hg; OK1.fieldAddr (.t rfl) fld24_1 ty3) rfl ?_
 refine stF rfl rfl (fun hg => have hg' := BP.t hg; OK1.load1 (Has.g rfl hg) (i := 2) rfl ty3 rfl) rfl ?_
 refine stF rfl rfl (fun hg => have hg' := BP.t hg; OK1.fieldAddr (.t rfl) fld24_0 ty3) rfl ?_
 refine stF rfl rfl (fun hg => have hg' := BP.t hg; OK1.load1 (Has.g rfl hg) (i := 1) rfl ty3 rfl) rfl ?_
 refine stF rfl rfl (fun hg => have hg' := BP.t hg; OK1.neI (Has.g rfl hg) (Has.g rfl hg)) rfl ?_
 refine st (.pickOr (.t rfl) (fun h => Has.g rfl (ng h))) rfl (nl (.thn (k3 _ _ (.cv (Cv.wk (.l [2, 3, 4, 5, 20] rfl)) (.cond (.t rfl) (fun hc1 => ?_) (fun hc1 => ?_))))))
 ·have hc1 := BP.t hc1
  simp at hc1
 ·have hc1 := BP.f hc1
  refine .skip (.thn (k2 _ _ (.seq fun _ k4 => .region (st (.fieldAddr (.t rfl) fld24_0 ty3) rfl (st (.load1 (.t rfl) (i := 2) rfl ty3 rfl) rfl (st (.fieldAddr (.t rfl) fld24_1 ty3) rfl (st (.load1 (.t rfl) (i := 1) rfl ty3 rfl) rfl (.cv (Cv.freezeBox (t := 2) (i := 2) rfl rfl rfl) (.memEq (M' := [_, _]) rfl (.cv (Cv.wk (.l [2, 3, 4, 5, 20, 23, 24, 25] rfl)) (.cv (Cv.freezeBox (t := 3) (i := 1) rfl rfl rfl) (.memEq (M' := [_]) rfl (.cv (Cv.wk (.l [2, 3, 4, 5, 20, 23, 25] rfl)) (st (.makeFn (ι := PI R D) (As := fun p => [isI (p.1.1 : Int), isI (p.1.2 : Int)]) (R := fun p => Flat (zc (nz (dotS (fun j => cf (vals xs) (p.1.1 * C + j)) (fun j => cf (vals ys) (j * D + p.1.2)) C)))) (fun p => zmat_Mul_1 hx hy hK hC hxl hyl (by omega) (by omega) p.2.1 p.2.2) .nil (.cons (.t rfl) (.cons (.t rfl) .nil))) rfl ?_))))))))))))))
  refine st (.call (zmat_made (f := fun i k => nz (dotS (fun j => cf (vals xs) (i * C + j)) (fun j => cf (vals ys) (j * D + k)) C)) hR hD (fun i k _ _ => by rw [val_words]; have := dotS_nw (f := fun j => cf (vals xs) (i * C + j)) (g := fun j => cf (vals ys) (j * D + k)) (fun j => hx _) (fun j => hy _) C; omega)) (.cons (.t rfl) (.cons (.t rfl) (.cons (.t rfl) .nil)))) rfl ?_
  refine .store (.t rfl) (.t rfl) (i := 0) rfl ty24 rfl rfl (Ss' := [_, _, _]) rfl (M' := [(some _, cellM [_, _, _])]) rfl (st (.as (.cI 0 rfl)) rfl (nl (.thn (k4 _ _ (.cv (Cv.wk (.l [4, 5] rfl)) (.ret (rtN (.inl rfl) Tryz.results106 rfl rfl (.cell rfl (i := 0) rfl ty24 rfl ?_ (.tmp (Has.t' rfl ?_) .nil)))))))))
  ·exact isMz_eq (by rw [zvz fun i k => dotS (fun j => cf (vals xs) (i * C + j)) (fun j => cf (vals ys) (j * D + k)) C])
  ·rfl
theorem zmat_Transpose_1 {R C i k : Nat} {xs : List (Bool × List Nat)} (hxl : xs.length = R * C) (hxm : xs.length ≤ 4096) (hi : i < C) (hk : k < R) : Ctr Tryz.prog 194 [isI (i : Int), isI (k : Int), ptM (R : Int) (C : Int) xs] (Flat (zc (xs.getD (k * C + i) (false, [])))) := by
 refine Ctr.intro Tryz.func194 rfl (by kernel_rfl) Tryz.ntmps194 rfl fun w0 F0 => .cv (Cv.wk (.l [0, 1, 2] rfl)) (.fact (Has.rngI (Has.t (t := 0) rfl)) fun lt0 => .fact (Has.rngI (Has.t (t := 1) rfl)) fun lt1 => ?_)
 have hp := place_lt hk hi
 refine .seq fun _ k1 => .region (.alloc [isB false, SlM isU []] zero31 (fun _ _ => ⟨rfl, nilM _ _, trivial⟩) rfl fun b1 => nl (.thn (k1 _ _ (.seq fun _ k2 => .region (st (.loadP (.t rfl) ty24 rfl (Ss' := [_, _, _]) rfl) rfl (st (.mv (.t rfl)) rfl (st (.mv (.t rfl)) rfl (st (.call (zmat_get (i := k) (k := i) hxm (by omega)) (.cons (.t rfl) (.cons (.t rfl) (.cons (.t rfl) .nil)))) rfl (.store (.t rfl) (.t rfl) (i := 0) rfl ty31 rfl rfl (Ss' := [_, _]) rfl (M' := [(some _, cellM [_, _])]) rfl (nl (.thn (k2 _ _ (.cv (Cv.wk (.l [5] rfl)) (.ret (rt1 (.inl rfl) Tryz.results194 rfl (.cell rfl (i := 0) rfl ty31 rfl ?_ .nil))))))))))))))))
 all_goals (rfl)
theorem zmat_Transpose {R C K : Nat} {xs : List (Bool × List Nat)} (hx : Bd (vals xs) K) (hK : K ≤ 400000000) (hR : R ≤ 64) (hC : C ≤ 64) (hxl : xs.length = R * C) : Ctr Tryz.prog 121 [isM (R : Int) (C : Int) xs] (isTup [isMz C R (tab (C * R) R fun i k => cf (vals xs) (k * C + i)), isI 0]) := by
 refine Ctr.intro Tryz.func121 rfl (by kernel_rfl) Tryz.ntmps121 rfl fun w0 F0 => .cv (Cv.wk (.l [0] rfl)) ?_
 have h1 := side_le hR hC
 have hf1 := formB_true hR hC hxl
 refine .seq fun _ k1 => .region (.box (.t rfl) rfl fun b1 => .alloc [isI 0, isI 0, nilS] zero24 (fun _ _ => ⟨⟨rfl, by decide, by decide⟩, ⟨rfl, by decide, by decide⟩, rfl, trivial⟩) rfl fun b2 => st (.as (.cI 0 rfl)) rfl (nl (.thn (k1 _ _ (.seq fun _ k2 => .seq fun _ k3 => .region (st (.load (.t rfl) (i := 1) rfl ty24 rfl (Ss' := [_, _, _]) rfl) rfl (st (.eq (.call (zmat_Formed) (.cons (.t rfl) .nil)) ((show isB _ = isB true from isB_eq hf1))) rfl (st (.not (.t rfl)) rfl (nl (.thn (k3 _ _ (.cond (.t rfl) (fun hc1 => ?_) (fun hc1 => ?_)))))))))))))
 ·have hc1 := BP.t hc1
  simp at hc1
 ·have hc1 := BP.f hc1
  refine .skip (.thn (k2 _ _ (.seq fun _ k4 => .region (st (.fieldAddr (.t rfl) fld24_1 ty3) rfl (st (.load1 (.t rfl) (i := 1) rfl ty3 rfl) rfl (st (.fieldAddr (.t rfl) fld24_0 ty3) rfl (st (.load1 (.t rfl) (i := 1) rfl ty3 rfl) rfl (.cv (Cv.freezeBox (t := 1) (i := 1) rfl rfl rfl) (.memEq (M' := [_]) rfl (.cv (Cv.wk (.l [0, 1, 2, 3, 4, 5, 6, 9, 11] rfl)) (st (.makeFn (ι := PI C R) (As := fun p => [isI (p.1.1 : Int), isI (p.1.2 : Int)]) (R := fun p => Flat (zc (xs.getD (p.1.2 * C + p.1.1) (false, [])))) (fun p => zmat_Transpose_1 hxl (by omega) p.2.1 p.2.2) .nil (.cons (.t rfl) .nil)) rfl (st (.call (zmat_made (f := fun i k => xs.getD (k * C + i) (false, [])) hC hR (fun i k _ _ => Nat.le_trans (hx.raw _) (by omega))) (.cons (.t rfl) (.cons (.t rfl) (.cons (.t rfl) .nil)))) rfl (.store (.t rfl) (.t rfl) (i := 0) rfl ty24 rfl rfl (Ss' := [_, _, _]) rfl (M' := [(some _, cellM [_, _, _])]) rfl (st (.as (.cI 0 rfl)) rfl (nl (.thn (k4 _ _ (.cv (Cv.wk (.l [2, 3] rfl)) (.ret (rtN (.inl rfl) Tryz.results121 rfl rfl (.cell rfl (i := 0) rfl ty24 rfl ?_ (.tmp (Has.t' rfl ?_) .nil))))))))))))))))))))))
  ·exact isMz_eq (by congr 1; funext i k; rw [cf_vals])
  ·rfl
end Go.Proofs.YthkdmhaafanjlaaGreat
