/- Rules and contracts, part 4 of 6. -/
import Derived.Test.YthkdmhaafanjlaaGreatQModhnfInserts3
namespace Go.Proofs.YthkdmhaafanjlaaGreat
open Go.En Go.RowKit
set_option maxRecDepth 10000
set_option maxHeartbeats 4000000
open Go.Nt
theorem div_Small {xs : List Nat} {x : Nat} (hx : (List.length (words (val xs))) < 4294900000) : Ctr Tryz.prog 275 [isWords xs, isU x] (isTup [isWords (words (val xs / x)), isU (if x = 0 then 0 else val xs % x), isB (decide (x ≠ 0))]) := by
 refine Ctr.intro Tryz.func275 rfl (by kernel_rfl) Tryz.ntmps275 rfl fun w0 F0 => .cv (Cv.wk (.l [0, 1] rfl)) (.fact (Has.lenLt (Has.t (t := 0) rfl)) fun lt0 => .fact (Has.okW (Has.t (t := 0) rfl)) fun ok0 => .fact (Has.ltU (Has.t (t := 1) rfl)) fun lt1 => .seq fun _ k1 => .region (st (.as (.cW (f := isU))) rfl (st (.as (.cU 0 rfl)) rfl (st (.as (.cB false)) rfl (nl (.thn (k1 _ _ (.seq fun _ k2 => .seq fun _ k3 => .region (st (.mv (.t rfl)) rfl (st (.eqU (.t rfl) (.cU 0 rfl)) rfl (nl (.thn (k3 _ _ (.cond (.t rfl) (fun hc1 => ?_) (fun hc1 => ?_)))))))))))))))
 ·have hc1 := BP.t hc1
  refine .seq fun _ k4 => .region (st (.as (.cW (f := isU))) rfl (st (.as (.cU 0 rfl)) rfl (st (.as (.cB false)) rfl (nl (.thn (k4 _ _ (.ret (.thr (rtN (.inl rfl) Tryz.results275 rfl rfl (.tmp (Has.t' rfl ?_) (.tmp (Has.t' rfl ?_) (.tmp (Has.t' rfl ?_) .nil))))))))))))
  ·exact SlM_eq (by rw [hc1, Nat.div_zero, words_zero])
  ·exact isU_eq (by rw [if_pos hc1])
  ·exact isB_eq (by simp [hc1])
 ·have hc1 := BP.f hc1
  refine .skip (.thn (k2 _ _ (.seq fun _ k5 => .region (st (.mv (.t rfl)) rfl (.callO (nat_NormO (by omega)) (.cons (.t rfl) .nil) rfl (fun hO2 => ?_) (fun hO2 b1 cb1 jb1 => ?_))))))
  ·skip
   refine st (.as (.t rfl)) rfl (nl (.thn (k5 _ _ (.seq fun _ k6 => .region (st (.as (.cU 0 rfl)) rfl (nl (.thn (k6 _ _ (.seq fun _ k7 => .seq fun _ k8 => .region (st (.mv (.t rfl)) rfl (st (.len sl29 (.t rfl)) rfl (st (.subI (.t rfl) (.cI 1 rfl) (by first | omega | (simp only [List.length_nil]; omega)) (by first | omega | (simp only [List.length_nil]; omega))) rfl ?_))))))))))))
   refine st (.as (.t rfl)) rfl (nl (.thn (k8 _ _ (.cv (Cv.wk (.l [0, 1, 4, 5, 6, 7, 8] rfl)) (.block (.loopF [0, 1, 4, 5, 6] (fun (_ : Unit) => [(8, isI (-1)), (7, isU 0)]) (fun M => fun (_ : Unit) => M) (fun (_ : Unit) => 0) (()) (Cv.mem (.c 8 rfl ?_ (.c 7 rfl ?_ (.l [0, 1, 4, 5, 6] rfl))) ?_) ?_))))))
   ·rfl
   ·rfl
   ·rfl
   rintro _ K9 hK9
   refine .cv (Cv.wk (.l [8, 7, 0, 1, 4, 5, 6] rfl)) (.seq fun _ k10 => .seq fun _ k11 => .region (st (.mv (.t rfl)) rfl (st (.geI (.t rfl) (.cI 0 rfl)) rfl (nl (.thn (k11 _ _ (.cond (.t rfl) (fun hc3 => ?_) (fun hc3 => ?_))))))))
   ·have hc3 := BP.t hc3
    exfalso; first | omega | contradiction | (revert hc3; simp)
   ·have hc3 := BP.f hc3
    refine .exit (.the (.the (.blh (.thn (k7 _ _ (.seq fun _ k12 => .region (st (.mv (.t rfl)) rfl (st (.call (nat_Norm (by first | (rw [val_wordsN]; exact normLe (by omega)) | (show (words 0).length ≤ _; rw [words_zero]; exact Nat.zero_le _))) (.cons (.t rfl) .nil)) rfl ?_))))))))
    refine st (.mv (.t rfl)) rfl (st (.as (.t rfl)) rfl (st (.as (.t rfl)) rfl (st (.as (.cB true)) rfl (nl (.thn (k12 _ _ (.cv (Cv.wk (.l [4, 5, 6] rfl)) (.ret (rtN (.inl rfl) Tryz.results275 rfl rfl (.tmp (Has.t' rfl ?_) (.tmp (Has.t' rfl ?_) (.tmp (Has.t' rfl ?_) .nil))))))))))))
    ·exact SlM_eq (by rw [of_words_nil hO2, Nat.zero_div]; rfl)
    ·exact isU_eq (by rw [if_neg hc1, of_words_nil hO2, Nat.zero_mod])
    ·exact isB_eq (by simp [hc1])
  ·skip
   refine st (.as (.t rfl)) rfl (nl (.thn (k5 _ _ (.seq fun _ k13 => .region (st (.as (.cU 0 rfl)) rfl (nl (.thn (k13 _ _ (.seq fun _ k14 => .seq fun _ k15 => .region (st (.mv (.t rfl)) rfl (st (.len sl29 (.t rfl)) rfl (st (.subI (.t rfl) (.cI 1 rfl) (by first | omega | (simp only [List.length_nil]; omega)) (by first | omega | (simp only [List.length_nil]; omega))) rfl ?_))))))))))))
   refine st (.as (.t rfl)) rfl (nl (.thn (k15 _ _ (.cv (Cv.wk (.l [0, 1, 4, 5, 6, 7, 8] rfl)) (.block (.loopF [0, 1, 4, 5, 6] (fun (z : { k : Nat // k ≤ (List.length (words (val xs))) }) => match z with | ⟨k, hI⟩ => [(8, isI ((k : Int) - 1)), (7, isU (val xs / W ^ k % x))]) (fun M => fun (z : { k : Nat // k ≤ (List.length (words (val xs))) }) => match z with | ⟨k, hI⟩ => [(some b1, cellM (List.map isU (mix k (val xs) (val xs / x) ((List.length (words (val xs)))) ++ List.replicate jb1 0)))]) (fun (z : { k : Nat // k ≤ (List.length (words (val xs))) }) => match z with | ⟨k, hI⟩ => k) (⟨(List.length (words (val xs))), Nat.le_refl _⟩) (Cv.mem (.c 8 rfl ?_ (.c 7 rfl ?_ (.l [0, 1, 4, 5, 6] rfl))) ?_) ?_))))))
   ·rfl
   ·exact isU_eq (by rw [Nat.div_eq_of_lt (nw_lt _), Nat.zero_mod])
   ·exact memL_eq (smallStart _ _ _)
   rintro ⟨k, hI⟩ K16 hK16
   refine .cv (Cv.wk (.l [8, 7, 0, 1, 4, 5, 6] rfl)) (.memEq (M' := [(some b1, cellM (List.map isU (mix k (val xs) (val xs / x) ((List.length (words (val xs)))) ++ List.replicate jb1 0)))]) rfl ?_)
   have wl : (mix k (val xs) (val xs / x) ((List.length (words (val xs)))) ++ List.replicate jb1 0).length = (List.length (words (val xs))) + jb1 := by rw [List.length_append, mix_len hI, List.length_replicate]
   have ek : ((k : Int) - 1).toNat = k - 1 := by omega
   refine .seq fun _ k17 => .seq fun _ k18 => .region (st (.mv (.t rfl)) rfl (st (.geI (.t rfl) (.cI 0 rfl)) rfl (nl (.thn (k18 _ _ (.cond (.t rfl) (fun hc4 => ?_) (fun hc4 => ?_)))))))
   ·have hc4 := BP.t hc4
    refine .skip (.thn (k17 _ _ (.seq fun _ k19 => .block (.region (st (.mv (.t rfl)) rfl (st (.mv (.t rfl)) rfl (st (.mv (.t rfl)) rfl (st (.mv (.t rfl)) rfl (st (.mv (.t rfl)) rfl (st (.eq (.ixWin sl29 ty39 (.t rfl) (.t rfl) ⟨by omega, by omega⟩) (isPtr_eq (by first | exact ixo0 | exact ixo2 | exact ixo1))) rfl (st (.eq (.load1 (.t rfl) (i := 0) rfl ty39 (map_some (getD_some (d := 0) (by omega)))) ((show isU _ = isU (dig (val xs) (k - 1)) from isU_eq (by rw [ek, getD_app (by rw [mix_len hI]; omega), mix_low (by omega)])))) rfl ?_)))))))))))
    refine st (.mv (.t rfl)) rfl (st (.call (bits_Div64 (Nat.mod_lt _ (by omega))) (.cons (.t rfl) (.cons (.t rfl) (.cons (.t rfl) .nil)))) rfl (st (.mv (.t rfl)) rfl (st (.ext (.t rfl) rfl) rfl (st (.ext (.t rfl) rfl) rfl (st (.eq (.ixWin sl29 ty39 (.t rfl) (.t rfl) ⟨by omega, by omega⟩) (isPtr_eq (by first | exact ixo0 | exact ixo2 | exact ixo1))) rfl (.storeM (.t rfl) (.t rfl) (i := 0) rfl ty39 (by omega) (M' := [(_, _)]) rfl (st (.as (.t rfl)) rfl (nl (.bln (.thn (k19 _ _ (.region (st (.mv (.t rfl)) rfl (st (.subI (.t rfl) (.cI 1 rfl) (by first | omega | (simp only [List.length_nil]; omega)) (by first | omega | (simp only [List.length_nil]; omega))) rfl ?_))))))))))))))
    refine st (.as (.t rfl)) rfl (nl (.thn ?_))
    have hs := small_step (A := val xs) (x := x) (by omega) (by omega : 0 < k)
    refine hK16 (⟨k - 1, by omega⟩) _ _ ?_ (Cv.mem (.c 8 rfl ?_ (.c 7 rfl ?_ (.l [0, 1, 4, 5, 6] rfl))) ?_)
    ·show k - 1 < k; omega
    ·exact isI_eq (by show _ = ((k - 1 : Nat) : Int) - 1; omega)
    ·exact isU_eq hs.2
    ·exact memL_eq (by rw [ek]; exact mix_down (by omega) hI hs.1)
   ·have hc4 := BP.f hc4
    refine .exit (.the (.the (.blh (.thn (k14 _ _ (.seq fun _ k20 => .cv (Cv.freeze' (t := 0) (i := 0) (ys := wordsN ((List.length (words (val xs)))) (val xs / x)) rfl rfl rfl (by omega) (by obtain rfl : k = 0 := (by omega); exact smallEnd rfl)) ?_))))))
    refine .memEq (M' := []) rfl (.cv (Cv.wk (.l [0, 1, 4, 5, 6, 8, 7, 16, 17] rfl)) (.region (st (.mv (.t rfl)) rfl (st (.call (nat_Norm (by first | (rw [val_wordsN]; exact normLe (by omega)) | (show (words 0).length ≤ _; rw [words_zero]; exact Nat.zero_le _))) (.cons (.t rfl) .nil)) rfl ?_))))
    refine st (.mv (.t rfl)) rfl (st (.as (.t rfl)) rfl (st (.as (.t rfl)) rfl (st (.as (.cB true)) rfl (nl (.thn (k20 _ _ (.cv (Cv.wk (.l [4, 5, 6] rfl)) (.ret (rtN (.inl rfl) Tryz.results275 rfl rfl (.tmp (Has.t' rfl ?_) (.tmp (Has.t' rfl ?_) (.tmp (Has.t' rfl ?_) .nil))))))))))))
    ·exact SlM_eq (words_quo _ _)
    ·obtain rfl : k = 0 := (by omega); exact isU_eq (by rw [if_neg hc1, Nat.pow_zero, Nat.div_one])
    ·exact isB_eq (by simp [hc1])
theorem div_guess {u2 u1 u0 v1 v0 : Nat} (h : 0 < v1) : Ctr Tryz.prog 291 [isU u2, isU u1, isU u0, isU v1, isU v0] (isU (gss u2 u1 u0 v1 v0)) := by
 refine Ctr.intro Tryz.func291 rfl (by kernel_rfl) Tryz.ntmps291 rfl fun w0 F0 => .cv (Cv.wk (.l [0, 1, 2, 3, 4] rfl)) (.fact (Has.ltU (Has.t (t := 0) rfl)) fun lt0 => .fact (Has.ltU (Has.t (t := 1) rfl)) fun lt1 => .fact (Has.ltU (Has.t (t := 2) rfl)) fun lt2 => .fact (Has.ltU (Has.t (t := 3) rfl)) fun lt3 => .fact (Has.ltU (Has.t (t := 4) rfl)) fun lt4 => .seq fun _ k1 => .region (st (.as (.cU 0 rfl)) rfl (nl (.thn (k1 _ _ (.seq fun _ k2 => .seq fun _ k3 => .region (st (.mv (.t rfl)) rfl (st (.mv (.t rfl)) rfl (st (.gtU (.t rfl) (.t rfl)) rfl (nl (.thn (k3 _ _ (.cond (.t rfl) (fun hc1 => ?_) (fun hc1 => ?_))))))))))))))
 ·have hc1 := BP.t hc1
  refine .seq fun _ k4 => .region (st (.as (.cU 18446744073709551615 rfl)) rfl (nl (.thn (k4 _ _ (.ret (.thr (rt1 (.inl rfl) Tryz.results291 rfl (.tmp (Has.t' rfl ?_) .nil))))))))
  all_goals (exact isU_eq (gss_max hc1 lt4 h))
 ·have hc1 := BP.f hc1
  refine .skip (.thn (k2 _ _ (.seq fun _ k5 => .region (st (.as (.cU 18446744073709551615 rfl)) rfl (st (.as (.cU 0 rfl)) rfl (st (.as (.cU 0 rfl)) rfl (nl (.thn (k5 _ _ (.cutF [2, 3, 4, 10] (fun (z : { z : Nat × Nat // Gw u2 u1 u0 v1 v0 z.1 z.2 }) => match z with | ⟨(q, r), hI⟩ => [(11, isU q), (12, isU (r % 18446744073709551616)), (13, isU (r / 18446744073709551616))]) (fun M => fun (z : { z : Nat × Nat // Gw u2 u1 u0 v1 v0 z.1 z.2 }) => match z with | ⟨(q, r), hI⟩ => M) (fun K6 hK6 => ?_) ?_))))))))))
  ·skip
   refine .seq fun _ k7 => .region (st (.mv (.t rfl)) rfl (st (.mv (.t rfl)) rfl (st (.eqU (.t rfl) (.t rfl)) rfl (nl (.thn (k7 _ _ (.cv (Cv.wk (.l [0, 1, 2, 3, 4, 10, 11, 12, 13, 21] rfl)) (.cond (.t rfl) (fun hc2 => ?_) (fun hc2 => ?_)))))))))
   ·have hc2 := BP.t hc2
    refine .region (st (.mv (.t rfl)) rfl (st (.mv (.t rfl)) rfl (st (.add64 ext_add64 (.t rfl) (.t rfl) (.cU 0 rfl) (by first | with_reducible assumption | omega) ⟨(by first | with_reducible assumption | omega), (by first | with_reducible assumption | omega)⟩) rfl (st (.mv (.t rfl)) rfl (st (.ext (.t rfl) rfl) rfl (st (.ext (.t rfl) rfl) rfl (st (.as (.t rfl)) rfl (st (.as (.t rfl)) rfl (nl (.thn (hK6 (⟨(18446744073709551615, u1 + v1), Gw.same hc2 lt1 lt3⟩) _ _ (Cv.mem (.c 11 rfl ?_ (.c 12 rfl ?_ (.c 13 rfl ?_ (.l [2, 3, 4, 10] rfl)))) ?_))))))))))))
    ·rfl
    ·rfl
    ·rfl
    ·rfl
   ·have hc2 := BP.f hc2
    refine .region (st (.mv (.t rfl)) rfl (st (.mv (.t rfl)) rfl (st (.mv (.t rfl)) rfl (st (.call (bits_Div64 (by omega)) (.cons (.t rfl) (.cons (.t rfl) (.cons (.t rfl) .nil)))) rfl (st (.mv (.t rfl)) rfl (st (.ext (.t rfl) rfl) rfl (st (.ext (.t rfl) rfl) rfl (st (.as (.t rfl)) rfl (st (.as (.t rfl)) rfl (nl (.thn ?_)))))))))))
    have hm := Nat.mod_lt (u2 * 18446744073709551616 + u1) h
    refine hK6 (⟨((u2 * 18446744073709551616 + u1) / v1, (u2 * 18446744073709551616 + u1) % v1), Gw.start (by omega) lt1 lt2 lt3⟩) _ _ (Cv.mem (.c 11 rfl ?_ (.c 12 rfl ?_ (.c 13 rfl ?_ (.l [2, 3, 4, 10] rfl)))) ?_)
    ·rfl
    ·exact isU_eq (Nat.mod_eq_of_lt (by omega)).symm
    ·exact isU_eq (Nat.div_eq_of_lt (by omega)).symm
    ·rfl
  rintro ⟨⟨q, r⟩, g⟩
  refine .cv (Cv.wk (.l [11, 12, 13, 2, 3, 4, 10] rfl)) ?_
  simp only [] at g
  refine .seq fun _ k8 => .block (.loopF [2, 3, 4, 10] (fun (z : { z : Nat × Nat // Gw u2 u1 u0 v1 v0 z.1 z.2 }) => match z with | ⟨(q, r), hI⟩ => [(11, isU q), (12, isU (r % 18446744073709551616)), (13, isU (r / 18446744073709551616))]) (fun M => fun (z : { z : Nat × Nat // Gw u2 u1 u0 v1 v0 z.1 z.2 }) => match z with | ⟨(q, r), hI⟩ => M) (fun (z : { z : Nat × Nat // Gw u2 u1 u0 v1 v0 z.1 z.2 }) => match z with | ⟨(q, r), hI⟩ => q) (⟨(q, r), g⟩) (Cv.mem (.c 11 rfl ?_ (.c 12 rfl ?_ (.c 13 rfl ?_ (.l [2, 3, 4, 10] rfl)))) ?_) ?_)
  ·rfl
  ·rfl
  ·rfl
  ·rfl
  rintro ⟨⟨q, r⟩, g⟩ K9 hK9
  refine .cv (Cv.wk (.l [11, 12, 13, 2, 3, 4, 10] rfl)) ?_
  simp only [] at g
  have gq := g.q
  have gr := g.r
  refine .seq fun _ k10 => .seq fun _ k11 => .region (st (.mv (.t rfl)) rfl (st (.eqU (.t rfl) (.cU 0 rfl)) rfl (nl (.thn (k11 _ _ (.cond (.t rfl) (fun hc3 => ?_) (fun hc3 => ?_)))))))
  ·have hc3 := BP.t hc3
   refine .skip (.thn (k10 _ _ (.block (.seq fun _ k12 => .region (st (.mv (.t rfl)) rfl (st (.mv (.t rfl)) rfl (st (.call bits_Mul64 (.cons (.t rfl) (.cons (.t rfl) .nil))) rfl (st (.mv (.t rfl)) rfl (st (.ext (.t rfl) rfl) rfl (st (.ext (.t rfl) rfl) rfl (st (.as (.t rfl)) rfl (st (.as (.t rfl)) rfl (nl (.thn (k12 _ _ (.seq fun _ k13 => .seq fun _ k14 => .region (st (.mv (.t rfl)) rfl (st (.mv (.t rfl)) rfl (st (.ltU (.t rfl) (.t rfl)) rfl (st (.mv (.t rfl)) rfl ?_))))))))))))))))))))
   refine stF rfl rfl (fun hg => have hg' := BP.t hg; OK1.mv (.t rfl)) rfl ?_
   refine stF rfl rfl (fun hg => have hg' := BP.t hg; OK1.mv (.t rfl)) rfl ?_
   refine stF rfl rfl (fun hg => have hg' := BP.t hg; OK1.eqU (Has.g rfl hg) (Has.g rfl hg)) rfl ?_
   refine stF rfl rfl (fun hg => have hg' := BP.t hg; OK1.mv (Has.g rfl hg)) rfl ?_
   refine stGT rfl rfl (fun hg => have hg' := BP.t hg; OK1.mv (.t rfl)) rfl ?_
   refine stGT rfl rfl (fun hg => have hg' := BP.t hg; OK1.mv (.t rfl)) rfl ?_
   refine stGT rfl rfl (fun hg => have hg' := BP.t hg; OK1.leU (Has.g rfl hg) (Has.g rfl hg)) rfl ?_
   refine stF rfl rfl (fun hg => have hg' := BP.t hg; OK1.pickAnd (Has.g rfl hg) (fun h => Has.g rfl (ga hg h))) rfl ?_
   refine st (.pickOr (.t rfl) (fun h => Has.g rfl (ng h))) rfl (nl (.thn (k14 _ _ (.cond (.t rfl) (fun hc4 => ?_) (fun hc4 => ?_)))))
   ·have hc4 := BP.t hc4
    have ht := (test_le (p := q * v0) (r := r % 18446744073709551616) (u0 := u0) (by omega) lt2).1 hc4
    rw [Nat.mod_eq_of_lt (show r < 18446744073709551616 by omega)] at ht
    refine .exit (.the (.blm rfl (.the (.blh (.thn (k8 _ _ (.cv (Cv.wk (.l [10, 11] rfl)) (.seq fun _ k15 => .region (st (.mv (.t rfl)) rfl (st (.as (.t rfl)) rfl (nl (.thn (k15 _ _ (.ret (rt1 (.inl rfl) Tryz.results291 rfl (.tmp (Has.t' rfl ?_) .nil))))))))))))))))
    all_goals (exact isU_eq (g.exit h ht))
   ·have hc4 := BP.f hc4
    have ht : ¬ _ := fun hh => absurd ((test_le (p := q * v0) (r := r % 18446744073709551616) (u0 := u0) (by omega) lt2).2 hh) (by omega)
    have hn := Gw.next h lt3 g (by omega) (by omega)
    refine .skip (.thn (k13 _ _ (.seq fun _ k16 => .region (st (.mv (.t rfl)) rfl (st (.subU' (.t rfl) (.cU 1 rfl) (by first | with_reducible assumption | omega) (by first | with_reducible assumption | omega)) rfl (st (.as (.t rfl)) rfl (nl (.thn (k16 _ _ (.region (st (.mv (.t rfl)) rfl (st (.mv (.t rfl)) rfl (st (.add64 ext_add64 (.t rfl) (.t rfl) (.cU 0 rfl) (by first | with_reducible assumption | omega) ⟨(by first | with_reducible assumption | omega), (by first | with_reducible assumption | omega)⟩) rfl (st (.mv (.t rfl)) rfl (st (.ext (.t rfl) rfl) rfl (st (.ext (.t rfl) rfl) rfl (st (.as (.t rfl)) rfl (st (.as (.t rfl)) rfl (nl (.bln (.thn (hK9 (⟨(q - 1, r + v1), hn.1⟩) _ _ ?_ (Cv.mem (.c 11 rfl ?_ (.c 12 rfl ?_ (.c 13 rfl ?_ (.l [2, 3, 4, 10] rfl)))) ?_)))))))))))))))))))))))
    ·show q - 1 < q; have := hn.2; omega
    ·rfl
    ·exact isU_eq (by show (r % _ + v1 + 0) % _ = (r + v1) % _; omega)
    ·exact isU_eq (by show (r % _ + v1 + 0) / _ = (r + v1) / _; omega)
    ·rfl
  ·have hc3 := BP.f hc3
   refine .exit (.the (.the (.blh (.thn (k8 _ _ (.cv (Cv.wk (.l [10, 11] rfl)) (.seq fun _ k17 => .region (st (.mv (.t rfl)) rfl (st (.as (.t rfl)) rfl (nl (.thn (k17 _ _ (.ret (rt1 (.inl rfl) Tryz.results291 rfl (.tmp (Has.t' rfl ?_) .nil)))))))))))))))
   all_goals (exact isU_eq (g.exit2 h lt4 (by omega)))
end Go.Proofs.YthkdmhaafanjlaaGreat
namespace Go.Proofs.YthkdmhaafanjlaaGreat
open Go.En Go.RowKit
set_option maxRecDepth 10000
open Go.Nt
set_option maxHeartbeats 2000000 in
theorem div_take {N v q o c m : Nat} (h2 : o + ((List.length (words v)) + 1) ≤ m) (h3 : N / W ^ o < W ^ ((List.length (words v)) + 1)) : CtrM Tryz.prog 292 (fun b0 => [isWin b0 o ((List.length (words v)) + 1) c, isWords (words v), isU q]) (cellM (List.map isU (wordsN m N))) (cellM (List.map isU (wordsN m (N % W ^ o + W ^ o * (wdiff (N / W ^ o) (v * q) ((List.length (words v)) + 1)))))) (fun b0 => isB (decide (N / W ^ o < v * q))) := by
 refine CtrM.intro Tryz.func292 rfl (by kernel_rfl) Tryz.ntmps292 (fun _ => rfl) fun w0 F0 b0 => .cv (Cv.wk (.l [0, 1, 2] rfl)) (.fact (Has.lenLt (Has.t (t := 0) rfl)) fun lt0 => .fact (Has.winLe (Has.t (t := 0) rfl)) fun lw0 => .fact (Has.lenLt (Has.t (t := 1) rfl)) fun lt1 => .fact (Has.okW (Has.t (t := 1) rfl)) fun ok1 => .fact (Has.ltU (Has.t (t := 2) rfl)) fun lt2 => .seq fun _ k1 => .region (st (.as (.cB false)) rfl (nl (.thn (k1 _ _ (.seq fun _ k2 => .region (st (.as (.cU 0 rfl)) rfl (st (.as (.cU 0 rfl)) rfl (nl (.thn (k2 _ _ (.seq fun _ k3 => .seq fun _ k4 => .region (st (.mv (.t rfl)) rfl (st (.len sl29 (.t rfl)) rfl (st (.mv (.cI 0 rfl)) rfl (nl (.thn (k4 _ _ (.block (.loopF [0, 1, 2, 6, 14, 15] (fun (z : { i : Nat // i ≤ (List.length (words v)) }) => match z with | ⟨i, hI⟩ => [(16, isI (i : Int)), (7, isU (mcar 0 v q i)), (8, isU (bor (N / W ^ o) (v * q) i))]) (fun M => fun (z : { i : Nat // i ≤ (List.length (words v)) }) => match z with | ⟨i, hI⟩ => [(some b0, cellM (List.map isU (mix (o + i) (N % W ^ o + W ^ o * (wdiff (N / W ^ o) (v * q) ((List.length (words v)) + 1))) N m)))]) (fun (z : { i : Nat // i ≤ (List.length (words v)) }) => match z with | ⟨i, hI⟩ => (List.length (words v)) - i) (⟨0, Nat.zero_le _⟩) (Cv.mem (.c 16 rfl ?_ (.c 7 rfl ?_ (.c 8 rfl ?_ (.l [0, 1, 2, 6, 14, 15] rfl)))) ?_) ?_))))))))))))))))))))
 ·rfl
 ·exact isU_eq (mcar_zero _ _ _)
 ·exact isU_eq (bor_zero _ _)
 ·exact memL_eq (mix_start (by omega) (win_mod _ _ _))
 rintro ⟨i, hI⟩ K5 hK5
 refine .cv (Cv.wk (.l [16, 7, 8, 0, 1, 2, 6, 14, 15] rfl)) (.memEq (M' := [(some b0, cellM (List.map isU (mix (o + i) (N % W ^ o + W ^ o * (wdiff (N / W ^ o) (v * q) ((List.length (words v)) + 1))) N m)))]) rfl ?_)
 have wl : (mix (o + i) (N % W ^ o + W ^ o * (wdiff (N / W ^ o) (v * q) ((List.length (words v)) + 1))) N m).length = m := mix_len (by omega)
 have hcl := Nat.lt_of_le_of_lt (mcar_le 0 v q i) lt2
 have hrow := take_word lt2 (dig_lt v i) hcl (dig_lt _ _) (mul_step0 v q i)
 refine .seq fun _ k6 => .region (st (.ltI (.t rfl) (.t rfl)) rfl (nl (.thn (k6 _ _ (.seq fun _ k7 => .cond (.t rfl) (fun hc1 => ?_) (fun hc1 => ?_))))))
 ·have hc1 := BP.t hc1
  refine .skip (.thn (k7 _ _ (.seq fun _ k8 => .block (.seq fun _ k9 => .region (st (.mv (.t rfl)) rfl (st (.ixP sl29 ty39 (.t rfl) (.t rfl) ⟨by omega, by omega⟩ (getD_some (d := 0) (by first | omega | (simp only [Int.toNat_natCast, List.length_set]; omega)))) rfl ?_))))))
  refine st (.eq (.loadP1 (.t rfl) ty39) (isU_eq (getD_words _ i))) rfl (st (.as (.t rfl)) rfl (st (.as (.t rfl)) rfl (nl (.thn (k9 _ _ (.seq fun _ k10 => .region (st (.mv (.t rfl)) rfl (st (.mv (.t rfl)) rfl (st (.call (bits_Mul64) (.cons (.t rfl) (.cons (.t rfl) .nil))) rfl (st (.mv (.t rfl)) rfl (st (.ext (.t rfl) rfl) rfl (st (.ext (.t rfl) rfl) rfl (st (.as (.t rfl)) rfl (st (.as (.t rfl)) rfl (nl (.thn (k10 _ _ (.seq fun _ k11 => .region (st (.as (.cU 0 rfl)) rfl (nl (.thn (k11 _ _ (.seq fun _ k12 => .region (st (.mv (.t rfl)) rfl (st (.mv (.t rfl)) rfl (st (.add64 ext_add64 (.t rfl) (.t rfl) (.cU 0 rfl) (by first | with_reducible assumption | with_reducible exact bor_le _ _ _ | with_reducible exact dig_lt _ _ | omega) ⟨(by first | with_reducible assumption | with_reducible exact bor_le _ _ _ | with_reducible exact dig_lt _ _ | omega), (by first | with_reducible assumption | with_reducible exact bor_le _ _ _ | with_reducible exact dig_lt _ _ | omega)⟩) rfl (st (.mv (.t rfl)) rfl (st (.ext (.t rfl) rfl) rfl (st (.ext (.t rfl) rfl) rfl (st (.as (.t rfl)) rfl (st (.as (.t rfl)) rfl (nl (.thn (k12 _ _ (.seq fun _ k13 => .region (st (.mv (.t rfl)) rfl (st (.mv (.t rfl)) rfl (st (.addU' (.t rfl) (.t rfl) (by first | with_reducible assumption | with_reducible exact bor_le _ _ _ | with_reducible exact dig_lt _ _ | omega)) rfl (st (.as (.t rfl)) rfl (nl (.thn (k13 _ _ (.region (st (.mv (.t rfl)) rfl (st (.mv (.t rfl)) rfl (st (.mv (.t rfl)) rfl (st (.mv (.t rfl)) rfl (st (.eq (.ixWin sl29 ty39 (.t rfl) (.t rfl) ⟨by omega, by omega⟩) (isPtr_eq (by first | exact ixo0 | exact ixo2 | exact ixo1))) rfl (st (.eq (.load1 (.t rfl) (i := 0) rfl ty39 (map_some (getD_some (d := 0) (by first | omega | (simp only [Int.toNat_natCast, List.length_set]; omega))))) (isU_eq (rowGet (by omega)))) rfl ?_)))))))))))))))))))))))))))))))))))))))))))))))))
  refine st (.mv (.t rfl)) rfl (st (.mv (.t rfl)) rfl (st (.sub64 ext_sub64 (.t rfl) (.t rfl) (.t rfl) (by first | with_reducible assumption | with_reducible exact bor_le _ _ _ | with_reducible exact dig_lt _ _ | omega) ⟨(by first | with_reducible assumption | with_reducible exact bor_le _ _ _ | with_reducible exact dig_lt _ _ | omega), (by first | with_reducible assumption | with_reducible exact bor_le _ _ _ | with_reducible exact dig_lt _ _ | omega)⟩) rfl (st (.mv (.t rfl)) rfl (st (.ext (.t rfl) rfl) rfl (st (.ext (.t rfl) rfl) rfl (st (.eq (.ixWin sl29 ty39 (.t rfl) (.t rfl) ⟨by omega, by omega⟩) (isPtr_eq (by first | exact ixo0 | exact ixo2 | exact ixo1))) rfl (.storeM (.t rfl) (.t rfl) (i := 0) rfl ty39 (by first | omega | (simp only [Int.toNat_natCast, List.length_set, List.length_replicate]; omega)) (M' := [(_, _)]) rfl ?_)))))))
  refine st (.as (.t rfl)) rfl (nl (.bln (.thn (k8 _ _ (.region (st (.addI (.t rfl) (.cI 1 rfl) (by first | with_reducible assumption | with_reducible exact bor_le _ _ _ | with_reducible exact dig_lt _ _ | omega) (by first | with_reducible assumption | with_reducible exact bor_le _ _ _ | with_reducible exact dig_lt _ _ | omega)) rfl (st (.mv (.t rfl)) rfl (nl (.thn (hK5 (⟨i + 1, by omega⟩) _ _ ?_ (Cv.mem (.c 16 rfl ?_ (.c 7 rfl ?_ (.c 8 rfl ?_ (.l [0, 1, 2, 6, 14, 15] rfl)))) ?_)))))))))))
  ·show (List.length (words v)) - (i + 1) < (List.length (words v)) - i; omega
  ·rfl
  ·exact isU_eq hrow.2.1
  ·exact isU_eq (by rw [hrow.1]; exact bor_succ _ _ _)
  ·exact memL_eq (winPut (by omega) (by rw [hrow.1]; exact wd_dig (vq_lt (nw_lt v) lt2) (by omega)))
 ·have hc1 := BP.f hc1
  refine .exit (.the (.the (.blh (.thn (k3 _ _ (.cv (Cv.wk (.l [0, 1, 6, 7, 8] rfl)) (.seq fun _ k14 => .region (st (.mv (.t rfl)) rfl (st (.mv (.t rfl)) rfl (st (.len sl29 (.t rfl)) rfl (st (.mv (.t rfl)) rfl (st (.mv (.t rfl)) rfl (st (.len sl29 (.t rfl)) rfl (st (.eq (.ixWin sl29 ty39 (.t rfl) (.t rfl) ⟨by omega, by omega⟩) (isPtr_eq (by first | exact ixo0 | exact ixo2 | exact ixo1))) rfl (st (.eq (.load1 (.t rfl) (i := 0) rfl ty39 (map_some (getD_some (d := 0) (by first | omega | (simp only [Int.toNat_natCast, List.length_set]; omega))))) ((isU_eq (rowGet' (j := (List.length (words v))) (by omega) (by omega))))) rfl ?_)))))))))))))))
  refine st (.mv (.t rfl)) rfl (st (.mv (.t rfl)) rfl (st (.sub64 (l := dig (N / W ^ o) ((List.length (words v)))) (m := mcar 0 v q i) (c := bor (N / W ^ o) (v * q) i) ext_sub64 (.t rfl) (.t rfl) (.t rfl) (bor_le _ _ _) ⟨dig_lt _ _, hcl⟩) rfl (st (.mv (.t rfl)) rfl (st (.ext (.t rfl) rfl) rfl (st (.ext (.t rfl) rfl) rfl (st (.eq (.ixWin sl29 ty39 (.t rfl) (.t rfl) ⟨by omega, by omega⟩) (isPtr_eq (by first | exact ixo0 | exact ixo2 | exact ixo1))) rfl (.storeM (.t rfl) (.t rfl) (i := 0) rfl ty39 (by first | omega | (simp only [Int.toNat_natCast, List.length_set, List.length_replicate]; omega)) (M' := [(_, _)]) rfl ?_)))))))
  refine st (.as (.t rfl)) rfl (nl (.thn (k14 _ _ (.cv (Cv.wk (.l [6, 8] rfl)) (.seq fun _ k15 => .region (st (.mv (.t rfl)) rfl (st (.neU (.t rfl) (.cU 0 rfl)) rfl (st (.as (.t rfl)) rfl (nl (.thn (k15 _ _ (.ret (rtM1 (.inl rfl) Tryz.results292 rfl (i := 0) ?_ (.tmp (Has.t' rfl ?_) .nil))))))))))))))
  ·obtain rfl : i = (List.length (words v)) := (by omega); exact memU_eq ((winPut (by omega) (takeTop (nw_lt v) lt2)).trans (winEnd (by omega) h3 (wdiff_lt _ _ _)))
  ·obtain rfl : i = (List.length (words v)) := (by omega); exact isB_eq (takeBor (nw_lt v) lt2 h3)
set_option maxHeartbeats 2000000 in
theorem div_back {N v o c m : Nat} (h2 : o + ((List.length (words v)) + 1) ≤ m) (h3 : N / W ^ o < W ^ ((List.length (words v)) + 1)) : CtrM Tryz.prog 293 (fun b0 => [isWin b0 o ((List.length (words v)) + 1) c, isWords (words v)]) (cellM (List.map isU (wordsN m N))) (cellM (List.map isU (wordsN m (N % W ^ o + W ^ o * (wsum (N / W ^ o) v ((List.length (words v)) + 1)))))) (fun b0 => isTup []) := by
 refine CtrM.intro Tryz.func293 rfl (by kernel_rfl) Tryz.ntmps293 (fun _ => rfl) fun w0 F0 b0 => .cv (Cv.wk (.l [0, 1] rfl)) (.fact (Has.lenLt (Has.t (t := 0) rfl)) fun lt0 => .fact (Has.winLe (Has.t (t := 0) rfl)) fun lw0 => .fact (Has.lenLt (Has.t (t := 1) rfl)) fun lt1 => .fact (Has.okW (Has.t (t := 1) rfl)) fun ok1 => .seq fun _ k1 => .region (st (.as (.cU 0 rfl)) rfl (nl (.thn (k1 _ _ (.seq fun _ k2 => .seq fun _ k3 => .region (st (.mv (.t rfl)) rfl (st (.len sl29 (.t rfl)) rfl (st (.mv (.cI 0 rfl)) rfl (nl (.thn (k3 _ _ (.block (.loopF [0, 1, 7, 8] (fun (z : { i : Nat // i ≤ (List.length (words v)) }) => match z with | ⟨i, hI⟩ => [(9, isI (i : Int)), (4, isU (car (N / W ^ o) v i))]) (fun M => fun (z : { i : Nat // i ≤ (List.length (words v)) }) => match z with | ⟨i, hI⟩ => [(some b0, cellM (List.map isU (mix (o + i) (N % W ^ o + W ^ o * (wsum (N / W ^ o) v ((List.length (words v)) + 1))) N m)))]) (fun (z : { i : Nat // i ≤ (List.length (words v)) }) => match z with | ⟨i, hI⟩ => (List.length (words v)) - i) (⟨0, Nat.zero_le _⟩) (Cv.mem (.c 9 rfl ?_ (.c 4 rfl ?_ (.l [0, 1, 7, 8] rfl))) ?_) ?_))))))))))))))
 ·rfl
 ·exact isU_eq (car_zero _ _)
 ·exact memL_eq (mix_start (by omega) (win_mod _ _ _))
 rintro ⟨i, hI⟩ K4 hK4
 refine .cv (Cv.wk (.l [9, 4, 0, 1, 7, 8] rfl)) (.memEq (M' := [(some b0, cellM (List.map isU (mix (o + i) (N % W ^ o + W ^ o * (wsum (N / W ^ o) v ((List.length (words v)) + 1))) N m)))]) rfl ?_)
 have wl : (mix (o + i) (N % W ^ o + W ^ o * (wsum (N / W ^ o) v ((List.length (words v)) + 1))) N m).length = m := mix_len (by omega)
 refine .seq fun _ k5 => .region (st (.ltI (.t rfl) (.t rfl)) rfl (nl (.thn (k5 _ _ (.seq fun _ k6 => .cond (.t rfl) (fun hc1 => ?_) (fun hc1 => ?_))))))
 ·have hc1 := BP.t hc1
  refine .skip (.thn (k6 _ _ (.seq fun _ k7 => .block (.seq fun _ k8 => .region (st (.mv (.t rfl)) rfl (st (.ixP sl29 ty39 (.t rfl) (.t rfl) ⟨by omega, by omega⟩ (getD_some (d := 0) (by first | omega | (simp only [Int.toNat_natCast, List.length_set]; omega)))) rfl ?_))))))
  refine st (.eq (.loadP1 (.t rfl) ty39) (isU_eq (getD_words _ i))) rfl (st (.as (.t rfl)) rfl (st (.as (.t rfl)) rfl (nl (.thn (k8 _ _ (.region (st (.mv (.t rfl)) rfl (st (.mv (.t rfl)) rfl (st (.mv (.t rfl)) rfl (st (.mv (.t rfl)) rfl (st (.eq (.ixWin sl29 ty39 (.t rfl) (.t rfl) ⟨by omega, by omega⟩) (isPtr_eq (by first | exact ixo0 | exact ixo2 | exact ixo1))) rfl (st (.eq (.load1 (.t rfl) (i := 0) rfl ty39 (map_some (getD_some (d := 0) (by first | omega | (simp only [Int.toNat_natCast, List.length_set]; omega))))) (isU_eq (rowGet (by omega)))) rfl ?_))))))))))))
  refine st (.mv (.t rfl)) rfl (st (.mv (.t rfl)) rfl (st (.add64 ext_add64 (.t rfl) (.t rfl) (.t rfl) (by first | with_reducible assumption | with_reducible exact car_le _ _ _ | with_reducible exact dig_lt _ _ | omega) ⟨(by first | with_reducible assumption | with_reducible exact car_le _ _ _ | with_reducible exact dig_lt _ _ | omega), (by first | with_reducible assumption | with_reducible exact car_le _ _ _ | with_reducible exact dig_lt _ _ | omega)⟩) rfl (st (.mv (.t rfl)) rfl (st (.ext (.t rfl) rfl) rfl (st (.ext (.t rfl) rfl) rfl (st (.eq (.ixWin sl29 ty39 (.t rfl) (.t rfl) ⟨by omega, by omega⟩) (isPtr_eq (by first | exact ixo0 | exact ixo2 | exact ixo1))) rfl (.storeM (.t rfl) (.t rfl) (i := 0) rfl ty39 (by first | omega | (simp only [Int.toNat_natCast, List.length_set, List.length_replicate]; omega)) (M' := [(_, _)]) rfl ?_)))))))
  refine st (.as (.t rfl)) rfl (nl (.bln (.thn (k7 _ _ (.region (st (.addI (.t rfl) (.cI 1 rfl) (by first | with_reducible assumption | with_reducible exact car_le _ _ _ | with_reducible exact dig_lt _ _ | omega) (by first | with_reducible assumption | with_reducible exact car_le _ _ _ | with_reducible exact dig_lt _ _ | omega)) rfl (st (.mv (.t rfl)) rfl (nl (.thn (hK4 (⟨i + 1, by omega⟩) _ _ ?_ (Cv.mem (.c 9 rfl ?_ (.c 4 rfl ?_ (.l [0, 1, 7, 8] rfl))) ?_)))))))))))
  ·show (List.length (words v)) - (i + 1) < (List.length (words v)) - i; omega
  ·rfl
  ·exact isU_eq (add_car _ _ _)
  ·exact memL_eq (winPut (by omega) (ws_dig (by omega)))
 ·have hc1 := BP.f hc1
  refine .exit (.the (.the (.blh (.thn (k2 _ _ (.region (st (.mv (.t rfl)) rfl (st (.mv (.t rfl)) rfl (st (.len sl29 (.t rfl)) rfl (st (.eq (.ixWin sl29 ty39 (.t rfl) (.t rfl) ⟨by omega, by omega⟩) (isPtr_eq (by first | exact ixo0 | exact ixo2 | exact ixo1))) rfl (st (.eq (.load1 (.t rfl) (i := 0) rfl ty39 (map_some (getD_some (d := 0) (by first | omega | (simp only [Int.toNat_natCast, List.length_set]; omega))))) ((isU_eq (rowGet' (j := (List.length (words v))) (by omega) (by omega))))) rfl ?_)))))))))))
  refine st (.mv (.t rfl)) rfl (st (.addU (.t rfl) (.t rfl)) rfl (st (.eq (.ixWin sl29 ty39 (.t rfl) (.t rfl) ⟨by omega, by omega⟩) (isPtr_eq (by first | exact ixo0 | exact ixo2 | exact ixo1))) rfl (.storeM (.t rfl) (.t rfl) (i := 0) rfl ty39 (by first | omega | (simp only [Int.toNat_natCast, List.length_set, List.length_replicate]; omega)) (M' := [(_, _)]) rfl ?_)))
  refine nl (rtM0 (.inr rfl) Tryz.results293 rfl (i := 0) ?_)
  all_goals (obtain rfl : i = (List.length (words v)) := (by omega); exact memU_eq ((winPut (by omega) (backTop (nw_lt v))).trans (winEnd (by omega) h3 (wsum_lt _ _ _))))
end Go.Proofs.YthkdmhaafanjlaaGreat
namespace Go.Proofs.YthkdmhaafanjlaaGreat
open Go.En Go.RowKit
set_option maxRecDepth 10000
set_option maxHeartbeats 4000000
open Go.Nt
theorem div_long {N v c m : Nat} (hn : 2 ≤ (List.length (words v))) (hm : (List.length (words v)) < m) (hM : m ≤ 4294967296) (hN : N < v * W ^ (m - (List.length (words v)))) : CtrM Tryz.prog 278 (fun b0 => [isWin b0 0 m c, isWords (words v)]) (cellM (List.map isU (wordsN m N))) (cellM (List.map isU (wordsN m (left N v 0)))) (fun b0 => isWords (wordsN (m - (List.length (words v))) (N / v))) := by
 refine CtrM.intro Tryz.func278 rfl (by kernel_rfl) Tryz.ntmps278 (fun _ => rfl) fun w0 F0 b0 => .cv (Cv.wk (.l [0, 1] rfl)) (.fact (Has.lenLt (Has.t (t := 0) rfl)) fun lt0 => .fact (Has.winLe (Has.t (t := 0) rfl)) fun lw0 => .fact (Has.lenLt (Has.t (t := 1) rfl)) fun lt1 => .fact (Has.okW (Has.t (t := 1) rfl)) fun ok1 => .seq fun _ k1 => .region (st (.as (.cW (f := isU))) rfl (nl (.thn (k1 _ _ (.seq fun _ k2 => .region (st (.mv (.t rfl)) rfl (st (.len sl29 (.t rfl)) rfl (st (.as (.t rfl)) rfl (nl (.thn (k2 _ _ (.seq fun _ k3 => .region (st (.mv (.t rfl)) rfl (st (.len sl29 (.t rfl)) rfl (st (.mv (.t rfl)) rfl (st (.eq (.subI (.t rfl) (.t rfl) (by first | with_reducible assumption | omega | with_reducible exact dig_lt _ _) (by first | with_reducible assumption | omega | with_reducible exact dig_lt _ _)) ((show isI _ = isI ((m - (List.length (words v)) : Nat) : Int) from isI_eq (by omega)))) rfl (.make (f := isU) (u := 0) (n := m - (List.length (words v))) (c := m - (List.length (words v))) sl29 ty39 zero39 (fun _ _ => ⟨⟨rfl, by decide⟩, trivial⟩) by39 (Has.t' rfl rfl) (Has.t' rfl rfl) ⟨by omega, by omega⟩ rfl fun b1 => st (.as (.t rfl)) rfl (nl (.thn (k3 _ _ (.cv (Cv.wk (.l [0, 1, 4, 5, 6] rfl)) (.seq fun _ k4 => .seq fun _ k5 => .region (st (.mv (.t rfl)) rfl (st (.len sl29 (.t rfl)) rfl (st (.subI (.t rfl) (.cI 1 rfl) (by first | with_reducible assumption | omega | with_reducible exact dig_lt _ _) (by first | with_reducible assumption | omega | with_reducible exact dig_lt _ _)) rfl (st (.as (.t rfl)) rfl (nl (.thn (k5 _ _ (.block (.loopF [0, 1, 4, 5, 6] (fun (z : { k : Nat // k ≤ m - (List.length (words v)) }) => match z with | ⟨k, hI⟩ => [(7, isI ((k : Int) - 1))]) (fun M => fun (z : { k : Nat // k ≤ m - (List.length (words v)) }) => match z with | ⟨k, hI⟩ => [(some b1, cellM (List.map isU (mix k 0 (N / v) (m - (List.length (words v)))))), (some b0, cellM (List.map isU (wordsN m (left N v k))))]) (fun (z : { k : Nat // k ≤ m - (List.length (words v)) }) => match z with | ⟨k, hI⟩ => k) (⟨m - (List.length (words v)), Nat.le_refl _⟩) (Cv.mem (.c 7 rfl ?_ (.l [0, 1, 4, 5, 6] rfl)) ?_) ?_))))))))))))))))))))))))))))))))
 ·rfl
 ·exact mem2_eq (outStart _ _) (by rw [left_top hN])
 rintro ⟨k, hI⟩ K6 hK6
 refine .cv (Cv.wk (.l [7, 0, 1, 4, 5, 6] rfl)) (.memEq (M' := [(some b1, cellM (List.map isU (mix k 0 (N / v) (m - (List.length (words v)))))), (some b0, cellM (List.map isU (wordsN m (left N v k))))]) rfl ?_)
 have wl : (wordsN m (left N v k)).length = m := wordsN_len _ _
 have wl2 : (mix k 0 (N / v) (m - (List.length (words v)))).length = m - (List.length (words v)) := mix_len hI
 refine .seq fun _ k7 => .seq fun _ k8 => .region (st (.mv (.t rfl)) rfl (st (.geI (.t rfl) (.cI 0 rfl)) rfl (nl (.thn (k8 _ _ (.cond (.t rfl) (fun hc1 => ?_) (fun hc1 => ?_)))))))
 ·have hc1 := BP.t hc1
  obtain ⟨j, rfl⟩ : ∃ j, k = j + 1 := ⟨k - 1, by omega⟩
  obtain ⟨k2, hk2⟩ : ∃ k2, (List.length (words v)) = k2 + 2 := ⟨(List.length (words v)) - 2, by omega⟩
  have ej : (((j + 1 : Nat) : Int) - 1) = (j : Int) := by omega
  obtain ⟨g, hg⟩ : ∃ g, g = gss (dig (left N v (j + 1) / W ^ j) (k2 + 2)) (dig (left N v (j + 1) / W ^ j) (k2 + 1)) (dig (left N v (j + 1) / W ^ j) k2) (dig v (k2 + 1)) (dig v k2) := ⟨_, rfl⟩
  have hgl : g < 18446744073709551616 := hg ▸ gss_lt _ _ _ _ _
  have R := round hk2 hg hgl
  refine .skip (.thn (k7 _ _ (.seq fun _ k9 => .block (.seq fun _ k10 => .dr (.s [] rfl rfl rfl (.o rfl (.mv (.t rfl))) (.s [] rfl rfl rfl (.o rfl (.eq (.mv (.t rfl)) ((isI_eq ej)))) (.s [] rfl rfl rfl (.o rfl (.mv (.t rfl))) (.s [25, 26] rfl rfl rfl (.o rfl (.addI (.t rfl) (.t rfl) (by first | with_reducible assumption | omega | with_reducible exact dig_lt _ _) (by first | with_reducible assumption | omega | with_reducible exact dig_lt _ _))) (.s [24, 27] rfl rfl rfl (.o rfl (.eq (.ixWin sl29 ty39 (.t rfl) (.t rfl) ⟨by omega, by omega⟩) (isPtr_eq (by first | exact ixo0 | exact ixo2 | exact ixo1)))) (.s [28] rfl rfl rfl (.o rfl (.eq (.load1 (.t rfl) (i := 1) rfl ty39 (map_some (getD_some (d := 0) (by first | omega | (simp only [Int.toNat_natCast, List.length_set]; omega))))) ((show isU _ = isU (dig (left N v (j + 1) / W ^ j) (k2 + 2)) from isU_eq (getW (by omega) (by omega)))))) ?_))))))))))
  refine .s [] rfl rfl rfl (.o rfl (.mv (.t rfl))) (.s [] rfl rfl rfl (.o rfl (.eq (.mv (.t rfl)) ((isI_eq ej)))) (.s [] rfl rfl rfl (.o rfl (.mv (.t rfl))) (.s [31, 32] rfl rfl rfl (.o rfl (.addI (.t rfl) (.t rfl) (by first | with_reducible assumption | omega | with_reducible exact dig_lt _ _) (by first | with_reducible assumption | omega | with_reducible exact dig_lt _ _))) (.s [33] rfl rfl rfl (.o rfl (.subI (.t rfl) (.cI 1 rfl) (by first | with_reducible assumption | omega | with_reducible exact dig_lt _ _) (by first | with_reducible assumption | omega | with_reducible exact dig_lt _ _))) (.s [30, 34] rfl rfl rfl (.o rfl (.eq (.ixWin sl29 ty39 (.t rfl) (.t rfl) ⟨by omega, by omega⟩) (isPtr_eq (by first | exact ixo0 | exact ixo2 | exact ixo1)))) (.s [35] rfl rfl rfl (.o rfl (.eq (.load1 (.t rfl) (i := 1) rfl ty39 (map_some (getD_some (d := 0) (by first | omega | (simp only [Int.toNat_natCast, List.length_set]; omega))))) ((show isU _ = isU (dig (left N v (j + 1) / W ^ j) (k2 + 1)) from isU_eq (getW (by omega) (by omega)))))) ?_))))))
  refine .s [] rfl rfl rfl (.o rfl (.mv (.t rfl))) (.s [] rfl rfl rfl (.o rfl (.eq (.mv (.t rfl)) ((isI_eq ej)))) (.s [] rfl rfl rfl (.o rfl (.mv (.t rfl))) (.s [38, 39] rfl rfl rfl (.o rfl (.addI (.t rfl) (.t rfl) (by first | with_reducible assumption | omega | with_reducible exact dig_lt _ _) (by first | with_reducible assumption | omega | with_reducible exact dig_lt _ _))) (.s [40] rfl rfl rfl (.o rfl (.subI (.t rfl) (.cI 2 rfl) (by first | with_reducible assumption | omega | with_reducible exact dig_lt _ _) (by first | with_reducible assumption | omega | with_reducible exact dig_lt _ _))) (.s [37, 41] rfl rfl rfl (.o rfl (.eq (.ixWin sl29 ty39 (.t rfl) (.t rfl) ⟨by omega, by omega⟩) (isPtr_eq (by first | exact ixo0 | exact ixo2 | exact ixo1)))) (.s [42] rfl rfl rfl (.o rfl (.eq (.load1 (.t rfl) (i := 1) rfl ty39 (map_some (getD_some (d := 0) (by first | omega | (simp only [Int.toNat_natCast, List.length_set]; omega))))) ((show isU _ = isU (dig (left N v (j + 1) / W ^ j) (k2)) from isU_eq (getW (by omega) (by omega)))))) ?_))))))
  refine .s [] rfl rfl rfl (.o rfl (.mv (.t rfl))) (.s [] rfl rfl rfl (.o rfl (.mv (.t rfl))) (.s [45] rfl rfl rfl (.o rfl (.subI (.t rfl) (.cI 1 rfl) (by first | with_reducible assumption | omega | with_reducible exact dig_lt _ _) (by first | with_reducible assumption | omega | with_reducible exact dig_lt _ _))) (.s [44, 46] rfl rfl rfl (.o rfl (.ixP sl29 ty39 (.t rfl) (.t rfl) ⟨by omega, by omega⟩ (getD_some (d := 0) (by first | omega | (simp only [Int.toNat_natCast, List.length_set]; omega))))) ?_)))
  refine .s [47] rfl rfl rfl (.o rfl (.eq (.loadP1 (.t rfl) ty39) ((show isU _ = isU (dig v (k2 + 1)) from isU_eq (getV (by omega)))))) (.s [] rfl rfl rfl (.o rfl (.mv (.t rfl))) (.s [] rfl rfl rfl (.o rfl (.mv (.t rfl))) (.s [50] rfl rfl rfl (.o rfl (.subI (.t rfl) (.cI 2 rfl) (by first | with_reducible assumption | omega | with_reducible exact dig_lt _ _) (by first | with_reducible assumption | omega | with_reducible exact dig_lt _ _))) (.s [49, 51] rfl rfl rfl (.o rfl (.ixP sl29 ty39 (.t rfl) (.t rfl) ⟨by omega, by omega⟩ (getD_some (d := 0) (by first | omega | (simp only [Int.toNat_natCast, List.length_set]; omega))))) ?_))))
  refine .s [52] rfl rfl rfl (.o rfl (.eq (.loadP1 (.t rfl) ty39) ((show isU _ = isU (dig v k2) from isU_eq (getV (by omega)))))) (.fin (n := 30) mixed (by kernel_rfl) (by kernel_rfl) (by kernel_rfl) (.cv (Cv.wk (.l [0, 1, 4, 5, 6, 7, 20, 21, 24, 25, 26, 27, 28, 29, 30, 31, 32, 33, 34, 35, 36, 37, 38, 39, 40, 41, 42, 43, 44, 45, 46, 47, 48, 49, 50, 51, 52, 53] rfl)) (st (.eq (.call (div_guess R.hd) (.cons (.t rfl) (.cons (.t rfl) (.cons (.t rfl) (.cons (.t rfl) (.cons (.t rfl) .nil)))))) ((show isU _ = isU g from isU_eq hg.symm))) rfl (st (.as (.t rfl)) rfl (nl (.thn (k10 _ _ (.seq fun _ k11 => .region (st (.mv (.t rfl)) rfl (st (.eq (.mv (.t rfl)) ((isI_eq ej))) rfl (st (.eq (.mv (.t rfl)) ((isI_eq ej))) rfl (st (.mv (.t rfl)) rfl (st (.addI (.t rfl) (.t rfl) (by first | with_reducible assumption | omega | with_reducible exact dig_lt _ _) (by first | with_reducible assumption | omega | with_reducible exact dig_lt _ _)) rfl (st (.addI (.t rfl) (.cI 1 rfl) (by first | with_reducible assumption | omega | with_reducible exact dig_lt _ _) (by first | with_reducible assumption | omega | with_reducible exact dig_lt _ _)) rfl (st (.eq (.eq (.slLHWin sl29 ty39 (.t rfl) (.t rfl) (.t rfl) ⟨by omega, by omega, by omega, by omega⟩) (isWin_eq (by first | exact ixo0 | exact ixo1) rfl rfl)) ((show isWin _ _ _ _ = isWin b0 j ((List.length (words v)) + 1) (c - j) from isWin_eq (by omega) (by omega) (by omega)))) rfl (st (.as (.t rfl)) rfl (nl (.thn (k11 _ _ (.seq fun _ k12 => .seq fun _ k13 => .region (st (.mv (.t rfl)) rfl (st (.mv (.t rfl)) rfl (st (.mv (.t rfl)) rfl (.callM (div_take (N := left N v (j + 1)) (o := j) (v := v) (q := g) (m := m) (by omega) R.hw) (i := 1) rfl (.cons (.t rfl) (.cons (.t rfl) (.cons (.t rfl) .nil))) rfl (M' := [_, (_, _)]) rfl (nl (.thn (k13 _ _ (.cond (.t rfl) (fun hc2 => ?_) (fun hc2 => ?_)))))))))))))))))))))))))))))
  ·have hc2 := BP.t hc2
   have hbk := R.bk hc2
   have hg1 := hbk.2.1
   refine .seq fun _ k14 => .region (st (.mv (.t rfl)) rfl (st (.subU' (.t rfl) (.cU 1 rfl) (by first | with_reducible assumption | omega | with_reducible exact dig_lt _ _) (by first | with_reducible assumption | omega | with_reducible exact dig_lt _ _)) rfl (st (.as (.t rfl)) rfl (nl (.thn (k14 _ _ (.region (st (.mv (.t rfl)) rfl (st (.mv (.t rfl)) rfl (.callM (div_back (N := left N v (j + 1) % W ^ j + W ^ j * wdiff (left N v (j + 1) / W ^ j) (v * g) ((List.length (words v)) + 1)) (o := j) (m := m) (by omega) (by rw [win_div]; exact wdiff_lt _ _ _)) (i := 1) rfl (.cons (.t rfl) (.cons (.t rfl) .nil)) rfl (M' := [_, (_, _)]) rfl ?_))))))))))
   refine nl (.thn (k12 _ _ (.region (st (.mv (.t rfl)) rfl (st (.eq (.mv (.t rfl)) ((isI_eq ej))) rfl (st (.mv (.t rfl)) rfl (st (.eq (.ixWin sl29 ty39 (.t rfl) (.t rfl) ⟨by omega, by omega⟩) (isPtr_eq (by first | exact ixo0 | exact ixo2 | exact ixo1))) rfl (.storeM (.t rfl) (.t rfl) (i := 0) rfl ty39 (by first | omega | (simp only [Int.toNat_natCast, List.length_set, List.length_replicate]; omega)) (M' := [(_, _), _]) rfl ?_))))))))
   refine nl (.bln (.thn (k9 _ _ (.region (st (.mv (.t rfl)) rfl (st (.subI (.t rfl) (.cI 1 rfl) (by first | with_reducible assumption | omega | with_reducible exact dig_lt _ _) (by first | with_reducible assumption | omega | with_reducible exact dig_lt _ _)) rfl (st (.as (.t rfl)) rfl (nl (.thn (hK6 (⟨j, by omega⟩) _ _ ?_ (Cv.mem (.c 7 rfl ?_ (.l [0, 1, 4, 5, 6] rfl)) ?_)))))))))))
   ·show j < j + 1; omega
   ·exact isI_eq (by show (((j + 1 : Nat) : Int) - 1) - 1 = (j : Int) - 1; omega)
   ·exact mem2_eq (mix_down' (k := j + 1) (by omega) hI hbk.1) (wordsN_eq hbk.2.2)
  ·have hc2 := BP.f hc2
   have hfi := R.fine (by omega)
   refine .skip (.thn (k12 _ _ (.region (st (.mv (.t rfl)) rfl (st (.eq (.mv (.t rfl)) ((isI_eq ej))) rfl (st (.mv (.t rfl)) rfl (st (.eq (.ixWin sl29 ty39 (.t rfl) (.t rfl) ⟨by omega, by omega⟩) (isPtr_eq (by first | exact ixo0 | exact ixo2 | exact ixo1))) rfl (.storeM (.t rfl) (.t rfl) (i := 0) rfl ty39 (by first | omega | (simp only [Int.toNat_natCast, List.length_set, List.length_replicate]; omega)) (M' := [(_, _), _]) rfl ?_))))))))
   refine nl (.bln (.thn (k9 _ _ (.region (st (.mv (.t rfl)) rfl (st (.subI (.t rfl) (.cI 1 rfl) (by first | with_reducible assumption | omega | with_reducible exact dig_lt _ _) (by first | with_reducible assumption | omega | with_reducible exact dig_lt _ _)) rfl (st (.as (.t rfl)) rfl (nl (.thn (hK6 (⟨j, by omega⟩) _ _ ?_ (Cv.mem (.c 7 rfl ?_ (.l [0, 1, 4, 5, 6] rfl)) ?_)))))))))))
   ·show j < j + 1; omega
   ·exact isI_eq (by show (((j + 1 : Nat) : Int) - 1) - 1 = (j : Int) - 1; omega)
   ·exact mem2_eq (mix_down' (k := j + 1) (by omega) hI hfi.1) (wordsN_eq hfi.2)
 ·have hc1 := BP.f hc1
  refine .exit (.the (.the (.blh (.thn (k4 _ _ (.cv (Cv.wk (.l [4, 6] rfl)) (.seq fun _ k15 => .cv (Cv.freezeM (t := 6) (i := 0) (j := 1) (ys := wordsN (m - (List.length (words v))) (N / v)) rfl rfl rfl rfl rfl (by omega) (by obtain rfl : k = 0 := (by omega); rw [outEnd]; exact freeze_all (wordsN_len _ _).symm)) ?_)))))))
  refine .memEq (M' := [_]) rfl (.cv (Cv.wk (.l [4, 6] rfl)) (.region (st (.mv (.t rfl)) rfl (st (.as (.t rfl)) rfl (nl (.thn (k15 _ _ (.ret (rtM1 (.inl rfl) Tryz.results278 rfl (i := 0) ?_ (.tmp (Has.t' rfl ?_) .nil))))))))))
  ·obtain rfl : k = 0 := (by omega); rfl
  ·rfl
theorem one_word {B : Nat} (h : (List.length (words B)) = 1) : (words B).getD 0 0 = B := by
 rw [getD_words, dig_def, Nat.pow_zero, Nat.div_one, Nat.mod_eq_of_lt (lt_of_nw_le_one (by omega))]
theorem bits_int {A : Nat} (h : (List.length (words A)) ≠ 0) : 64 * (((List.length (words A)) : Int) - 1) + ((bitLen (dig A ((List.length (words A)) - 1)) : Nat) : Int) = ((bitLen A : Nat) : Int) := by
 have hA : A ≠ 0 := fun e => h (by rw [e, words_zero]; rfl)
 have := bits_words hA
 omega
theorem div_DivMod {xs ys : List Nat} (hx : (List.length (words (val xs))) < 4294800000) (hy : (List.length (words (val ys))) < 4294800000) : Ctr Tryz.prog 248 [isWords xs, isWords ys] (isTup [isWords (words (val xs / val ys)), isWords (words (if val ys = 0 then 0 else val xs % val ys)), isB (decide (val ys ≠ 0))]) := by
 refine Ctr.intro Tryz.func248 rfl (by kernel_rfl) Tryz.ntmps248 rfl fun w0 F0 => .cv (Cv.wk (.l [0, 1] rfl)) (.fact (Has.lenLt (Has.t (t := 0) rfl)) fun lt0 => .fact (Has.okW (Has.t (t := 0) rfl)) fun ok0 => .fact (Has.lenLt (Has.t (t := 1) rfl)) fun lt1 => .fact (Has.okW (Has.t (t := 1) rfl)) fun ok1 => .seq fun _ k1 => .region (st (.as (.cW (f := isU))) rfl (st (.as (.cW (f := isU))) rfl (st (.as (.cB false)) rfl (nl (.thn (k1 _ _ (.seq fun _ k2 => .region (st (.mv (.t rfl)) rfl (st (.eq (.call (nat_Norm (by first | with_reducible assumption | omega | (simp only [val_words]; omega))) (.cons (.t rfl) .nil)) (by first | (simp only [val_words]; rfl) | rfl)) rfl ?_))))))))))
 refine st (.mv (.t rfl)) rfl (st (.eq (.call (nat_Norm (by first | with_reducible assumption | omega | (simp only [val_words]; omega))) (.cons (.t rfl) .nil)) (by first | (simp only [val_words]; rfl) | rfl)) rfl ?_)
 refine st (.as (.t rfl)) rfl (st (.as (.t rfl)) rfl (nl (.thn (k2 _ _ (.seq fun _ k3 => .block (.seq fun _ k4 => .region (st (.mv (.t rfl)) rfl (st (.len sl29 (.t rfl)) rfl (st (.eqI (.t rfl) (.cI 0 rfl)) rfl (st (.as (.t rfl)) rfl (nl (.thn (k4 _ _ (.cv (Cv.wk (.l [0, 1, 4, 5, 6, 23] rfl)) (.cond (.t rfl) (fun hc1 => ?_) (fun hc1 => ?_))))))))))))))))
 ·have hc1 := BP.t hc1
  refine .seq fun _ k5 => .region (st (.as (.cW (f := isU))) rfl (st (.as (.cW (f := isU))) rfl (st (.as (.cB false)) rfl (nl (.thn (k5 _ _ (.ret (.blr (.thr (rtN (.inl rfl) Tryz.results248 rfl rfl (.tmp (Has.t' rfl ?_) (.tmp (Has.t' rfl ?_) (.tmp (Has.t' rfl ?_) .nil)))))))))))))
  ·exact SlM_eq (by rw [bits_zero (A := val ys) (by omega), Nat.div_zero, words_zero])
  ·exact SlM_eq (by rw [if_pos (bits_zero (A := val ys) (by omega)), words_zero])
  ·exact isB_eq (by simp [bits_zero (show (List.length (words (val ys))) = 0 by omega)])
 ·have hc1 := BP.f hc1
  refine .seq fun _ k6 => .region (st (.mv (.t rfl)) rfl (st (.mv (.t rfl)) rfl (st (.eq (.call (nat_Cmp) (.cons (.t rfl) (.cons (.t rfl) .nil))) (by first | (simp only [val_words]; rfl) | rfl)) rfl ?_)))
  refine st (.ltI (.t rfl) (.cI 0 rfl)) rfl (st (.as (.t rfl)) rfl (nl (.thn (k6 _ _ (.cv (Cv.wk (.l [0, 1, 4, 5, 6, 27] rfl)) (.cond (.t rfl) (fun hc2 => ?_) (fun hc2 => ?_)))))))
  ·have hc2 := BP.t hc2
   have hlt := cmpN_neg.1 hc2
   refine .seq fun _ k7 => .region (st (.mv (.t rfl)) rfl (st (.as (.cW (f := isU))) rfl (st (.as (.t rfl)) rfl (st (.as (.cB true)) rfl (nl (.thn (k7 _ _ (.ret (.blr (.thr (rtN (.inl rfl) Tryz.results248 rfl rfl (.tmp (Has.t' rfl ?_) (.tmp (Has.t' rfl ?_) (.tmp (Has.t' rfl ?_) .nil))))))))))))))
   ·exact SlM_eq (by rw [Nat.div_eq_of_lt hlt, words_zero])
   ·exact SlM_eq (by rw [if_neg (by omega), Nat.mod_eq_of_lt hlt])
   ·exact isB_eq (by simp; omega)
  ·have hc2 := BP.f hc2
   have hle : val ys ≤ val xs := Nat.le_of_not_lt (fun h => by have := cmpN_neg.2 h; omega)
   refine .seq fun _ k8 => .region (st (.mv (.t rfl)) rfl (st (.len sl29 (.t rfl)) rfl (st (.eqI (.t rfl) (.cI 1 rfl)) rfl (st (.as (.t rfl)) rfl (nl (.thn (k8 _ _ (.cond (.t rfl) (fun hc3 => ?_) (fun hc3 => ?_)))))))))
   ·have hc3 := BP.t hc3
    have hB : val ys ≠ 0 := fun e => by rw [e, words_zero] at hc1; simp at hc1
    refine .seq fun _ k9 => .region (st (.mv (.t rfl)) rfl (st (.mv (.t rfl)) rfl (st (.ixP sl29 ty39 (.t rfl) (.cI 0 rfl) ⟨by omega, by omega⟩ (getD_some (d := 0) (by first | omega | (simp only [Int.toNat_natCast, List.length_set]; omega)))) rfl ?_)))
    refine st (.eq (.loadP1 (.t rfl) ty39) ((show isU _ = isU (val ys) from isU_eq (one_word (by omega))))) rfl (st (.eq (.call (div_Small (by first | with_reducible assumption | omega | (simp only [val_words]; omega))) (.cons (.t rfl) (.cons (.t rfl) .nil))) (by first | (simp only [val_words]; rfl) | rfl)) rfl ?_)
    refine st (.mv (.t rfl)) rfl (st (.ext (.t rfl) rfl) rfl (st (.ext (.t rfl) rfl) rfl (st (.ext (.t rfl) rfl) rfl (st (.as (.t rfl)) rfl (st (.as (.t rfl)) rfl (st (.as (.t rfl)) rfl (nl (.thn (k9 _ _ (.cv (Cv.wk (.l [0, 1, 4, 5, 6, 7, 8] rfl)) (.seq fun _ k10 => .region (st (.mv (.t rfl)) rfl (st (.mv (.t rfl)) rfl (st (.call (nat_Of) (.cons (.t rfl) .nil)) rfl (st (.as (.t rfl)) rfl (st (.as (.t rfl)) rfl (st (.as (.cB true)) rfl (nl (.thn (k10 _ _ (.cv (Cv.wk (.l [0, 1, 4, 5, 6] rfl)) (.ret (.blr (.thr (rtN (.inl rfl) Tryz.results248 rfl rfl (.tmp (Has.t' rfl ?_) (.tmp (Has.t' rfl ?_) (.tmp (Has.t' rfl ?_) .nil))))))))))))))))))))))))))))
    ·rfl
    ·rfl
    ·exact isB_eq (by simp [hB])
   ·have hc3 := BP.f hc3
    have hB : val ys ≠ 0 := fun e => by rw [e, words_zero] at hc1; simp at hc1
    obtain ⟨k, hk⟩ : ∃ k, k = 64 - bitLen (dig (val ys) ((List.length (words (val ys))) - 1)) := ⟨_, rfl⟩
    have D := dm hB hle hk
    have Dk := D.k64
    have Dv := D.v
    have Dw := D.w
    have Dl := D.le
    refine .skip (.bln (.thn (k3 _ _ (.cv (Cv.wk (.l [0, 1, 4, 5, 6] rfl)) (.seq fun _ k11 => .region (st (.mv (.t rfl)) rfl (st (.mv (.t rfl)) rfl (st (.len sl29 (.t rfl)) rfl (st (.subI (.t rfl) (.cI 1 rfl) (by first | with_reducible assumption | omega | (simp only [val_words]; omega)) (by first | with_reducible assumption | omega | (simp only [val_words]; omega))) rfl ?_)))))))))
    refine st (.ixP sl29 ty39 (.t rfl) (.t rfl) ⟨by omega, by omega⟩ (getD_some (d := 0) (by first | omega | (simp only [Int.toNat_natCast, List.length_set]; omega)))) rfl ?_
    refine st (.eq (.loadP1 (.t rfl) ty39) ((show isU _ = isU (dig (val ys) ((List.length (words (val ys))) - 1)) from isU_eq (getV (by omega))))) rfl (st (.eq (.call (bits_LZ64) (.cons (.t rfl) .nil)) ((show isI _ = isI ((k : Nat) : Int) from isI_eq (by rw [hk])))) rfl (st (.as (.t rfl)) rfl (nl (.thn (k11 _ _ (.cv (Cv.wk (.l [0, 1, 4, 5, 6, 10] rfl)) (.seq fun _ k12 => .region (st (.mv (.t rfl)) rfl (st (.mv (.t rfl)) rfl (st (.eq (.call (nat_Shl (by omega) (by rw [val_words]; omega)) (.cons (.t rfl) (.cons (.t rfl) .nil))) (by first | (simp only [val_words]; rfl) | rfl)) rfl ?_))))))))))
    refine st (.mv (.t rfl)) rfl (st (.ext (.t rfl) rfl) rfl (st (.ext (.t rfl) rfl) rfl (st (.as (.t rfl)) rfl (st (.as (.t rfl)) rfl (nl (.thn (k12 _ _ (.cv (Cv.wk (.l [0, 4, 5, 6, 10, 11] rfl)) (.seq fun _ k13 => .region (st (.mv (.t rfl)) rfl (st (.mv (.t rfl)) rfl (st (.eq (.call (nat_Shl (by omega) (by rw [val_words]; omega)) (.cons (.t rfl) (.cons (.t rfl) .nil))) (by first | (simp only [val_words]; rfl) | rfl)) rfl ?_))))))))))))
    refine st (.mv (.t rfl)) rfl (st (.ext (.t rfl) rfl) rfl (st (.ext (.t rfl) rfl) rfl (st (.as (.t rfl)) rfl (st (.as (.t rfl)) rfl (nl (.thn (k13 _ _ (.cv (Cv.wk (.l [0, 4, 5, 6, 10, 11, 13] rfl)) (.seq fun _ k14 => .region (st (.mv (.t rfl)) rfl (st (.len sl29 (.t rfl)) rfl (st (.addI (.t rfl) (.cI 1 rfl) (by first | with_reducible assumption | omega | (simp only [val_words]; omega)) (by first | with_reducible assumption | omega | (simp only [val_words]; omega))) rfl ?_))))))))))))
    refine .make (f := isU) (u := 0) (n := (List.length (words (val xs))) + 1) (c := (List.length (words (val xs))) + 1) sl29 ty39 zero39 (fun _ _ => ⟨⟨rfl, by decide⟩, trivial⟩) by39 (Has.t' rfl rfl) (Has.t' rfl rfl) ⟨by omega, by omega⟩ rfl fun b1 => st (.as (.t rfl)) rfl (nl (.thn (k14 _ _ (.cv (Cv.wk (.l [4, 5, 6, 10, 11, 13, 15] rfl)) (.seq fun _ k15 => .region (st (.mv (.t rfl)) rfl (st (.mv (.t rfl)) rfl (.copyW sl29 ty39 (fun _ => inferInstance) (.t rfl) (.t rfl) (i := 0) rfl ⟨Dw, by simp⟩ rfl (M' := [(some b1, cellM (List.map isU (wordsN ((List.length (words (val xs))) + 1) (val xs * 2 ^ k))))]) (memL_eq (copy_words Dw)) (nl (.thn (k15 _ _ (.seq fun _ k16 => .region (st (.mv (.t rfl)) rfl (st (.mv (.t rfl)) rfl (.callM (div_long (N := val xs * 2 ^ k) (v := val ys * 2 ^ k) (m := (List.length (words (val xs))) + 1) (by omega) (by omega) (by omega) D.lt) (i := 0) rfl (.cons (.t rfl) (.cons (.t rfl) .nil)) rfl (M' := [(_, _)]) rfl (st (.as (.t rfl)) rfl (nl (.thn (k16 _ _ (.cv (Cv.wk (.l [4, 5, 6, 10, 15, 16] rfl)) (.seq fun _ k17 => .cv (Cv.freeze' (t := 15) (i := 0) (ys := wordsN ((List.length (words (val xs))) + 1) (left (val xs * 2 ^ k) (val ys * 2 ^ k) 0)) rfl rfl rfl (by simp [wordsN_len]) (freeze_all (wordsN_len _ _).symm)) (.memEq (M' := []) rfl (.cv (Cv.wk (.l [4, 5, 6, 10, 15, 16] rfl)) (.region (st (.mv (.t rfl)) rfl ?_)))))))))))))))))))))))))
    refine st (.mv (.t rfl)) rfl (st (.call (nat_Shr (by omega) (by have := nw_val_wordsN ((List.length (words (val xs))) + 1) (left (val xs * 2 ^ k) (val ys * 2 ^ k) 0); omega)) (.cons (.t rfl) (.cons (.t rfl) .nil))) rfl ?_)
    refine st (.mv (.t rfl)) rfl (st (.ext (.t rfl) rfl) rfl (st (.ext (.t rfl) rfl) rfl (st (.as (.t rfl)) rfl (st (.as (.t rfl)) rfl (nl (.thn (k17 _ _ (.cv (Cv.wk (.l [4, 5, 6, 16, 17] rfl)) (.seq fun _ k18 => .region (st (.mv (.t rfl)) rfl ?_))))))))))
    refine st (.call (nat_Norm (by have := nw_val_wordsN ((List.length (words (val xs))) + 1 - (List.length (words (val ys * 2 ^ k)))) (val xs * 2 ^ k / (val ys * 2 ^ k)); omega)) (.cons (.t rfl) .nil)) rfl ?_
    refine st (.mv (.t rfl)) rfl (st (.as (.t rfl)) rfl (st (.as (.t rfl)) rfl (st (.as (.cB true)) rfl (nl (.thn (k18 _ _ (.cv (Cv.wk (.l [4, 5, 6] rfl)) (.ret (rtN (.inl rfl) Tryz.results248 rfl rfl (.tmp (Has.t' rfl ?_) (.tmp (Has.t' rfl ?_) (.tmp (Has.t' rfl ?_) .nil))))))))))))
    ·exact SlM_eq (dm_quo hB D rfl rfl)
    ·exact SlM_eq (by rw [if_neg hB, dm_rest hB D rfl])
    ·exact isB_eq (by simp [hB])
theorem nat_Bits {xs : List Nat} (hx : (List.length (words (val xs))) < 4294967296) : Ctr Tryz.prog 149 [isWords xs] (isI ((bitLen (val xs) : Nat) : Int)) := by
 refine Ctr.intro Tryz.func149 rfl (by kernel_rfl) Tryz.ntmps149 rfl fun w0 F0 => .cv (Cv.wk (.l [0] rfl)) (.fact (Has.lenLt (Has.t (t := 0) rfl)) fun lt0 => .fact (Has.okW (Has.t (t := 0) rfl)) fun ok0 => .seq fun _ k1 => .region (st (.as (.cI 0 rfl)) rfl (nl (.thn (k1 _ _ (.seq fun _ k2 => .region (st (.mv (.t rfl)) rfl (st (.call (nat_trim) (.cons (.t rfl) .nil)) rfl (st (.as (.t rfl)) rfl (nl (.thn (k2 _ _ (.seq fun _ k3 => .seq fun _ k4 => .region (st (.mv (.t rfl)) rfl (st (.len sl29 (.t rfl)) rfl (st (.eqI (.t rfl) (.cI 0 rfl)) rfl (nl (.thn (k4 _ _ (.cond (.t rfl) (fun hc1 => ?_) (fun hc1 => ?_)))))))))))))))))))))
 ·have hc1 := BP.t hc1
  refine .seq fun _ k5 => .region (st (.as (.cI 0 rfl)) rfl (nl (.thn (k5 _ _ (.cv (Cv.wk (.l [0, 2] rfl)) (.ret (.thr (rt1 (.inl rfl) Tryz.results149 rfl (.tmp (Has.t' rfl ?_) .nil)))))))))
  all_goals (exact isI_eq (by rw [bits_zero (A := val xs) (by omega)]; rfl))
 ·have hc1 := BP.f hc1
  have hb := bits_int (A := val xs) (by omega)
  have hd := bitLen_le64 (dig_lt (val xs) ((List.length (words (val xs))) - 1))
  refine .skip (.thn (k3 _ _ (.cv (Cv.wk (.l [0, 2] rfl)) (.seq fun _ k6 => .region (st (.mv (.t rfl)) rfl (st (.len sl29 (.t rfl)) rfl (st (.subI (.t rfl) (.cI 1 rfl) (by first | with_reducible assumption | omega | (simp only [val_words]; omega)) (by first | with_reducible assumption | omega | (simp only [val_words]; omega))) rfl ?_)))))))
  refine st (.mulI (.cI 64 rfl) (.t rfl) (by first | with_reducible assumption | omega | (simp only [val_words]; omega)) (by first | with_reducible assumption | omega | (simp only [val_words]; omega))) rfl ?_
  refine st (.mv (.t rfl)) rfl (st (.mv (.t rfl)) rfl (st (.len sl29 (.t rfl)) rfl (st (.subI (.t rfl) (.cI 1 rfl) (by first | with_reducible assumption | omega | (simp only [val_words]; omega)) (by first | with_reducible assumption | omega | (simp only [val_words]; omega))) rfl ?_)))
  refine st (.ixP sl29 ty39 (.t rfl) (.t rfl) ⟨by omega, by omega⟩ (getD_some (d := 0) (by first | omega | (simp only [Int.toNat_natCast, List.length_set]; omega)))) rfl ?_
  refine st (.eq (.loadP1 (.t rfl) ty39) ((show isU _ = isU (dig (val xs) ((List.length (words (val xs))) - 1)) from isU_eq (getV (by omega))))) rfl (st (.call (bits_Len64) (.cons (.t rfl) .nil)) rfl (st (.addI (.t rfl) (.t rfl) (by first | with_reducible assumption | omega | (simp only [val_words]; omega)) (by first | with_reducible assumption | omega | (simp only [val_words]; omega))) rfl ?_))
  refine st (.as (.t rfl)) rfl (nl (.thn (k6 _ _ (.cv (Cv.wk (.l [2] rfl)) (.ret (rt1 (.inl rfl) Tryz.results149 rfl (.tmp (Has.t' rfl ?_) .nil)))))))
  all_goals (exact isI_eq (by omega))
theorem gcd_le_max (a b : Nat) : Nat.gcd a b ≤ max a b := by
 rcases Nat.eq_zero_or_pos a with h | h
 ·subst h; rw [Nat.gcd_zero_left]; exact Nat.le_max_right _ _
 ·exact Nat.le_trans (Nat.gcd_le_left b h) (Nat.le_max_left _ _)
theorem nw_max (a b : Nat) : (List.length (words (max a b))) ≤ max ((List.length (words a))) ((List.length (words b))) := by
 rcases Nat.le_total a b with h | h
 ·rw [Nat.max_eq_right h]; omega
 ·rw [Nat.max_eq_left h]; omega
def upW (n : Nat) (xs : List Nat) : List Nat := if xs.length = 0 then [] else List.replicate n 0 ++ xs
theorem upW_nil {n : Nat} {xs : List Nat} (h : xs.length = 0) : [] = upW n xs := by unfold upW; rw [if_pos h]
theorem upW_app {n : Nat} {xs : List Nat} (h : xs.length ≠ 0) : List.replicate n 0 ++ xs = upW n xs := by unfold upW; rw [if_neg h]
theorem upW_val (n : Nat) (xs : List Nat) : val (upW n xs) = W ^ n * val xs := by
 unfold upW
 split
 ·rename_i h; rw [List.eq_nil_of_length_eq_zero h]; rfl
 ·rw [val_append, val_replicate, List.length_replicate, Nat.zero_add]
theorem upW_nw {n : Nat} {xs : List Nat} (h : Ok xs) : (List.length (words (val (upW n xs)))) ≤ n + xs.length := by
 rw [upW_val]
 refine nw_le ?_
 rw [Nat.pow_add]
 exact Nat.mul_lt_mul_of_pos_left (val_lt h) (pow_pos' n)
theorem ok_take {xs : List Nat} (h : Ok xs) (n : Nat) : Ok (xs.take n) := fun x hx => h x (List.mem_of_mem_take hx)
theorem ok_drop {xs : List Nat} (h : Ok xs) (n : Nat) : Ok (xs.drop n) := fun x hx => h x (List.mem_of_mem_drop hx)
theorem lowW_nw (a n : Nat) : (List.length (words (val ((words a).take n)))) ≤ min n ((List.length (words a))) := by
 have := nw_val (ok_take (words_ok a) n)
 rwa [List.length_take] at this
theorem highW_nw (a n : Nat) : (List.length (words (val ((words a).drop n)))) ≤ (List.length (words a)) - n := by
 have := nw_val (ok_drop (words_ok a) n)
 rwa [List.length_drop] at this
theorem halves (a n : Nat) : val ((words a).take n) + W ^ n * val ((words a).drop n) = a := by
 rcases Nat.lt_or_ge n (words a).length with h | h
 ·have e := val_append ((words a).take n) ((words a).drop n)
  rw [List.take_append_drop, val_words, List.length_take, Nat.min_eq_left (Nat.le_of_lt h)] at e
  exact e.symm
 ·rw [List.take_of_length_le h, List.drop_eq_nil_of_le h, val_words]; exact Nat.add_zero _
theorem kara (p q r s n : Nat) : p * r + W ^ n * ((p + q) * (r + s) - p * r - q * s) + W ^ (2 * n) * (q * s) = (p + W ^ n * q) * (r + W ^ n * s) := by
 have e : (p + q) * (r + s) - p * r - q * s = p * s + q * r := by
  rw [Nat.add_mul, Nat.mul_add, Nat.mul_add]; omega
 rw [e, Nat.two_mul, Nat.pow_add]
 generalize W ^ n = w
 simp only [Nat.add_mul, Nat.mul_add, Nat.mul_assoc, Nat.mul_left_comm, Nat.mul_comm, Nat.add_assoc, Nat.add_left_comm, Nat.add_comm]
theorem mul_low {xs : List Nat} {n : Nat} : Ctr Tryz.prog 244 [isWords xs, isI (n : Int)] (isWords (xs.take n)) := by
 refine Ctr.intro Tryz.func244 rfl (by kernel_rfl) Tryz.ntmps244 rfl fun w0 F0 => .cv (Cv.wk (.l [0, 1] rfl)) (.fact (Has.lenLt (Has.t (t := 0) rfl)) fun lt0 => .fact (Has.okW (Has.t (t := 0) rfl)) fun ok0 => .fact (Has.rngI (Has.t (t := 1) rfl)) fun lt1 => .seq fun _ k1 => .region (st (.as (.cW (f := isU))) rfl (nl (.thn (k1 _ _ (.seq fun _ k2 => .seq fun _ k3 => .region (st (.mv (.t rfl)) rfl (st (.len sl29 (.t rfl)) rfl (st (.mv (.t rfl)) rfl (st (.leI (.t rfl) (.t rfl)) rfl (nl (.thn (k3 _ _ (.cond (.t rfl) (fun hc1 => ?_) (fun hc1 => ?_)))))))))))))))
 ·have hc1 := BP.t hc1
  refine .seq fun _ k4 => .region (st (.mv (.t rfl)) rfl (st (.as (.t rfl)) rfl (nl (.thn (k4 _ _ (.cv (Cv.wk (.l [0, 1, 4] rfl)) (.ret (.thr (rt1 (.inl rfl) Tryz.results244 rfl (.tmp (Has.t' rfl ?_) .nil))))))))))
  all_goals (exact SlM_eq (List.take_of_length_le (by omega)).symm)
 ·have hc1 := BP.f hc1
  refine .skip (.thn (k2 _ _ (.seq fun _ k5 => .region (st (.mv (.t rfl)) rfl (st (.mv (.t rfl)) rfl (st (.slHM sl29 ty39 (.t rfl) (.t rfl) ⟨by omega, by omega⟩) rfl (st (.as (.t rfl)) rfl (nl (.thn (k5 _ _ (.cv (Cv.wk (.l [4] rfl)) (.ret (rt1 (.inl rfl) Tryz.results244 rfl (.tmp (Has.t' rfl ?_) .nil))))))))))))))
  all_goals (exact SlM_eq (by rw [Int.toNat_natCast]))
theorem mul_high {xs : List Nat} {n : Nat} : Ctr Tryz.prog 245 [isWords xs, isI (n : Int)] (isWords (xs.drop n)) := by
 refine Ctr.intro Tryz.func245 rfl (by kernel_rfl) Tryz.ntmps245 rfl fun w0 F0 => .cv (Cv.wk (.l [0, 1] rfl)) (.fact (Has.lenLt (Has.t (t := 0) rfl)) fun lt0 => .fact (Has.okW (Has.t (t := 0) rfl)) fun ok0 => .fact (Has.rngI (Has.t (t := 1) rfl)) fun lt1 => .seq fun _ k1 => .region (st (.as (.cW (f := isU))) rfl (nl (.thn (k1 _ _ (.seq fun _ k2 => .seq fun _ k3 => .region (st (.mv (.t rfl)) rfl (st (.len sl29 (.t rfl)) rfl (st (.mv (.t rfl)) rfl (st (.leI (.t rfl) (.t rfl)) rfl (nl (.thn (k3 _ _ (.cond (.t rfl) (fun hc1 => ?_) (fun hc1 => ?_)))))))))))))))
 ·have hc1 := BP.t hc1
  refine .seq fun _ k4 => .region (st (.as (.cW (f := isU))) rfl (nl (.thn (k4 _ _ (.ret (.thr (rt1 (.inl rfl) Tryz.results245 rfl (.tmp (Has.t' rfl ?_) .nil))))))))
  all_goals (exact SlM_eq (List.drop_eq_nil_of_le (by omega)).symm)
 ·have hc1 := BP.f hc1
  refine .skip (.thn (k2 _ _ (.seq fun _ k5 => .region (st (.mv (.t rfl)) rfl (st (.mv (.t rfl)) rfl (st (.slLM sl29 ty39 (.t rfl) (.t rfl) ⟨by omega, by omega⟩) rfl (st (.as (.t rfl)) rfl (nl (.thn (k5 _ _ (.cv (Cv.wk (.l [4] rfl)) (.ret (rt1 (.inl rfl) Tryz.results245 rfl (.tmp (Has.t' rfl ?_) .nil))))))))))))))
  all_goals (exact SlM_eq (by rw [Int.toNat_natCast]))
theorem mul_less {xs ys : List Nat} (hx : (List.length (words (val xs))) < 4294967296) : Ctr Tryz.prog 246 [isWords xs, isWords ys] (isWords (words (val xs - val ys))) := by
 refine Ctr.intro Tryz.func246 rfl (by kernel_rfl) Tryz.ntmps246 rfl fun w0 F0 => .cv (Cv.wk (.l [0, 1] rfl)) (.fact (Has.lenLt (Has.t (t := 0) rfl)) fun lt0 => .fact (Has.okW (Has.t (t := 0) rfl)) fun ok0 => .fact (Has.lenLt (Has.t (t := 1) rfl)) fun lt1 => .fact (Has.okW (Has.t (t := 1) rfl)) fun ok1 => .seq fun _ k1 => .region (st (.as (.cW (f := isU))) rfl (nl (.thn (k1 _ _ (.seq fun _ k2 => .region (st (.mv (.t rfl)) rfl (st (.mv (.t rfl)) rfl (st (.call (nat_Sub (by first | with_reducible assumption | omega | (simp only [val_words]; omega))) (.cons (.t rfl) (.cons (.t rfl) .nil))) rfl ?_)))))))))
 refine st (.mv (.t rfl)) rfl (st (.ext (.t rfl) rfl) rfl (st (.ext (.t rfl) rfl) rfl (st (.as (.t rfl)) rfl (st (.as (.t rfl)) rfl (nl (.thn (k2 _ _ (.cv (Cv.wk (.l [4, 5] rfl)) (.seq fun _ k3 => .region (st (.mv (.t rfl)) rfl (st (.as (.t rfl)) rfl (nl (.thn (k3 _ _ (.ret (rt1 (.inl rfl) Tryz.results246 rfl (.tmp (Has.t' rfl ?_) .nil)))))))))))))))))
 all_goals (rfl)
theorem mul_up {xs : List Nat} {n : Nat} (hn : n + xs.length ≤ 4294967296) : Ctr Tryz.prog 274 [isWords xs, isI (n : Int)] (isWords (upW n xs)) := by
 refine Ctr.intro Tryz.func274 rfl (by kernel_rfl) Tryz.ntmps274 rfl fun w0 F0 => .cv (Cv.wk (.l [0, 1] rfl)) (.fact (Has.lenLt (Has.t (t := 0) rfl)) fun lt0 => .fact (Has.okW (Has.t (t := 0) rfl)) fun ok0 => .fact (Has.rngI (Has.t (t := 1) rfl)) fun lt1 => .seq fun _ k1 => .region (st (.as (.cW (f := isU))) rfl (nl (.thn (k1 _ _ (.seq fun _ k2 => .seq fun _ k3 => .region (st (.mv (.t rfl)) rfl (st (.len sl29 (.t rfl)) rfl (st (.eqI (.t rfl) (.cI 0 rfl)) rfl (nl (.thn (k3 _ _ (.cond (.t rfl) (fun hc1 => ?_) (fun hc1 => ?_))))))))))))))
 ·have hc1 := BP.t hc1
  refine .seq fun _ k4 => .region (st (.as (.cW (f := isU))) rfl (nl (.thn (k4 _ _ (.ret (.thr (rt1 (.inl rfl) Tryz.results274 rfl (.tmp (Has.t' rfl ?_) .nil))))))))
  all_goals (exact SlM_eq (upW_nil (by omega)))
 ·have hc1 := BP.f hc1
  refine .skip (.thn (k2 _ _ (.seq fun _ k5 => .region (st (.mv (.t rfl)) rfl (st (.mv (.t rfl)) rfl (st (.mv (.t rfl)) rfl (st (.len sl29 (.t rfl)) rfl (st (.eq (.addI (.t rfl) (.t rfl) (by first | omega | assumption) (by first | omega | assumption)) ((show isI _ = isI ((n + xs.length : Nat) : Int) from isI_eq (by omega)))) rfl (.make (f := isU) (u := 0) (n := n) (c := n + xs.length) sl29 ty39 zero39 (fun _ _ => ⟨⟨rfl, by decide⟩, trivial⟩) by39 (Has.t' rfl rfl) (Has.t' rfl rfl) ⟨by omega, by omega⟩ rfl fun b1 => st (.mv (.t rfl)) rfl (.cv (Cv.winGrM (f := isU) (t := 13) (i := 0) (ys := List.replicate n 0) rfl rfl (by simp) (by simp) (by simp)) ?_))))))))))
  refine .memEq (M' := [grM _ _ _]) rfl (.appendG (f := isU) (u := 0) sl29 ty39 zero39 (fun _ _ => ⟨⟨rfl, by decide⟩, trivial⟩) (fun _ => inferInstance) by39 (.t rfl) (i := 0) rfl (.t rfl) (by rw [List.length_replicate]; exact hn) (by omega) rfl fun gr1 => ?_)
  refine .memEq (M' := [grM _ _ _]) rfl (.cv (Cv.freezeGn (t := 15) (i := 0) (ys := List.replicate n 0 ++ xs) rfl rfl rfl (by simp)) ?_)
  refine .memEq (M' := []) rfl (.cv (Cv.wk (.l [0, 1, 4, 5, 6, 7, 8, 9, 10, 11, 12, 14, 15] rfl)) (st (.as (.t rfl)) rfl (nl (.thn (k5 _ _ (.cv (Cv.wk (.l [4] rfl)) (.ret (rt1 (.inl rfl) Tryz.results274 rfl (.tmp (Has.t' rfl ?_) .nil)))))))))
  all_goals (exact SlM_eq (upW_app (by omega)))
theorem mul_joined {xs ys zs : List Nat} {n : Nat} (hx : (List.length (words (val xs))) ≤ 2100000000) (hn : n ≤ 1000000000) (hy : ys.length ≤ 2000000000) (hz : zs.length ≤ 2000000000) : Ctr Tryz.prog 247 [isWords xs, isWords ys, isWords zs, isI (n : Int)] (isWords (words (val xs + W ^ n * val ys + W ^ (2 * n) * val zs))) := by
 refine Ctr.intro Tryz.func247 rfl (by kernel_rfl) Tryz.ntmps247 rfl fun w0 F0 => .cv (Cv.wk (.l [0, 1, 2, 3] rfl)) (.fact (Has.lenLt (Has.t (t := 0) rfl)) fun lt0 => .fact (Has.okW (Has.t (t := 0) rfl)) fun ok0 => .fact (Has.lenLt (Has.t (t := 1) rfl)) fun lt1 => .fact (Has.okW (Has.t (t := 1) rfl)) fun ok1 => .fact (Has.lenLt (Has.t (t := 2) rfl)) fun lt2 => .fact (Has.okW (Has.t (t := 2) rfl)) fun ok2 => .fact (Has.rngI (Has.t (t := 3) rfl)) fun lt3 => ?_)
 have u1 := upW_nw (n := n) ok1
 have u2 := upW_nw (n := 2 * n) ok2
 have h1 := nw_add_le (val xs) (val (upW n ys))
 refine .seq fun _ k1 => .region (st (.as (.cW (f := isU))) rfl (nl (.thn (k1 _ _ (.seq fun _ k2 => .region (st (.as (Has.fn (ι := { p : List Nat × Nat // p.2 + p.1.length ≤ 4294967296 }) (As := fun p => [isWords p.1.1, isI (p.1.2 : Int)]) (R := fun p => isWords (upW p.1.2 p.1.1)) (fun p => mul_up p.2))) rfl (nl (.thn (k2 _ _ (.seq fun _ k3 => .region (st (.mv (.t rfl)) rfl (st (.mv (.t rfl)) rfl (st (.mv (.t rfl)) rfl ?_)))))))))))))
 refine st (.mv (.t rfl)) rfl (st (.callV ⟨(ys, n), by show n + ys.length ≤ _; omega⟩ (.t rfl) (.cons (.t rfl) (.cons (.t rfl) .nil))) rfl ?_)
 refine st (.call (nat_Add (by first | with_reducible assumption | omega | (simp only [val_words]; omega)) (by first | with_reducible assumption | omega | (simp only [val_words]; omega))) (.cons (.t rfl) (.cons (.t rfl) .nil))) rfl ?_
 refine st (.mv (.t rfl)) rfl (st (.mv (.t rfl)) rfl (st (.mv (.t rfl)) rfl (st (.eq (.mulI (.cI 2 rfl) (.t rfl) (by first | with_reducible assumption | omega | (simp only [val_words]; omega)) (by first | with_reducible assumption | omega | (simp only [val_words]; omega))) ((show isI _ = isI ((2 * n : Nat) : Int) from isI_eq (by omega)))) rfl ?_)))
 refine st (.callV ⟨(zs, 2 * n), by show 2 * n + zs.length ≤ _; omega⟩ (.t rfl) (.cons (.t rfl) (.cons (.t rfl) .nil))) rfl ?_
 refine st (.call (nat_Add (by first | with_reducible assumption | omega | (simp only [val_words]; omega)) (by first | with_reducible assumption | omega | (simp only [val_words]; omega))) (.cons (.t rfl) (.cons (.t rfl) .nil))) rfl ?_
 refine st (.as (.t rfl)) rfl (nl (.thn (k3 _ _ (.cv (Cv.wk (.l [8] rfl)) (.ret (rt1 (.inl rfl) Tryz.results247 rfl (.tmp (Has.t' rfl ?_) .nil)))))))
 all_goals (exact SlM_eq (by rw [val_words, upW_val, upW_val]))
theorem mul_MulStep {xs ys : List Nat} (hx : (List.length (words (val xs))) ≤ 1000000000) (hy : (List.length (words (val ys))) ≤ 1000000000) (IH : ∀ us vs : List Nat, max ((List.length (words (val us)))) ((List.length (words (val vs)))) < max ((List.length (words (val xs)))) ((List.length (words (val ys)))) → (List.length (words (val us))) ≤ 1000000000 → (List.length (words (val vs))) ≤ 1000000000 → Ctr Tryz.prog 189 [isWords us, isWords vs] (isWords (words (val us * val vs)))) : Ctr Tryz.prog 189 [isWords xs, isWords ys] (isWords (words (val xs * val ys))) := by
 refine Ctr.intro Tryz.func189 rfl (by kernel_rfl) Tryz.ntmps189 rfl fun w0 F0 => .cv (Cv.wk (.l [0, 1] rfl)) (.fact (Has.lenLt (Has.t (t := 0) rfl)) fun lt0 => .fact (Has.okW (Has.t (t := 0) rfl)) fun ok0 => .fact (Has.lenLt (Has.t (t := 1) rfl)) fun lt1 => .fact (Has.okW (Has.t (t := 1) rfl)) fun ok1 => ?_)
 obtain ⟨N, hN⟩ : ∃ N, N = (max ((List.length (words (val xs)))) ((List.length (words (val ys)))) + 1) / 2 := ⟨_, rfl⟩
 have kp := lowW_nw (val xs) N
 have kq := highW_nw (val xs) N
 have kr := lowW_nw (val ys) N
 have ks := highW_nw (val ys) N
 have ka := nw_add_le (val ((words (val xs)).take N)) (val ((words (val xs)).drop N))
 have kb := nw_add_le (val ((words (val ys)).take N)) (val ((words (val ys)).drop N))
 have ea := halves (val xs) N
 have eb := halves (val ys) N
 obtain ⟨p, hp⟩ : ∃ p, p = (words (val xs)).take N := ⟨_, rfl⟩
 obtain ⟨q, hq⟩ : ∃ q, q = (words (val xs)).drop N := ⟨_, rfl⟩
 obtain ⟨r, hr⟩ : ∃ r, r = (words (val ys)).take N := ⟨_, rfl⟩
 obtain ⟨s, hs⟩ : ∃ s, s = (words (val ys)).drop N := ⟨_, rfl⟩
 rw [← hp] at kp ka ea
 rw [← hq] at kq ka ea
 rw [← hr] at kr kb eb
 rw [← hs] at ks kb eb
 have kpr := nw_mul_le (val p) (val r)
 have kqs := nw_mul_le (val q) (val s)
 have kc := nw_mul_le (val p + val q) (val r + val s)
 have kc2 := nw_mono (Nat.sub_le ((val p + val q) * (val r + val s)) (val p * val r))
 have kc3 := nw_mono (Nat.sub_le ((val p + val q) * (val r + val s) - val p * val r) (val q * val s))
 refine .seq fun _ k1 => .region (st (.as (.cW (f := isU))) rfl (nl (.thn (k1 _ _ (.seq fun _ k2 => .region (st (.mv (.t rfl)) rfl (st (.eq (.call (nat_Norm (by first | with_reducible assumption | omega | (simp only [val_words]; omega))) (.cons (.t rfl) .nil)) (by first | (simp only [val_words]; rfl) | rfl)) rfl ?_)))))))
 refine st (.mv (.t rfl)) rfl (st (.eq (.call (nat_Norm (by first | with_reducible assumption | omega | (simp only [val_words]; omega))) (.cons (.t rfl) .nil)) (by first | (simp only [val_words]; rfl) | rfl)) rfl ?_)
 refine st (.as (.t rfl)) rfl (st (.as (.t rfl)) rfl (nl (.thn (k2 _ _ (.seq fun _ k3 => .seq fun _ k4 => .region (st (.mv (.t rfl)) rfl (st (.len sl29 (.t rfl)) rfl (st (.mv (.t rfl)) rfl (st (.len sl29 (.t rfl)) rfl (st (.minI (.t rfl) (.t rfl)) rfl (st (.leI (.t rfl) (.cI 8 rfl)) rfl (nl (.thn (k4 _ _ (.cv (Cv.wk (.l [0, 1, 4, 22] rfl)) (.cond (.t rfl) (fun hc1 => ?_) (fun hc1 => ?_)))))))))))))))))
 ·have hc1 := BP.t hc1
  have HM : (List.length (words (val xs))) ≤ 8 ∨ (List.length (words (val ys))) ≤ 8 := (by revert hc1; split <;> intro hc1 <;> omega)
  refine .seq fun _ k5 => .region (st (.mv (.t rfl)) rfl (st (.mv (.t rfl)) rfl (st (.eq (.call (nat_Mul (by first | with_reducible assumption | omega | (simp only [val_words]; omega))) (.cons (.t rfl) (.cons (.t rfl) .nil))) (by first | (simp only [val_words]; rfl) | rfl)) rfl ?_)))
  refine st (.as (.t rfl)) rfl (nl (.thn (k5 _ _ (.ret (.thr (rt1 (.inl rfl) Tryz.results189 rfl (.tmp (Has.t' rfl ?_) .nil)))))))
  all_goals (rfl)
 ·have hc1 := BP.f hc1
  have HM : 8 < (List.length (words (val xs))) ∧ 8 < (List.length (words (val ys))) := (by revert hc1; split <;> intro hc1 <;> omega)
  refine .skip (.thn (k3 _ _ (.seq fun _ k6 => .region (st (.mv (.t rfl)) rfl (st (.len sl29 (.t rfl)) rfl (st (.mv (.t rfl)) rfl (st (.len sl29 (.t rfl)) rfl (st (.maxI (.t rfl) (.t rfl)) rfl (st (.addI (.t rfl) (.cI 1 rfl) (by first | with_reducible assumption | omega | (simp only [val_words]; omega)) (by first | with_reducible assumption | omega | (simp only [val_words]; omega))) rfl ?_)))))))))
  refine st (.eq (.quoI (.t rfl) (.cI 2 rfl) (by first | with_reducible assumption | omega | (simp only [val_words]; omega)) (by first | with_reducible assumption | omega | (simp only [val_words]; omega)) (by first | with_reducible assumption | omega | (simp only [val_words]; omega))) ((show isI _ = isI (N : Int) from isI_eq (by rw [hN]; split <;> omega)))) rfl ?_
  refine st (.as (.t rfl)) rfl (nl (.thn (k6 _ _ (.cv (Cv.wk (.l [0, 1, 4, 5] rfl)) (.seq fun _ k7 => .region (st (.mv (.t rfl)) rfl (st (.mv (.t rfl)) rfl (st (.eq (.call (mul_low) (.cons (.t rfl) (.cons (.t rfl) .nil))) ((show isWords ((words (val xs)).take N) = isWords p from SlM_eq hp.symm))) rfl (st (.mv (.t rfl)) rfl (st (.mv (.t rfl)) rfl (st (.eq (.call (mul_high) (.cons (.t rfl) (.cons (.t rfl) .nil))) ((show isWords ((words (val xs)).drop N) = isWords q from SlM_eq hq.symm))) rfl (st (.mv (.t rfl)) rfl (st (.mv (.t rfl)) rfl (st (.eq (.call (mul_low) (.cons (.t rfl) (.cons (.t rfl) .nil))) ((show isWords ((words (val ys)).take N) = isWords r from SlM_eq hr.symm))) rfl (st (.mv (.t rfl)) rfl (st (.mv (.t rfl)) rfl (st (.eq (.call (mul_high) (.cons (.t rfl) (.cons (.t rfl) .nil))) ((show isWords ((words (val ys)).drop N) = isWords s from SlM_eq hs.symm))) rfl (st (.as (.t rfl)) rfl (st (.as (.t rfl)) rfl (st (.as (.t rfl)) rfl (st (.as (.t rfl)) rfl (nl (.thn (k7 _ _ (.cv (Cv.wk (.l [4, 5, 6, 7, 8, 9] rfl)) (.seq fun _ k8 => .region (st (.mv (.t rfl)) rfl (st (.mv (.t rfl)) rfl (st (.call (IH _ _ (by first | with_reducible assumption | omega | (simp only [val_words]; omega)) (by first | with_reducible assumption | omega | (simp only [val_words]; omega)) (by first | with_reducible assumption | omega | (simp only [val_words]; omega))) (.cons (.t rfl) (.cons (.t rfl) .nil))) rfl ?_)))))))))))))))))))))))))))))
  refine st (.mv (.t rfl)) rfl (st (.mv (.t rfl)) rfl (st (.call (IH _ _ (by first | with_reducible assumption | omega | (simp only [val_words]; omega)) (by first | with_reducible assumption | omega | (simp only [val_words]; omega)) (by first | with_reducible assumption | omega | (simp only [val_words]; omega))) (.cons (.t rfl) (.cons (.t rfl) .nil))) rfl ?_))
  refine st (.as (.t rfl)) rfl (st (.as (.t rfl)) rfl (nl (.thn (k8 _ _ (.cv (Cv.wk (.l [4, 5, 6, 7, 8, 9, 10, 11] rfl)) (.seq fun _ k9 => .region (st (.mv (.t rfl)) rfl (st (.mv (.t rfl)) rfl (st (.eq (.call (nat_Add (by first | with_reducible assumption | omega | (simp only [val_words]; omega)) (by first | with_reducible assumption | omega | (simp only [val_words]; omega))) (.cons (.t rfl) (.cons (.t rfl) .nil))) ((show isWords (words (val p + val q)) = _ from rfl))) rfl ?_)))))))))
  refine st (.mv (.t rfl)) rfl (st (.mv (.t rfl)) rfl (st (.call (nat_Add (by first | with_reducible assumption | omega | (simp only [val_words]; omega)) (by first | with_reducible assumption | omega | (simp only [val_words]; omega))) (.cons (.t rfl) (.cons (.t rfl) .nil))) rfl ?_))
  refine st (.eq (.call (IH _ _ (by first | with_reducible assumption | omega | (simp only [val_words]; omega)) (by first | with_reducible assumption | omega | (simp only [val_words]; omega)) (by first | with_reducible assumption | omega | (simp only [val_words]; omega))) (.cons (.t rfl) (.cons (.t rfl) .nil))) ((show isWords _ = isWords (words ((val p + val q) * (val r + val s))) from SlM_eq (by rw [val_words, val_words])))) rfl ?_
  refine st (.mv (.t rfl)) rfl (st (.eq (.call (mul_less (by first | with_reducible assumption | omega | (simp only [val_words]; omega))) (.cons (.t rfl) (.cons (.t rfl) .nil))) ((show isWords _ = isWords (words ((val p + val q) * (val r + val s) - val p * val r)) from SlM_eq (by rw [val_words, val_words])))) rfl ?_)
  refine st (.mv (.t rfl)) rfl (st (.eq (.call (mul_less (by first | with_reducible assumption | omega | (simp only [val_words]; omega))) (.cons (.t rfl) (.cons (.t rfl) .nil))) ((show isWords _ = isWords (words ((val p + val q) * (val r + val s) - val p * val r - val q * val s)) from SlM_eq (by rw [val_words, val_words])))) rfl ?_)
  refine st (.as (.t rfl)) rfl (nl (.thn (k9 _ _ (.cv (Cv.wk (.l [4, 5, 10, 11, 12] rfl)) (.seq fun _ k10 => .region (st (.mv (.t rfl)) rfl (st (.mv (.t rfl)) rfl (st (.mv (.t rfl)) rfl (st (.mv (.t rfl)) rfl (st (.call (mul_joined (by simp only [val_words]; omega) (by omega) (by omega) (by omega)) (.cons (.t rfl) (.cons (.t rfl) (.cons (.t rfl) (.cons (.t rfl) .nil))))) rfl ?_))))))))))
  refine st (.as (.t rfl)) rfl (nl (.thn (k10 _ _ (.cv (Cv.wk (.l [4] rfl)) (.ret (rt1 (.inl rfl) Tryz.results189 rfl (.tmp (Has.t' rfl ?_) .nil)))))))
  all_goals (exact SlM_eq (by simp only [val_words]; rw [kara, ea, eb]))
theorem mul_Mul : ∀ {xs ys : List Nat}, (List.length (words (val xs))) ≤ 1000000000 → (List.length (words (val ys))) ≤ 1000000000 → Ctr Tryz.prog 189 [isWords xs, isWords ys] (isWords (words (val xs * val ys))) := by
 have h : ∀ N, ∀ xs ys : List Nat, max ((List.length (words (val xs)))) ((List.length (words (val ys)))) ≤ N → (List.length (words (val xs))) ≤ 1000000000 → (List.length (words (val ys))) ≤ 1000000000 → Ctr Tryz.prog 189 [isWords xs, isWords ys] (isWords (words (val xs * val ys))) := by
  intro N
  induction N with
  | zero => intro xs ys h hx hy; exact mul_MulStep hx hy (fun us vs hl => absurd hl (by omega))
  | succ N ih => intro xs ys h hx hy; exact mul_MulStep hx hy (fun us vs hl => ih us vs (by omega))
 intro xs ys hx hy
 exact h _ xs ys (Nat.le_refl _) hx hy
theorem zint_From {xs : List Nat} {m : Bool} (hx : (List.length (words (val xs))) ≤ 4294967296) : Ctr Tryz.prog 102 [isWords xs, isB m] (isZ (zv m xs)) := by
 refine Ctr.intro Tryz.func102 rfl (by kernel_rfl) Tryz.ntmps102 rfl fun w0 F0 => .cv (Cv.wk (.l [0, 1] rfl)) (.fact (Has.lenLt (Has.t (t := 0) rfl)) fun lt0 => .fact (Has.okW (Has.t (t := 0) rfl)) fun ok0 => .seq fun _ k1 => .region (.alloc [isB false, SlM isU []] zero31 (fun _ _ => ⟨rfl, nilM _ _, trivial⟩) rfl fun b1 => nl (.thn (k1 _ _ (.seq fun _ k2 => .region (st (.mv (.t rfl)) rfl (st (.call (nat_Norm (by first | with_reducible assumption | omega | (simp only [val_words, zv_nf]; omega) | (simp only [val_words]; exact Nat.le_trans (nw_small' (by omega)) (by decide)))) (.cons (.t rfl) .nil)) rfl ?_)))))))
 refine st (.as (.t rfl)) rfl (nl (.thn (k2 _ _ (.seq fun _ k3 => .region (st (.mv (.t rfl)) rfl (st (.mv (.t rfl)) rfl ?_))))))
 refine stT rfl rfl (fun hg => have hg' := BP.t hg; OK1.mv (.t rfl)) rfl ?_
 refine stT rfl rfl (fun hg => have hg' := BP.t hg; OK1.len sl29 (Has.g rfl hg)) rfl ?_
 refine stT rfl rfl (fun hg => have hg' := BP.t hg; OK1.gtI (Has.g rfl hg) (.cI 0 rfl)) rfl ?_
 refine st (.pickAnd (.t rfl) (fun h => Has.g rfl h)) rfl (st (.mv (.t rfl)) rfl (st (.build [isB false, SlM isU []] pl31 zero31 (fun _ _ => ⟨rfl, nilM _ _, trivial⟩) (.cons (.t rfl) rfl rfl rfl (.cons (.t rfl) rfl rfl rfl .nil)) (Z'' := [_, _]) rfl) rfl (.store (.t rfl) (.t rfl) (i := 0) rfl ty31 rfl rfl (Ss' := [_, _]) rfl (M' := [(some _, cellM [_, _])]) rfl (nl (.thn (k3 _ _ (.cv (Cv.wk (.l [4] rfl)) (.ret (rt1 (.inl rfl) Tryz.results102 rfl (.cell rfl (i := 0) rfl ty31 rfl ?_ .nil))))))))))
 ·exact isZ_of (from_neg m xs) (by rw [zv_abs])
theorem zint_Of {x : Int} : Ctr Tryz.prog 34 [isI x] (isZ x) := by
 refine Ctr.intro Tryz.func34 rfl (by kernel_rfl) Tryz.ntmps34 rfl fun w0 F0 => .cv (Cv.wk (.l [0] rfl)) (.fact (Has.rngI (Has.t (t := 0) rfl)) fun lt0 => .seq fun _ k1 => .region (.alloc [isB false, SlM isU []] zero31 (fun _ _ => ⟨rfl, nilM _ _, trivial⟩) rfl fun b1 => nl (.thn (k1 _ _ (.seq fun _ k2 => .seq fun _ k3 => .region (st (.mv (.t rfl)) rfl (st (.ltI (.t rfl) (.cI 0 rfl)) rfl (nl (.thn (k3 _ _ (.cond (.t rfl) (fun hc1 => ?_) (fun hc1 => ?_))))))))))))
 ·have hc1 := BP.t hc1
  have hN : x < 0 := hc1
  refine .seq fun _ k4 => .region (st (.mv (.t rfl)) rfl (st (.convIUw un2 un39 (.t rfl)) rfl (st (.eq (.negU (.t rfl) (by first | with_reducible assumption | omega | (simp only [val_words, zv_nf]; omega) | (simp only [val_words]; exact Nat.le_trans (nw_small' (by omega)) (by decide)))) ((show isU _ = isU x.natAbs from isU_eq (neg_word hc1 (by omega))))) rfl ?_)))
  refine st (.call (nat_Of) (.cons (.t rfl) .nil)) rfl (st (.call (zint_From (by first | with_reducible assumption | omega | (simp only [val_words, zv_nf]; omega) | (simp only [val_words]; exact Nat.le_trans (nw_small' (by omega)) (by decide)))) (.cons (.t rfl) (.cons (.cB true) .nil))) rfl ?_)
  refine .store (.t rfl) (.t rfl) (i := 0) rfl ty31 rfl rfl (Ss' := [_, _]) rfl (M' := [(some _, cellM [_, _])]) rfl (nl (.thn (k4 _ _ (.cv (Cv.wk (.l [0, 2] rfl)) (.ret (.thr (rt1 (.inl rfl) Tryz.results34 rfl (.cell rfl (i := 0) rfl ty31 rfl ?_ .nil))))))))
  ·exact isZ_eq (by rw [from_word, if_pos rfl]; omega)
 ·have hc1 := BP.f hc1
  have hN : 0 ≤ x := (by omega)
  refine .skip (.thn (k2 _ _ (.seq fun _ k5 => .region (st (.mv (.t rfl)) rfl (st (.eq (.convIU un2 un39 (.t rfl) (by first | with_reducible assumption | omega | (simp only [val_words, zv_nf]; omega) | (simp only [val_words]; exact Nat.le_trans (nw_small' (by omega)) (by decide))) (by first | with_reducible assumption | omega | (simp only [val_words, zv_nf]; omega) | (simp only [val_words]; exact Nat.le_trans (nw_small' (by omega)) (by decide)))) ((show isU _ = isU x.natAbs from isU_eq (by omega)))) rfl ?_)))))
  refine st (.call (nat_Of) (.cons (.t rfl) .nil)) rfl (st (.call (zint_From (by first | with_reducible assumption | omega | (simp only [val_words, zv_nf]; omega) | (simp only [val_words]; exact Nat.le_trans (nw_small' (by omega)) (by decide)))) (.cons (.t rfl) (.cons (.cB false) .nil))) rfl ?_)
  refine .store (.t rfl) (.t rfl) (i := 0) rfl ty31 rfl rfl (Ss' := [_, _]) rfl (M' := [(some _, cellM [_, _])]) rfl (nl (.thn (k5 _ _ (.cv (Cv.wk (.l [2] rfl)) (.ret (rt1 (.inl rfl) Tryz.results34 rfl (.cell rfl (i := 0) rfl ty31 rfl ?_ .nil)))))))
  ·exact isZ_eq (by rw [from_word, if_neg (by decide)]; omega)
theorem zint_Sign {m : Bool} {xs : List Nat} (hx : (List.length (words (val xs))) < 4294900000) : Ctr Tryz.prog 74 [Flat [isB m, isWords xs]] (isI (sgn (zv m xs))) := by
 refine Ctr.intro Tryz.func74 rfl (by kernel_rfl) Tryz.ntmps74 rfl fun w0 F0 => .cv (Cv.wk (.l [0] rfl)) (.fact (Has.okZ (Has.t (t := 0) rfl)) fun okz0 => .seq fun _ k1 => .region (.box (.t rfl) rfl fun b1 => st (.as (.cI 0 rfl)) rfl (nl (.thn (k1 _ _ (.seq fun _ k2 => .block (.seq fun _ k3 => .region (st (.fieldAddr (.t rfl) fld31_1 ty29) rfl (st (.load1 (.t rfl) (i := 0) rfl ty29 rfl) rfl (st (.call (nat_Bits (by first | with_reducible assumption | omega | (simp only [val_words, zv_nf]; omega) | (simp only [val_words]; exact Nat.le_trans (nw_small' (by omega)) (by decide)))) (.cons (.t rfl) .nil)) rfl ?_))))))))))
 refine st (.eqI (.t rfl) (.cI 0 rfl)) rfl (st (.as (.t rfl)) rfl (nl (.thn (k3 _ _ (.cv (Cv.wk (.l [1, 2, 3] rfl)) (.cond (.t rfl) (fun hc1 => ?_) (fun hc1 => ?_)))))))
 ·have hc1 := BP.t hc1
  refine .seq fun _ k4 => .region (st (.as (.cI 0 rfl)) rfl (nl (.thn (k4 _ _ (.ret (.blr (.thr (rt1 (.inl rfl) Tryz.results74 rfl (.tmp (Has.t' rfl ?_) .nil)))))))))
  all_goals (exact isI_eq (sgn_zero hc1))
 ·have hc1 := BP.f hc1
  refine .seq fun _ k5 => .region (st (.fieldAddr (.t rfl) fld31_0 ty4) rfl (st (.load1 (.t rfl) (i := 0) rfl ty4 rfl) rfl (st (.as (.t rfl)) rfl (nl (.thn (k5 _ _ (.cond (.t rfl) (fun hc2 => ?_) (fun hc2 => ?_))))))))
  ·have hc2 := BP.t hc2
   have HM := hc2
   refine .seq fun _ k6 => .region (st (.as (.cI (-1) rfl)) rfl (nl (.thn (k6 _ _ (.cv (Cv.wk (.l [2] rfl)) (.ret (.blr (.thr (rt1 (.inl rfl) Tryz.results74 rfl (.tmp (Has.t' rfl ?_) .nil))))))))))
   all_goals (exact isI_eq (by rw [← sgn_of hc1, if_pos HM]))
  ·have hc2 := BP.f hc2
   have HM := hc2
   refine .skip (.bln (.thn (k2 _ _ (.cv (Cv.wk (.l [2] rfl)) (.seq fun _ k7 => .region (st (.as (.cI 1 rfl)) rfl (nl (.thn (k7 _ _ (.ret (rt1 (.inl rfl) Tryz.results74 rfl (.tmp (Has.t' rfl ?_) .nil))))))))))))
   all_goals (exact isI_eq (by rw [← sgn_of hc1, if_neg (by rw [HM]; decide)]))
theorem zint_Cmp {m n : Bool} {xs ys : List Nat} (hx : (List.length (words (val xs))) < 4294700000) (hy : (List.length (words (val ys))) < 4294700000) : Ctr Tryz.prog 75 [Flat [isB m, isWords xs], Flat [isB n, isWords ys]] (isI (cmpZ (zv m xs) (zv n ys))) := by
 refine Ctr.intro Tryz.func75 rfl (by kernel_rfl) Tryz.ntmps75 rfl fun w0 F0 => .cv (Cv.wk (.l [0, 1] rfl)) (.fact (Has.okZ (Has.t (t := 0) rfl)) fun okz0 => .fact (Has.okZ (Has.t (t := 1) rfl)) fun okz1 => .seq fun _ k1 => .region (.box (.t rfl) rfl fun b1 => .box (.t rfl) rfl fun b2 => st (.as (.cI 0 rfl)) rfl (nl (.thn (k1 _ _ (.seq fun _ k2 => .dr (.s [] rfl rfl rfl (.o rfl (.load (.t rfl) (i := 1) rfl ty31 rfl (Ss' := [_, _]) rfl)) (.s [7] rfl rfl rfl (.o rfl (.call (zint_Sign (by first | with_reducible assumption | omega | (simp only [val_words, zv_nf]; omega) | (simp only [val_words]; exact Nat.le_trans (nw_small' (by omega)) (by decide)))) (.cons (.t rfl) .nil))) ?_))))))))
 refine .s [] rfl rfl rfl (.o rfl (.load (.t rfl) (i := 0) rfl ty31 rfl (Ss' := [_, _]) rfl)) (.fin (n := 3) mixed (by kernel_rfl) (by kernel_rfl) (by kernel_rfl) (.cv (Cv.wk (.l [2, 3, 4, 8, 9] rfl)) (st (.call (zint_Sign (by first | with_reducible assumption | omega | (simp only [val_words, zv_nf]; omega) | (simp only [val_words]; exact Nat.le_trans (nw_small' (by omega)) (by decide)))) (.cons (.t rfl) .nil)) rfl ?_)))
 refine st (.as (.t rfl)) rfl (st (.as (.t rfl)) rfl (nl (.thn (k2 _ _ (.seq fun _ k3 => .block (.seq fun _ k4 => .region (st (.mv (.t rfl)) rfl (st (.mv (.t rfl)) rfl (st (.ltI (.t rfl) (.t rfl)) rfl (st (.as (.t rfl)) rfl (nl (.thn (k4 _ _ (.cv (Cv.wk (.l [2, 3, 4, 5, 6, 11] rfl)) (.cond (.t rfl) (fun hc1 => ?_) (fun hc1 => ?_))))))))))))))))
 ·have hc1 := BP.t hc1
  refine .seq fun _ k5 => .region (st (.as (.cI (-1) rfl)) rfl (nl (.thn (k5 _ _ (.ret (.blr (.thr (rt1 (.inl rfl) Tryz.results75 rfl (.tmp (Has.t' rfl ?_) .nil)))))))))
  all_goals (exact isI_eq (cmpZ_lt hc1))
 ·have hc1 := BP.f hc1
  refine .seq fun _ k6 => .region (st (.mv (.t rfl)) rfl (st (.mv (.t rfl)) rfl (st (.gtI (.t rfl) (.t rfl)) rfl (st (.as (.t rfl)) rfl (nl (.thn (k6 _ _ (.cv (Cv.wk (.l [2, 3, 4, 5, 15] rfl)) (.cond (.t rfl) (fun hc2 => ?_) (fun hc2 => ?_))))))))))
  ·have hc2 := BP.t hc2
   refine .seq fun _ k7 => .region (st (.as (.cI 1 rfl)) rfl (nl (.thn (k7 _ _ (.ret (.blr (.thr (rt1 (.inl rfl) Tryz.results75 rfl (.tmp (Has.t' rfl ?_) .nil)))))))))
   all_goals (exact isI_eq (cmpZ_gt hc2))
  ·have hc2 := BP.f hc2
   refine .seq fun _ k8 => .region (st (.mv (.t rfl)) rfl (st (.ltI (.t rfl) (.cI 0 rfl)) rfl (st (.as (.t rfl)) rfl (nl (.thn (k8 _ _ (.cond (.t rfl) (fun hc3 => ?_) (fun hc3 => ?_))))))))
   ·have hc3 := BP.t hc3
    refine .seq fun _ k9 => .region (st (.fieldAddr (.t rfl) fld31_1 ty29) rfl (st (.load1 (.t rfl) (i := 0) rfl ty29 rfl) rfl (st (.fieldAddr (.t rfl) fld31_1 ty29) rfl (st (.load1 (.t rfl) (i := 1) rfl ty29 rfl) rfl (st (.call (nat_Cmp) (.cons (.t rfl) (.cons (.t rfl) .nil))) rfl (st (.as (.t rfl)) rfl (nl (.thn (k9 _ _ (.cv (Cv.wk (.l [2, 3, 4] rfl)) (.ret (.blr (.thr (rt1 (.inl rfl) Tryz.results75 rfl (.tmp (Has.t' rfl ?_) .nil)))))))))))))))
    all_goals (exact isI_eq (cmpZ_neg hc3 (by omega) (by omega)))
   ·have hc3 := BP.f hc3
    refine .skip (.bln (.thn (k3 _ _ (.cv (Cv.wk (.l [2, 3, 4] rfl)) (.seq fun _ k10 => .region (st (.fieldAddr (.t rfl) fld31_1 ty29) rfl (st (.load1 (.t rfl) (i := 1) rfl ty29 rfl) rfl (st (.fieldAddr (.t rfl) fld31_1 ty29) rfl (st (.load1 (.t rfl) (i := 0) rfl ty29 rfl) rfl (st (.call (nat_Cmp) (.cons (.t rfl) (.cons (.t rfl) .nil))) rfl (st (.as (.t rfl)) rfl (nl (.thn (k10 _ _ (.cv (Cv.wk (.l [4] rfl)) (.ret (rt1 (.inl rfl) Tryz.results75 rfl (.tmp (Has.t' rfl ?_) .nil))))))))))))))))))
    all_goals (exact isI_eq (cmpZ_pos (by omega) (by omega) (by omega)))
theorem zint_Same {m n : Bool} {xs ys : List Nat} (hx : (List.length (words (val xs))) < 4294700000) (hy : (List.length (words (val ys))) < 4294700000) : Ctr Tryz.prog 33 [Flat [isB m, isWords xs], Flat [isB n, isWords ys]] (isB (decide (zv m xs = zv n ys))) := by
 refine Ctr.intro Tryz.func33 rfl (by kernel_rfl) Tryz.ntmps33 rfl fun w0 F0 => .cv (Cv.wk (.l [0, 1] rfl)) (.fact (Has.okZ (Has.t (t := 0) rfl)) fun okz0 => .fact (Has.okZ (Has.t (t := 1) rfl)) fun okz1 => .seq fun _ k1 => .region (.box (.t rfl) rfl fun b1 => .box (.t rfl) rfl fun b2 => st (.as (.cB false)) rfl (nl (.thn (k1 _ _ (.seq fun _ k2 => .region (st (.load (.t rfl) (i := 1) rfl ty31 rfl (Ss' := [_, _]) rfl) rfl (st (.load (.t rfl) (i := 0) rfl ty31 rfl (Ss' := [_, _]) rfl) rfl (st (.call (zint_Cmp (by first | with_reducible assumption | omega | (simp only [val_words, zv_nf]; omega) | (simp only [val_words]; exact Nat.le_trans (nw_small' (by omega)) (by decide))) (by first | with_reducible assumption | omega | (simp only [val_words, zv_nf]; omega) | (simp only [val_words]; exact Nat.le_trans (nw_small' (by omega)) (by decide)))) (.cons (.t rfl) (.cons (.t rfl) .nil))) rfl ?_)))))))))
 refine st (.eqI (.t rfl) (.cI 0 rfl)) rfl (st (.as (.t rfl)) rfl (nl (.thn (k2 _ _ (.cv (Cv.wk (.l [4] rfl)) (.ret (rt1 (.inl rfl) Tryz.results33 rfl (.tmp (Has.t' rfl ?_) .nil))))))))
 all_goals (exact isB_eq (cmpZ_eq0 _ _))
theorem zint_Neg {m : Bool} {xs : List Nat} (hx : (List.length (words (val xs))) < 4294900000) : Ctr Tryz.prog 110 [Flat [isB m, isWords xs]] (isZ (-(zv m xs))) := by
 refine Ctr.intro Tryz.func110 rfl (by kernel_rfl) Tryz.ntmps110 rfl fun w0 F0 => .cv (Cv.wk (.l [0] rfl)) (.fact (Has.okZ (Has.t (t := 0) rfl)) fun okz0 => .seq fun _ k1 => .region (.box (.t rfl) rfl fun b1 => .alloc [isB false, SlM isU []] zero31 (fun _ _ => ⟨rfl, nilM _ _, trivial⟩) rfl fun b2 => nl (.thn (k1 _ _ (.seq fun _ k2 => .region (st (.fieldAddr (.t rfl) fld31_1 ty29) rfl (st (.load1 (.t rfl) (i := 1) rfl ty29 rfl) rfl (st (.fieldAddr (.t rfl) fld31_0 ty4) rfl (st (.load1 (.t rfl) (i := 1) rfl ty4 rfl) rfl (st (.not (.t rfl)) rfl (st (.call (zint_From (by first | with_reducible assumption | omega | (simp only [val_words, zv_nf]; omega) | (simp only [val_words]; exact Nat.le_trans (nw_small' (by omega)) (by decide)))) (.cons (.t rfl) (.cons (.t rfl) .nil))) rfl ?_)))))))))))
 refine .store (.t rfl) (.t rfl) (i := 0) rfl ty31 rfl rfl (Ss' := [_, _]) rfl (M' := [(some _, cellM [_, _]), _]) rfl (nl (.thn (k2 _ _ (.cv (Cv.wk (.l [2] rfl)) (.ret (rt1 (.inl rfl) Tryz.results110 rfl (.cell rfl (i := 0) rfl ty31 rfl ?_ .nil)))))))
 ·exact isZ_eq (zv_not m xs)
theorem zint_Abs {m : Bool} {xs : List Nat} (hx : (List.length (words (val xs))) < 4294900000) : Ctr Tryz.prog 125 [Flat [isB m, isWords xs]] (isZ (((zv m xs).natAbs : Nat) : Int)) := by
 refine Ctr.intro Tryz.func125 rfl (by kernel_rfl) Tryz.ntmps125 rfl fun w0 F0 => .cv (Cv.wk (.l [0] rfl)) (.fact (Has.okZ (Has.t (t := 0) rfl)) fun okz0 => .seq fun _ k1 => .region (.box (.t rfl) rfl fun b1 => .alloc [isB false, SlM isU []] zero31 (fun _ _ => ⟨rfl, nilM _ _, trivial⟩) rfl fun b2 => nl (.thn (k1 _ _ (.seq fun _ k2 => .region (st (.fieldAddr (.t rfl) fld31_1 ty29) rfl (st (.load1 (.t rfl) (i := 1) rfl ty29 rfl) rfl (st (.call (zint_From (by first | with_reducible assumption | omega | (simp only [val_words, zv_nf]; omega) | (simp only [val_words]; exact Nat.le_trans (nw_small' (by omega)) (by decide)))) (.cons (.t rfl) (.cons (.cB false) .nil))) rfl ?_))))))))
 refine .store (.t rfl) (.t rfl) (i := 0) rfl ty31 rfl rfl (Ss' := [_, _]) rfl (M' := [(some _, cellM [_, _]), _]) rfl (nl (.thn (k2 _ _ (.cv (Cv.wk (.l [2] rfl)) (.ret (rt1 (.inl rfl) Tryz.results125 rfl (.cell rfl (i := 0) rfl ty31 rfl ?_ .nil)))))))
 ·exact isZ_eq (by rw [zv_abs]; exact zv_false xs)
theorem zint_Add {m n : Bool} {xs ys : List Nat} (hx : (List.length (words (val xs))) < 4294700000) (hy : (List.length (words (val ys))) < 4294700000) : Ctr Tryz.prog 113 [Flat [isB m, isWords xs], Flat [isB n, isWords ys]] (isZ (zv m xs + zv n ys)) := by
 refine Ctr.intro Tryz.func113 rfl (by kernel_rfl) Tryz.ntmps113 rfl fun w0 F0 => .cv (Cv.wk (.l [0, 1] rfl)) (.fact (Has.okZ (Has.t (t := 0) rfl)) fun okz0 => .fact (Has.okZ (Has.t (t := 1) rfl)) fun okz1 => ?_)
 have ha := nw_add_le (val xs) (val ys)
 have hb := nw_mono (Nat.sub_le (val xs) (val ys))
 have hd := nw_mono (Nat.sub_le (val ys) (val xs))
 refine .seq fun _ k1 => .region (.box (.t rfl) rfl fun b1 => .box (.t rfl) rfl fun b2 => .alloc [isB false, SlM isU []] zero31 (fun _ _ => ⟨rfl, nilM _ _, trivial⟩) rfl fun b3 => nl (.thn (k1 _ _ (.seq fun _ k2 => .seq fun _ k3 => .region (st (.fieldAddr (.t rfl) fld31_0 ty4) rfl (st (.load1 (.t rfl) (i := 2) rfl ty4 rfl) rfl (st (.fieldAddr (.t rfl) fld31_0 ty4) rfl (st (.load1 (.t rfl) (i := 1) rfl ty4 rfl) rfl (st (.eqB (du := un4) rfl (.t rfl) (.t rfl)) rfl (nl (.thn (k3 _ _ (.cv (Cv.wk (.l [2, 3, 4, 13] rfl)) (.cond (.t rfl) (fun hc1 => ?_) (fun hc1 => ?_)))))))))))))))
 ·have hc1 := BP.t hc1
  have HM : m = n := eq_of_beq hc1
  refine .seq fun _ k4 => .dr (.s [] rfl rfl rfl (.o rfl (.fieldAddr (.t rfl) fld31_1 ty29)) (.s [14] rfl rfl rfl (.o rfl (.load1 (.t rfl) (i := 2) rfl ty29 rfl)) (.s [] rfl rfl rfl (.o rfl (.fieldAddr (.t rfl) fld31_1 ty29)) (.s [16] rfl rfl rfl (.o rfl (.load1 (.t rfl) (i := 1) rfl ty29 rfl)) (.s [15, 17] rfl rfl rfl (.o rfl (.call (nat_Add (by first | with_reducible assumption | omega | (simp only [val_words, zv_nf]; omega) | (simp only [val_words]; exact Nat.le_trans (nw_small' (by omega)) (by decide))) (by first | with_reducible assumption | omega | (simp only [val_words, zv_nf]; omega) | (simp only [val_words]; exact Nat.le_trans (nw_small' (by omega)) (by decide)))) (.cons (.t rfl) (.cons (.t rfl) .nil)))) ?_)))))
  refine .s [] rfl rfl rfl (.o rfl (.fieldAddr (.t rfl) fld31_0 ty4)) (.s [19] rfl rfl rfl (.o rfl (.load1 (.t rfl) (i := 2) rfl ty4 rfl)) (.fin (n := 7) mixed (by kernel_rfl) (by kernel_rfl) (by kernel_rfl) (.cv (Cv.wk (.l [2, 3, 4, 18, 20] rfl)) (st (.call (zint_From (by first | with_reducible assumption | omega | (simp only [val_words, zv_nf]; omega) | (simp only [val_words]; exact Nat.le_trans (nw_small' (by omega)) (by decide)))) (.cons (.t rfl) (.cons (.t rfl) .nil))) rfl ?_))))
  refine .store (.t rfl) (.t rfl) (i := 0) rfl ty31 rfl rfl (Ss' := [_, _]) rfl (M' := [(some _, cellM [_, _]), _, _]) rfl (nl (.thn (k4 _ _ (.ret (.thr (rt1 (.inl rfl) Tryz.results113 rfl (.cell rfl (i := 0) rfl ty31 rfl ?_ .nil)))))))
  ·exact isZ_eq (zv_add_same HM xs ys).symm
 ·have hc1 := BP.f hc1
  have HM : m ≠ n := fun e => by rw [e] at hc1; simp at hc1
  refine .skip (.thn (k2 _ _ (.seq fun _ k5 => .seq fun _ k6 => .region (st (.fieldAddr (.t rfl) fld31_1 ty29) rfl (st (.load1 (.t rfl) (i := 2) rfl ty29 rfl) rfl (st (.fieldAddr (.t rfl) fld31_1 ty29) rfl (st (.load1 (.t rfl) (i := 1) rfl ty29 rfl) rfl (st (.call (nat_Sub (by first | with_reducible assumption | omega | (simp only [val_words, zv_nf]; omega) | (simp only [val_words]; exact Nat.le_trans (nw_small' (by omega)) (by decide)))) (.cons (.t rfl) (.cons (.t rfl) .nil))) rfl ?_))))))))
  refine st (.mv (.t rfl)) rfl (st (.ext (.t rfl) rfl) rfl (st (.ext (.t rfl) rfl) rfl (st (.as (.t rfl)) rfl (st (.as (.t rfl)) rfl (nl (.thn (k6 _ _ (.cv (Cv.wk (.l [2, 3, 4, 5, 6] rfl)) (.seq fun _ k7 => .region (st (.mv (.t rfl)) rfl (nl (.thn (k7 _ _ (.cond (.t rfl) (fun hc2 => ?_) (fun hc2 => ?_)))))))))))))))
  ·have hc2 := BP.t hc2
   have HL : val ys ≤ val xs := hc2
   refine .seq fun _ k8 => .region (st (.mv (.t rfl)) rfl (st (.fieldAddr (.t rfl) fld31_0 ty4) rfl (st (.load1 (.t rfl) (i := 2) rfl ty4 rfl) rfl (st (.call (zint_From (by first | with_reducible assumption | omega | (simp only [val_words, zv_nf]; omega) | (simp only [val_words]; exact Nat.le_trans (nw_small' (by omega)) (by decide)))) (.cons (.t rfl) (.cons (.t rfl) .nil))) rfl ?_))))
   refine .store (.t rfl) (.t rfl) (i := 0) rfl ty31 rfl rfl (Ss' := [_, _]) rfl (M' := [(some _, cellM [_, _]), _, _]) rfl (nl (.thn (k8 _ _ (.cv (Cv.wk (.l [2, 3, 4] rfl)) (.ret (.thr (rt1 (.inl rfl) Tryz.results113 rfl (.cell rfl (i := 0) rfl ty31 rfl ?_ .nil))))))))
   ·exact isZ_eq (zv_add_sub HM HL).symm
  ·have hc2 := BP.f hc2
   have HL : ¬ val ys ≤ val xs := (by omega)
   refine .skip (.thn (k5 _ _ (.seq fun _ k9 => .region (st (.fieldAddr (.t rfl) fld31_1 ty29) rfl (st (.load1 (.t rfl) (i := 1) rfl ty29 rfl) rfl (st (.fieldAddr (.t rfl) fld31_1 ty29) rfl (st (.load1 (.t rfl) (i := 2) rfl ty29 rfl) rfl (st (.call (nat_Sub (by first | with_reducible assumption | omega | (simp only [val_words, zv_nf]; omega) | (simp only [val_words]; exact Nat.le_trans (nw_small' (by omega)) (by decide)))) (.cons (.t rfl) (.cons (.t rfl) .nil))) rfl ?_))))))))
   refine st (.mv (.t rfl)) rfl (st (.ext (.t rfl) rfl) rfl (st (.ext (.t rfl) rfl) rfl (st (.as (.t rfl)) rfl (st (.as (.t rfl)) rfl (nl (.thn (k9 _ _ (.cv (Cv.wk (.l [3, 4, 7] rfl)) (.seq fun _ k10 => .region (st (.mv (.t rfl)) rfl (st (.fieldAddr (.t rfl) fld31_0 ty4) rfl (st (.load1 (.t rfl) (i := 1) rfl ty4 rfl) rfl (st (.call (zint_From (by first | with_reducible assumption | omega | (simp only [val_words, zv_nf]; omega) | (simp only [val_words]; exact Nat.le_trans (nw_small' (by omega)) (by decide)))) (.cons (.t rfl) (.cons (.t rfl) .nil))) rfl ?_)))))))))))))
   refine .store (.t rfl) (.t rfl) (i := 0) rfl ty31 rfl rfl (Ss' := [_, _]) rfl (M' := [(some _, cellM [_, _]), _, _]) rfl (nl (.thn (k10 _ _ (.cv (Cv.wk (.l [4] rfl)) (.ret (rt1 (.inl rfl) Tryz.results113 rfl (.cell rfl (i := 0) rfl ty31 rfl ?_ .nil)))))))
   ·exact isZ_eq (by rw [Int.add_comm]; exact (zv_add_sub (fun e => HM e.symm) (by omega)).symm)
theorem zint_Sub {m n : Bool} {xs ys : List Nat} (hx : (List.length (words (val xs))) < 4294700000) (hy : (List.length (words (val ys))) < 4294700000) : Ctr Tryz.prog 101 [Flat [isB m, isWords xs], Flat [isB n, isWords ys]] (isZ (zv m xs - zv n ys)) := by
 refine Ctr.intro Tryz.func101 rfl (by kernel_rfl) Tryz.ntmps101 rfl fun w0 F0 => .cv (Cv.wk (.l [0, 1] rfl)) (.fact (Has.okZ (Has.t (t := 0) rfl)) fun okz0 => .fact (Has.okZ (Has.t (t := 1) rfl)) fun okz1 => .seq fun _ k1 => .region (.box (.t rfl) rfl fun b1 => .box (.t rfl) rfl fun b2 => .alloc [isB false, SlM isU []] zero31 (fun _ _ => ⟨rfl, nilM _ _, trivial⟩) rfl fun b3 => nl (.thn (k1 _ _ (.seq fun _ k2 => .dr (.s [] rfl rfl rfl (.o rfl (.load (.t rfl) (i := 2) rfl ty31 rfl (Ss' := [_, _]) rfl)) (.s [] rfl rfl rfl (.o rfl (.load (.t rfl) (i := 1) rfl ty31 rfl (Ss' := [_, _]) rfl)) (.s [6] rfl rfl rfl (.o rfl (.call (zint_Neg (by first | with_reducible assumption | omega | (simp only [val_words, zv_nf]; omega) | (simp only [val_words]; exact Nat.le_trans (nw_small' (by omega)) (by decide)))) (.cons (.t rfl) .nil))) ?_))))))))
 refine .fin (n := 3) mixed (by kernel_rfl) (by kernel_rfl) (by kernel_rfl) (.cv (Cv.wk (.l [4, 5, 7] rfl)) (st (.call (zint_Add (by omega) (by simp only [val_words]; rw [Int.natAbs_neg, zv_abs]; omega)) (.cons (.t rfl) (.cons (.t rfl) .nil))) rfl ?_))
 refine .store (.t rfl) (.t rfl) (i := 0) rfl ty31 rfl rfl (Ss' := [_, _]) rfl (M' := [(some _, cellM [_, _]), _, _]) rfl (nl (.thn (k2 _ _ (.ret (rt1 (.inl rfl) Tryz.results101 rfl (.cell rfl (i := 0) rfl ty31 rfl ?_ .nil))))))
 ·exact isZ_eq (by rw [zv_nf]; omega)
theorem zint_Mul {m n : Bool} {xs ys : List Nat} (hx : (List.length (words (val xs))) ≤ 1000000000) (hy : (List.length (words (val ys))) ≤ 1000000000) : Ctr Tryz.prog 114 [Flat [isB m, isWords xs], Flat [isB n, isWords ys]] (isZ (zv m xs * zv n ys)) := by
 refine Ctr.intro Tryz.func114 rfl (by kernel_rfl) Tryz.ntmps114 rfl fun w0 F0 => .cv (Cv.wk (.l [0, 1] rfl)) (.fact (Has.okZ (Has.t (t := 0) rfl)) fun okz0 => .fact (Has.okZ (Has.t (t := 1) rfl)) fun okz1 => ?_)
 have hm := nw_mul_le (val xs) (val ys)
 refine .seq fun _ k1 => .region (.box (.t rfl) rfl fun b1 => .box (.t rfl) rfl fun b2 => .alloc [isB false, SlM isU []] zero31 (fun _ _ => ⟨rfl, nilM _ _, trivial⟩) rfl fun b3 => nl (.thn (k1 _ _ (.seq fun _ k2 => .dr (.s [] rfl rfl rfl (.o rfl (.fieldAddr (.t rfl) fld31_1 ty29)) (.s [5] rfl rfl rfl (.o rfl (.load1 (.t rfl) (i := 2) rfl ty29 rfl)) (.s [] rfl rfl rfl (.o rfl (.fieldAddr (.t rfl) fld31_1 ty29)) (.s [7] rfl rfl rfl (.o rfl (.load1 (.t rfl) (i := 1) rfl ty29 rfl)) (.s [6, 8] rfl rfl rfl (.o rfl (.call (mul_Mul hx hy) (.cons (.t rfl) (.cons (.t rfl) .nil)))) (.s [] rfl rfl rfl (.o rfl (.fieldAddr (.t rfl) fld31_0 ty4)) (.s [10] rfl rfl rfl (.o rfl (.load1 (.t rfl) (i := 2) rfl ty4 rfl)) (.s [] rfl rfl rfl (.o rfl (.fieldAddr (.t rfl) fld31_0 ty4)) (.s [12] rfl rfl rfl (.o rfl (.load1 (.t rfl) (i := 1) rfl ty4 rfl)) (.s [11, 13] rfl rfl rfl (.o rfl (.neB (du := un4) rfl (.t rfl) (.t rfl))) (.fin (n := 10) mixed (by kernel_rfl) (by kernel_rfl) (by kernel_rfl) (.cv (Cv.wk (.l [4, 9, 14] rfl)) (st (.call (zint_From (by first | with_reducible assumption | omega | (simp only [val_words, zv_nf]; omega) | (simp only [val_words]; exact Nat.le_trans (nw_small' (by omega)) (by decide)))) (.cons (.t rfl) (.cons (.t rfl) .nil))) rfl ?_)))))))))))))))))
 refine .store (.t rfl) (.t rfl) (i := 0) rfl ty31 rfl rfl (Ss' := [_, _]) rfl (M' := [(some _, cellM [_, _]), _, _]) rfl (nl (.thn (k2 _ _ (.ret (rt1 (.inl rfl) Tryz.results114 rfl (.cell rfl (i := 0) rfl ty31 rfl ?_ .nil))))))
 ·exact isZ_eq (zv_mul m n xs ys).symm
theorem zint_Quo {m n : Bool} {xs ys : List Nat} (hx : (List.length (words (val xs))) < 4294700000) (hy : (List.length (words (val ys))) < 4294700000) : Ctr Tryz.prog 190 [Flat [isB m, isWords xs], Flat [isB n, isWords ys]] (isTup [isZ ((zv m xs).tdiv (zv n ys)), isZ (if zv n ys = 0 then 0 else (zv m xs).tmod (zv n ys)), isB (decide (zv n ys ≠ 0))]) := by
 refine Ctr.intro Tryz.func190 rfl (by kernel_rfl) Tryz.ntmps190 rfl fun w0 F0 => .cv (Cv.wk (.l [0, 1] rfl)) (.fact (Has.okZ (Has.t (t := 0) rfl)) fun okz0 => .fact (Has.okZ (Has.t (t := 1) rfl)) fun okz1 => ?_)
 have ha := nw_mono (Nat.div_le_self (val xs) (val ys))
 have hb : (List.length (words (if val ys = 0 then 0 else val xs % val ys))) ≤ (List.length (words (val xs))) := nw_mono (by split; exact Nat.zero_le _; exact Nat.mod_le _ _)
 refine .seq fun _ k1 => .region (.box (.t rfl) rfl fun b1 => .box (.t rfl) rfl fun b2 => .alloc [isB false, SlM isU []] zero31 (fun _ _ => ⟨rfl, nilM _ _, trivial⟩) rfl fun b3 => .alloc [isB false, SlM isU []] zero31 (fun _ _ => ⟨rfl, nilM _ _, trivial⟩) rfl fun b4 => st (.as (.cB false)) rfl (nl (.thn (k1 _ _ (.seq fun _ k2 => .region (st (.fieldAddr (.t rfl) fld31_1 ty29) rfl (st (.load1 (.t rfl) (i := 3) rfl ty29 rfl) rfl (st (.fieldAddr (.t rfl) fld31_1 ty29) rfl (st (.load1 (.t rfl) (i := 2) rfl ty29 rfl) rfl (st (.call (div_DivMod (by first | with_reducible assumption | omega | (simp only [val_words, zv_nf]; omega) | (simp only [val_words]; exact Nat.le_trans (nw_small' (by omega)) (by decide))) (by first | with_reducible assumption | omega | (simp only [val_words, zv_nf]; omega) | (simp only [val_words]; exact Nat.le_trans (nw_small' (by omega)) (by decide)))) (.cons (.t rfl) (.cons (.t rfl) .nil))) rfl ?_))))))))))
 refine st (.mv (.t rfl)) rfl (st (.ext (.t rfl) rfl) rfl (st (.ext (.t rfl) rfl) rfl (st (.ext (.t rfl) rfl) rfl (st (.as (.t rfl)) rfl (st (.as (.t rfl)) rfl (st (.as (.t rfl)) rfl (nl (.thn (k2 _ _ (.cv (Cv.wk (.l [2, 3, 4, 5, 6, 7, 8, 9] rfl)) (.seq fun _ k3 => .drh [false, false, true, true] (Ms := [_, _]) rfl (.s [] rfl rfl rfl (.o rfl (.mv (.t rfl))) (.s [] rfl rfl rfl (.o rfl (.fieldAddr (.t rfl) fld31_0 ty4)) (.s [20] rfl rfl rfl (.o rfl (.load1 (.t rfl) (i := 1) rfl ty4 rfl)) (.s [] rfl rfl rfl (.o rfl (.fieldAddr (.t rfl) fld31_0 ty4)) (.s [22] rfl rfl rfl (.o rfl (.load1 (.t rfl) (i := 0) rfl ty4 rfl)) (.s [21, 23] rfl rfl rfl (.o rfl (.neB (du := un4) rfl (.t rfl) (.t rfl))) (.s [19, 24] rfl rfl rfl (.o rfl (.call (zint_From (by first | with_reducible assumption | omega | (simp only [val_words, zv_nf]; omega) | (simp only [val_words]; exact Nat.le_trans (nw_small' (by omega)) (by decide)))) (.cons (.t rfl) (.cons (.t rfl) .nil)))) ?_))))))))))))))))))
 refine .s [] rfl rfl rfl (.o rfl (.mv (.t rfl))) (.s [] rfl rfl rfl (.o rfl (.fieldAddr (.t rfl) fld31_0 ty4)) (.s [27] rfl rfl rfl (.o rfl (.load1 (.t rfl) (i := 1) rfl ty4 rfl)) (.s [26, 28] rfl rfl rfl (.o rfl (.call (zint_From (by first | with_reducible assumption | omega | (simp only [val_words, zv_nf]; omega) | (simp only [val_words]; exact Nat.le_trans (nw_small' (by omega)) (by decide)))) (.cons (.t rfl) (.cons (.t rfl) .nil)))) ?_)))
 refine .s [] rfl rfl rfl (.o rfl (.mv (.t rfl))) (.mid (.cons _ (.cons _ (.cons_cons _ (.cons_cons _ .slnil)))) (.st [25] rfl rfl (by kernel_rfl) (by kernel_rfl) (StS.store (.t rfl) (.t rfl) (i := 1) rfl ty31 rfl rfl (Ss' := [_, _]) rfl (M' := [_, (some _, cellM [_, _]), _, _]) rfl) (.cons _ (.cons _ (.cons_cons _ (.cons_cons _ .slnil)))) (.st [29] rfl rfl (by kernel_rfl) (by kernel_rfl) (StS.store (.t rfl) (.t rfl) (i := 0) rfl ty31 rfl rfl (Ss' := [_, _]) rfl (M' := [(some _, cellM [_, _]), _, _, _]) rfl) (.cons _ (.cons _ (.cons_cons _ (.cons_cons _ .slnil)))) (.fin (n := 14) mixed rfl (by kernel_rfl) (by kernel_rfl) (by kernel_rfl) (.cv (Cv.wk (.l [4, 5, 6, 30] rfl)) (st (.as (.t rfl)) rfl (nl (.thn (k3 _ _ (.ret (rtN (.inl rfl) Tryz.results190 rfl rfl (.cell rfl (i := 1) rfl ty31 rfl ?_ (.cell rfl (i := 0) rfl ty31 rfl ?_ (.tmp (Has.t' rfl ?_) .nil))))))))))))))
 ·exact isZ_eq (zv_tdiv m n xs ys).symm
 ·exact isZ_eq (quo_rest m n xs ys)
 ·exact isB_eq (ne_zv n ys)
theorem zint_one  : Ctr Tryz.prog 258 [] (isZ 1) := by
 refine Ctr.intro Tryz.func258 rfl (by kernel_rfl) Tryz.ntmps258 rfl fun w0 F0 => .cv (Cv.wk .nil) (.seq fun _ k1 => .region (.alloc [isB false, SlM isU []] zero31 (fun _ _ => ⟨rfl, nilM _ _, trivial⟩) rfl fun b1 => nl (.thn (k1 _ _ (.seq fun _ k2 => .region (st (.call (zint_Of) (.cons (.cI 1 rfl) .nil)) rfl (.store (.t rfl) (.t rfl) (i := 0) rfl ty31 rfl rfl (Ss' := [_, _]) rfl (M' := [(some _, cellM [_, _])]) rfl (nl (.thn (k2 _ _ (.ret (rt1 (.inl rfl) Tryz.results258 rfl (.cell rfl (i := 0) rfl ty31 rfl ?_ .nil)))))))))))))
 all_goals (rfl)
theorem zint_Euclid {m n : Bool} {xs ys : List Nat} (hx : (List.length (words (val xs))) < 4294700000) (hy : (List.length (words (val ys))) < 4294700000) : Ctr Tryz.prog 223 [Flat [isB m, isWords xs], Flat [isB n, isWords ys]] (isTup [isZ (zv m xs / zv n ys), isZ (if zv n ys = 0 then 0 else zv m xs % zv n ys), isB (decide (zv n ys ≠ 0))]) := by
 refine Ctr.intro Tryz.func223 rfl (by kernel_rfl) Tryz.ntmps223 rfl fun w0 F0 => .cv (Cv.wk (.l [0, 1] rfl)) (.fact (Has.okZ (Has.t (t := 0) rfl)) fun okz0 => .fact (Has.okZ (Has.t (t := 1) rfl)) fun okz1 => ?_)
 have ha := nz_tdiv (zv m xs) (zv n ys)
 have hb := nz_if (zv m xs) (zv n ys)
 have hxx := zv_nw m xs
 have hyy := zv_nw n ys
 have h1 := nz_one
 refine .seq fun _ k1 => .region (.box (.t rfl) rfl fun b1 => .box (.t rfl) rfl fun b2 => .alloc [isB false, SlM isU []] zero31 (fun _ _ => ⟨rfl, nilM _ _, trivial⟩) rfl fun b3 => .alloc [isB false, SlM isU []] zero31 (fun _ _ => ⟨rfl, nilM _ _, trivial⟩) rfl fun b4 => st (.as (.cB false)) rfl (nl (.thn (k1 _ _ (.seq fun _ k2 => .region (st (.load (.t rfl) (i := 3) rfl ty31 rfl (Ss' := [_, _]) rfl) rfl (st (.load (.t rfl) (i := 2) rfl ty31 rfl (Ss' := [_, _]) rfl) rfl (st (.call (zint_Quo (by first | with_reducible assumption | omega | (simp only [val_words, zv_nf]; omega) | (simp only [val_words]; exact Nat.le_trans (nw_small' (by omega)) (by decide))) (by first | with_reducible assumption | omega | (simp only [val_words, zv_nf]; omega) | (simp only [val_words]; exact Nat.le_trans (nw_small' (by omega)) (by decide)))) (.cons (.t rfl) (.cons (.t rfl) .nil))) rfl ?_))))))))
 refine st (.mv (.t rfl)) rfl (st (.ext (.t rfl) rfl) rfl (st (.ext (.t rfl) rfl) rfl (st (.ext (.t rfl) rfl) rfl (.alloc [isB false, SlM isU []] zero31 (fun _ _ => ⟨rfl, nilM _ _, trivial⟩) rfl fun b5 => .alloc [isB false, SlM isU []] zero31 (fun _ _ => ⟨rfl, nilM _ _, trivial⟩) rfl fun b6 => .store (.t rfl) (.t rfl) (i := 1) rfl ty31 rfl rfl (Ss' := [_, _]) rfl (M' := [_, (some _, cellM [_, _]), _, _, _, _]) rfl (.store (.t rfl) (.t rfl) (i := 0) rfl ty31 rfl rfl (Ss' := [_, _]) rfl (M' := [(some _, cellM [_, _]), _, _, _, _, _]) rfl (st (.as (.t rfl)) rfl (nl (.thn (k2 _ _ (.cv (Cv.wk (.l [3, 4, 5, 6, 7, 8, 9] rfl)) (.seq fun _ k3 => .block (.seq fun _ k4 => .region (st (.mv (.t rfl)) rfl (st (.not (.t rfl)) rfl (st (.mv (.t rfl)) rfl ?_)))))))))))))))
 refine stF rfl rfl (fun hg => have hg' := BP.t hg; OK1.load (.t rfl) (i := 0) rfl ty31 rfl (Ss' := [_, _]) rfl) rfl ?_
 refine stF rfl rfl (fun hg => have hg' := BP.t hg; OK1.eq (.call (zint_Sign (by first | with_reducible assumption | omega | (simp only [val_words, zv_nf]; omega) | (simp only [val_words]; exact Nat.le_trans (nw_small' (by omega)) (by decide)))) (.cons (Has.g rfl hg) .nil)) (by first | (simp only [val_words, zv_nf]; rfl) | rfl)) rfl ?_
 refine stF rfl rfl (fun hg => have hg' := BP.t hg; OK1.geI (Has.g rfl hg) (.cI 0 rfl)) rfl ?_
 refine st (.pickOr (.t rfl) (fun h => Has.g rfl (ng h))) rfl (st (.as (.t rfl)) rfl (nl (.thn (k4 _ _ (.cv (Cv.wk (.l [3, 4, 5, 6, 7, 8, 9, 17] rfl)) (.cond (.t rfl) (fun hc1 => ?_) (fun hc1 => ?_)))))))
 ·have hc1 := BP.t hc1
  have HE := euc0 hc1
  refine .seq fun _ k5 => .drh [true, true, false, false, true, true] (Ms := [_, _, _, _]) rfl (.s [] rfl rfl rfl (.o rfl (.load (.t rfl) (i := 1) rfl ty31 rfl (Ss' := [_, _]) rfl)) (.s [] rfl rfl rfl (.o rfl (.load (.t rfl) (i := 0) rfl ty31 rfl (Ss' := [_, _]) rfl)) (.s [] rfl rfl rfl (.o rfl (.mv (.t rfl))) (.mid (.cons_cons _ (.cons_cons _ (.cons _ (.cons _ (.cons_cons _ (.cons_cons _ .slnil)))))) (.st [25] rfl rfl (by kernel_rfl) (by kernel_rfl) (StS.store (.t rfl) (.t rfl) (i := 3) rfl ty31 rfl rfl (Ss' := [_, _]) rfl (M' := [_, _, _, (some _, cellM [_, _]), _, _]) rfl) (.cons_cons _ (.cons_cons _ (.cons _ (.cons _ (.cons_cons _ (.cons_cons _ .slnil)))))) (.st [26] rfl rfl (by kernel_rfl) (by kernel_rfl) (StS.store (.t rfl) (.t rfl) (i := 2) rfl ty31 rfl rfl (Ss' := [_, _]) rfl (M' := [_, _, (some _, cellM [_, _]), _, _, _]) rfl) (.cons_cons _ (.cons_cons _ (.cons _ (.cons _ (.cons_cons _ (.cons_cons _ .slnil)))))) (.fin (n := 5) mixed rfl (by kernel_rfl) (by kernel_rfl) (by kernel_rfl) (.cv (Cv.wk (.l [3, 4, 5, 6, 7, 8, 27] rfl)) (st (.as (.t rfl)) rfl (nl (.thn (k5 _ _ (.ret (.blr (.thr (rtN (.inl rfl) Tryz.results223 rfl rfl (.cell rfl (i := 3) rfl ty31 rfl ?_ (.cell rfl (i := 2) rfl ty31 rfl ?_ (.tmp (Has.t' rfl ?_) .nil)))))))))))))))))))
  ·exact isZ_eq HE.1
  ·exact isZ_eq HE.2
  ·rfl
 ·have hc1 := BP.f hc1
  have HE := hc1
  refine .seq fun _ k6 => .region (st (.load (.t rfl) (i := 4) rfl ty31 rfl (Ss' := [_, _]) rfl) rfl (st (.call (zint_Sign (by first | with_reducible assumption | omega | (simp only [val_words, zv_nf]; omega) | (simp only [val_words]; exact Nat.le_trans (nw_small' (by omega)) (by decide)))) (.cons (.t rfl) .nil)) rfl ?_))
  refine st (.gtI (.t rfl) (.cI 0 rfl)) rfl (st (.as (.t rfl)) rfl (nl (.thn (k6 _ _ (.cv (Cv.wk (.l [3, 4, 5, 6, 7, 8, 28] rfl)) (.cond (.t rfl) (fun hc2 => ?_) (fun hc2 => ?_)))))))
  ·have hc2 := BP.t hc2
   have HE2 := euc1 HE hc2
   refine .seq fun _ k7 => .dr (.s [] rfl rfl rfl (.o rfl (.load (.t rfl) (i := 1) rfl ty31 rfl (Ss' := [_, _]) rfl)) (.s [] rfl rfl rfl (.o rfl (.call (zint_one) .nil)) (.s [32, 33] rfl rfl rfl (.o rfl (.eq (.call (zint_Sub (by first | with_reducible assumption | omega | (simp only [val_words, zv_nf]; omega) | (simp only [val_words]; exact Nat.le_trans (nw_small' (by omega)) (by decide))) (by first | with_reducible assumption | omega | (simp only [val_words, zv_nf]; omega) | (simp only [val_words]; exact Nat.le_trans (nw_small' (by omega)) (by decide)))) (.cons (.t rfl) (.cons (.t rfl) .nil))) (by first | (simp only [val_words, zv_nf]; rfl) | rfl))) ?_)))
   refine .s [] rfl rfl rfl (.o rfl (.load (.t rfl) (i := 0) rfl ty31 rfl (Ss' := [_, _]) rfl)) (.s [] rfl rfl rfl (.o rfl (.load (.t rfl) (i := 4) rfl ty31 rfl (Ss' := [_, _]) rfl)) (.fin (n := 5) mixed (by kernel_rfl) (by kernel_rfl) (by kernel_rfl) (.cv (Cv.wk (.l [3, 4, 5, 6, 7, 8, 34, 35, 36] rfl)) (st (.eq (.call (zint_Add (by first | with_reducible assumption | omega | (simp only [val_words, zv_nf]; omega) | (simp only [val_words]; exact Nat.le_trans (nw_small' (by omega)) (by decide))) (by first | with_reducible assumption | omega | (simp only [val_words, zv_nf]; omega) | (simp only [val_words]; exact Nat.le_trans (nw_small' (by omega)) (by decide)))) (.cons (.t rfl) (.cons (.t rfl) .nil))) (by first | (simp only [val_words, zv_nf]; rfl) | rfl)) rfl ?_))))
   refine .store (.t rfl) (.t rfl) (i := 3) rfl ty31 rfl rfl (Ss' := [_, _]) rfl (M' := [_, _, _, (some _, cellM [_, _]), _, _]) rfl (.store (.t rfl) (.t rfl) (i := 2) rfl ty31 rfl rfl (Ss' := [_, _]) rfl (M' := [_, _, (some _, cellM [_, _]), _, _, _]) rfl (st (.as (.cB true)) rfl (nl (.thn (k7 _ _ (.ret (.blr (.thr (rtN (.inl rfl) Tryz.results223 rfl rfl (.cell rfl (i := 3) rfl ty31 rfl ?_ (.cell rfl (i := 2) rfl ty31 rfl ?_ (.tmp (Has.t' rfl ?_) .nil))))))))))))
   ·exact isZ_eq HE2.1
   ·exact isZ_eq HE2.2
   ·exact isB_eq (decide_eq_true HE.1).symm
  ·have hc2 := BP.f hc2
   have HE2 := euc2 HE hc2
   refine .skip (.bln (.thn (k3 _ _ (.seq fun _ k8 => .dr (.s [] rfl rfl rfl (.o rfl (.load (.t rfl) (i := 1) rfl ty31 rfl (Ss' := [_, _]) rfl)) (.s [] rfl rfl rfl (.o rfl (.call (zint_one) .nil)) (.s [38, 39] rfl rfl rfl (.o rfl (.eq (.call (zint_Add (by first | with_reducible assumption | omega | (simp only [val_words, zv_nf]; omega) | (simp only [val_words]; exact Nat.le_trans (nw_small' (by omega)) (by decide))) (by first | with_reducible assumption | omega | (simp only [val_words, zv_nf]; omega) | (simp only [val_words]; exact Nat.le_trans (nw_small' (by omega)) (by decide)))) (.cons (.t rfl) (.cons (.t rfl) .nil))) (by first | (simp only [val_words, zv_nf]; rfl) | rfl))) ?_)))))))
   refine .s [] rfl rfl rfl (.o rfl (.load (.t rfl) (i := 0) rfl ty31 rfl (Ss' := [_, _]) rfl)) (.s [] rfl rfl rfl (.o rfl (.load (.t rfl) (i := 4) rfl ty31 rfl (Ss' := [_, _]) rfl)) (.fin (n := 5) mixed (by kernel_rfl) (by kernel_rfl) (by kernel_rfl) (.cv (Cv.wk (.l [4, 5, 6, 40, 41, 42] rfl)) (st (.eq (.call (zint_Sub (by first | with_reducible assumption | omega | (simp only [val_words, zv_nf]; omega) | (simp only [val_words]; exact Nat.le_trans (nw_small' (by omega)) (by decide))) (by first | with_reducible assumption | omega | (simp only [val_words, zv_nf]; omega) | (simp only [val_words]; exact Nat.le_trans (nw_small' (by omega)) (by decide)))) (.cons (.t rfl) (.cons (.t rfl) .nil))) (by first | (simp only [val_words, zv_nf]; rfl) | rfl)) rfl ?_))))
   refine .store (.t rfl) (.t rfl) (i := 3) rfl ty31 rfl rfl (Ss' := [_, _]) rfl (M' := [_, _, _, (some _, cellM [_, _]), _, _]) rfl (.store (.t rfl) (.t rfl) (i := 2) rfl ty31 rfl rfl (Ss' := [_, _]) rfl (M' := [_, _, (some _, cellM [_, _]), _, _, _]) rfl (st (.as (.cB true)) rfl (nl (.thn (k8 _ _ (.ret (rtN (.inl rfl) Tryz.results223 rfl rfl (.cell rfl (i := 3) rfl ty31 rfl ?_ (.cell rfl (i := 2) rfl ty31 rfl ?_ (.tmp (Has.t' rfl ?_) .nil))))))))))
   ·exact isZ_eq HE2.1
   ·exact isZ_eq HE2.2
   ·exact isB_eq (decide_eq_true HE.1).symm
theorem zint_Exact {m n : Bool} {xs ys : List Nat} (hx : (List.length (words (val xs))) < 4294700000) (hy : (List.length (words (val ys))) < 4294700000) : Ctr Tryz.prog 115 [Flat [isB m, isWords xs], Flat [isB n, isWords ys]] (isTup [isZ (if zv n ys ≠ 0 ∧ (zv m xs).tmod (zv n ys) = 0 then (zv m xs).tdiv (zv n ys) else 0), isB (decide (zv n ys ≠ 0 ∧ (zv m xs).tmod (zv n ys) = 0))]) := by
 refine Ctr.intro Tryz.func115 rfl (by kernel_rfl) Tryz.ntmps115 rfl fun w0 F0 => .cv (Cv.wk (.l [0, 1] rfl)) (.fact (Has.okZ (Has.t (t := 0) rfl)) fun okz0 => .fact (Has.okZ (Has.t (t := 1) rfl)) fun okz1 => ?_)
 have ha := nz_tdiv (zv m xs) (zv n ys)
 have hb := nz_if (zv m xs) (zv n ys)
 have hxx := zv_nw m xs
 have hyy := zv_nw n ys
 have h1 := nz_one
 refine .seq fun _ k1 => .region (.box (.t rfl) rfl fun b1 => .box (.t rfl) rfl fun b2 => .alloc [isB false, SlM isU []] zero31 (fun _ _ => ⟨rfl, nilM _ _, trivial⟩) rfl fun b3 => st (.as (.cB false)) rfl (nl (.thn (k1 _ _ (.seq fun _ k2 => .region (st (.load (.t rfl) (i := 2) rfl ty31 rfl (Ss' := [_, _]) rfl) rfl (st (.load (.t rfl) (i := 1) rfl ty31 rfl (Ss' := [_, _]) rfl) rfl (st (.call (zint_Quo (by first | with_reducible assumption | omega | (simp only [val_words, zv_nf]; omega) | (simp only [val_words]; exact Nat.le_trans (nw_small' (by omega)) (by decide))) (by first | with_reducible assumption | omega | (simp only [val_words, zv_nf]; omega) | (simp only [val_words]; exact Nat.le_trans (nw_small' (by omega)) (by decide)))) (.cons (.t rfl) (.cons (.t rfl) .nil))) rfl ?_))))))))
 refine st (.mv (.t rfl)) rfl (st (.ext (.t rfl) rfl) rfl (st (.ext (.t rfl) rfl) rfl (st (.ext (.t rfl) rfl) rfl (.alloc [isB false, SlM isU []] zero31 (fun _ _ => ⟨rfl, nilM _ _, trivial⟩) rfl fun b4 => .alloc [isB false, SlM isU []] zero31 (fun _ _ => ⟨rfl, nilM _ _, trivial⟩) rfl fun b5 => .store (.t rfl) (.t rfl) (i := 1) rfl ty31 rfl rfl (Ss' := [_, _]) rfl (M' := [_, (some _, cellM [_, _]), _, _, _]) rfl (.store (.t rfl) (.t rfl) (i := 0) rfl ty31 rfl rfl (Ss' := [_, _]) rfl (M' := [(some _, cellM [_, _]), _, _, _, _]) rfl (st (.as (.t rfl)) rfl (nl (.thn (k2 _ _ (.cv (Cv.wk (.l [4, 5, 6, 7, 8] rfl)) (.seq fun _ k3 => .seq fun _ k4 => .region (st (.mv (.t rfl)) rfl (st (.not (.t rfl)) rfl (st (.mv (.t rfl)) rfl ?_))))))))))))))
 refine stF rfl rfl (fun hg => have hg' := BP.t hg; OK1.load (.t rfl) (i := 0) rfl ty31 rfl (Ss' := [_, _]) rfl) rfl ?_
 refine stF rfl rfl (fun hg => have hg' := BP.t hg; OK1.eq (.call (zint_Sign (by first | with_reducible assumption | omega | (simp only [val_words, zv_nf]; omega) | (simp only [val_words]; exact Nat.le_trans (nw_small' (by omega)) (by decide)))) (.cons (Has.g rfl hg) .nil)) (by first | (simp only [val_words, zv_nf]; rfl) | rfl)) rfl ?_
 refine stF rfl rfl (fun hg => have hg' := BP.t hg; OK1.neI (Has.g rfl hg) (.cI 0 rfl)) rfl ?_
 refine st (.pickOr (.t rfl) (fun h => Has.g rfl (ng h))) rfl (nl (.thn (k4 _ _ (.cv (Cv.wk (.l [4, 5, 6, 22] rfl)) (.cond (.t rfl) (fun hc1 => ?_) (fun hc1 => ?_))))))
 ·have hc1 := BP.t hc1
  have HE := ex_no hc1
  refine .seq fun _ k5 => .region (st (.eq (.build [isB false, SlM isU []] pl31 zero31 (fun _ _ => ⟨rfl, nilM _ _, trivial⟩) .nil (Z'' := [_, _]) rfl) (isZ0)) rfl (.store (.t rfl) (.t rfl) (i := 2) rfl ty31 rfl rfl (Ss' := [_, _]) rfl (M' := [_, _, (some _, cellM [_, _]), _, _]) rfl (st (.as (.cB false)) rfl (nl (.thn (k5 _ _ (.ret (.thr (rtN (.inl rfl) Tryz.results115 rfl rfl (.cell rfl (i := 2) rfl ty31 rfl ?_ (.tmp (Has.t' rfl ?_) .nil)))))))))))
  ·exact isZ_eq (if_neg HE).symm
  ·exact isB_eq (decide_eq_false HE).symm
 ·have hc1 := BP.f hc1
  have HE := ex_yes hc1
  refine .skip (.thn (k3 _ _ (.seq fun _ k6 => .region (st (.load (.t rfl) (i := 1) rfl ty31 rfl (Ss' := [_, _]) rfl) rfl (.store (.t rfl) (.t rfl) (i := 2) rfl ty31 rfl rfl (Ss' := [_, _]) rfl (M' := [_, _, (some _, cellM [_, _]), _, _]) rfl (st (.as (.cB true)) rfl (nl (.thn (k6 _ _ (.ret (rtN (.inl rfl) Tryz.results115 rfl rfl (.cell rfl (i := 2) rfl ty31 rfl ?_ (.tmp (Has.t' rfl ?_) .nil)))))))))))))
  ·exact isZ_eq (if_pos HE).symm
  ·exact isB_eq (decide_eq_true HE).symm
theorem zint_cofactor {m n : Bool} {xs ys : List Nat} (hx : (List.length (words (val xs))) ≤ 100000000) (hy : (List.length (words (val ys))) ≤ 100000000) : Ctr Tryz.prog 286 [Flat [isB m, isWords xs], Flat [isB n, isWords ys]] (isTup [isZ (cof (zv m xs) (zv n ys) 1 0).1, isZ (cof (zv m xs) (zv n ys) 1 0).2]) := by
 refine Ctr.intro Tryz.func286 rfl (by kernel_rfl) Tryz.ntmps286 rfl fun w0 F0 => .cv (Cv.wk (.l [0, 1] rfl)) (.fact (Has.okZ (Has.t (t := 0) rfl)) fun okz0 => .fact (Has.okZ (Has.t (t := 1) rfl)) fun okz1 => ?_)
 have hxx := zv_nw m xs
 have hyy := zv_nw n ys
 refine .seq fun _ k1 => .region (.box (.t rfl) rfl fun b1 => .box (.t rfl) rfl fun b2 => .alloc [isB false, SlM isU []] zero31 (fun _ _ => ⟨rfl, nilM _ _, trivial⟩) rfl fun b3 => .alloc [isB false, SlM isU []] zero31 (fun _ _ => ⟨rfl, nilM _ _, trivial⟩) rfl fun b4 => nl (.thn (k1 _ _ (.seq fun _ k2 => .region (st (.call (zint_one) .nil) rfl (st (.eq (.build [isB false, SlM isU []] pl31 zero31 (fun _ _ => ⟨rfl, nilM _ _, trivial⟩) .nil (Z'' := [_, _]) rfl) (isZ0)) rfl (.alloc [isB false, SlM isU []] zero31 (fun _ _ => ⟨rfl, nilM _ _, trivial⟩) rfl fun b5 => .alloc [isB false, SlM isU []] zero31 (fun _ _ => ⟨rfl, nilM _ _, trivial⟩) rfl fun b6 => .store (.t rfl) (.t rfl) (i := 1) rfl ty31 rfl rfl (Ss' := [_, _]) rfl (M' := [_, (some _, cellM [_, _]), _, _, _, _]) rfl (.store (.t rfl) (.t rfl) (i := 0) rfl ty31 rfl rfl (Ss' := [_, _]) rfl (M' := [(some _, cellM [_, _]), _, _, _, _, _]) rfl (nl (.thn (k2 _ _ (.seq fun _ k3 => .dr (.s [] rfl rfl rfl (.o rfl (.fieldAddr (.t rfl) fld31_1 ty29)) (.s [13] rfl rfl rfl (.o rfl (.load1 (.t rfl) (i := 5) rfl ty29 rfl)) (.s [] rfl rfl rfl (.o rfl (.fieldAddr (.t rfl) fld31_0 ty4)) (.s [15] rfl rfl rfl (.o rfl (.load1 (.t rfl) (i := 5) rfl ty4 rfl)) (.s [14, 16] rfl rfl rfl (.o rfl (.call (zint_From (by first | with_reducible assumption | omega | (simp only [val_words, zv_nf]; omega) | (simp only [val_words]; exact Nat.le_trans (nw_small' (by omega)) (by decide)))) (.cons (.t rfl) (.cons (.t rfl) .nil)))) ?_)))))))))))))))))
 refine .s [] rfl rfl rfl (.o rfl (.fieldAddr (.t rfl) fld31_1 ty29)) (.s [18] rfl rfl rfl (.o rfl (.load1 (.t rfl) (i := 4) rfl ty29 rfl)) (.s [] rfl rfl rfl (.o rfl (.fieldAddr (.t rfl) fld31_0 ty4)) (.s [20] rfl rfl rfl (.o rfl (.load1 (.t rfl) (i := 4) rfl ty4 rfl)) (.fin (n := 9) mixed (by kernel_rfl) (by kernel_rfl) (by kernel_rfl) (.cv (Cv.wk (.l [2, 3, 4, 5, 6, 7, 17, 19, 21] rfl)) (st (.call (zint_From (by first | with_reducible assumption | omega | (simp only [val_words, zv_nf]; omega) | (simp only [val_words]; exact Nat.le_trans (nw_small' (by omega)) (by decide)))) (.cons (.t rfl) (.cons (.t rfl) .nil))) rfl ?_))))))
 refine .store (.t rfl) (.t rfl) (i := 5) rfl ty31 rfl rfl (Ss' := [_, _]) rfl (M' := [_, _, _, _, _, (some _, cellM [_, _])]) rfl (.store (.t rfl) (.t rfl) (i := 4) rfl ty31 rfl rfl (Ss' := [_, _]) rfl (M' := [_, _, _, _, (some _, cellM [_, _]), _]) rfl (nl (.thn (k3 _ _ (.seq fun _ k4 => .block (.loopF [2, 3, 4, 5, 6, 7] (fun (z : { z : Int × Int × Int × Int × Nat × Nat // Cf (zv m xs) (zv n ys) z.1 z.2.1 z.2.2.1 z.2.2.2.1 z.2.2.2.2.1 z.2.2.2.2.2 ∧ cof z.1 z.2.1 z.2.2.1 z.2.2.2.1 = cof (zv m xs) (zv n ys) 1 0 }) => match z with | ⟨(a, b, x, nx, X, Y), hI⟩ => []) (fun M => fun (z : { z : Int × Int × Int × Int × Nat × Nat // Cf (zv m xs) (zv n ys) z.1 z.2.1 z.2.2.1 z.2.2.2.1 z.2.2.2.2.1 z.2.2.2.2.2 ∧ cof z.1 z.2.1 z.2.2.1 z.2.2.2.1 = cof (zv m xs) (zv n ys) 1 0 }) => match z with | ⟨(a, b, x, nx, X, Y), hI⟩ => [zM b6 nx, zM b5 x, (some b4, cellM [isB false, SlM isU []]), (some b3, cellM [isB false, SlM isU []]), zM b2 b, zM b1 a]) (fun (z : { z : Int × Int × Int × Int × Nat × Nat // Cf (zv m xs) (zv n ys) z.1 z.2.1 z.2.2.1 z.2.2.2.1 z.2.2.2.2.1 z.2.2.2.2.2 ∧ cof z.1 z.2.1 z.2.2.1 z.2.2.2.1 = cof (zv m xs) (zv n ys) 1 0 }) => match z with | ⟨(a, b, x, nx, X, Y), hI⟩ => b.natAbs) (⟨(zv m xs, zv n ys, 1, 0, 1, 0), Cf.start _ _, rfl⟩) (Cv.mem (.l [2, 3, 4, 5, 6, 7] rfl) ?_) ?_))))))
 ·rfl
 rintro ⟨⟨a, b, x, nx, X, Y⟩, hI⟩ K5 hK5
 refine .cv (Cv.wk (.l [2, 3, 4, 5, 6, 7] rfl)) (.memEq (M' := [zM b6 nx, zM b5 x, (some b4, cellM [isB false, SlM isU []]), (some b3, cellM [isB false, SlM isU []]), zM b2 b, zM b1 a]) rfl ?_)
 simp only [] at hI
 obtain ⟨hC, hcof⟩ := hI
 have za := Nat.le_trans (nw_mono hC.a1) (nw_max _ _)
 have zb := nw_mono hC.b1
 have zx := Nat.le_trans (nw_mono (Nat.le_trans hC.x hC.X1)) (nw_max _ _)
 have zn := nw_mono (Nat.le_trans hC.y hC.Y1)
 have h1 := nw_one
 have zq := nz_tdiv a b
 have zr := nz_tmod a b
 refine .seq fun _ k6 => .seq fun _ k7 => .region (st (.load (.t rfl) (i := 4) rfl ty31 rfl (Ss' := [_, _]) rfl) rfl (st (.eq (.call (zint_Sign (by first | with_reducible assumption | omega | (simp only [val_words, zv_nf]; omega) | (simp only [val_words]; exact Nat.le_trans (nw_small' (by omega)) (by decide)))) (.cons (.t rfl) .nil)) (by first | (simp only [val_words, zv_nf]; rfl) | rfl)) rfl ?_))
 refine st (.neI (.t rfl) (.cI 0 rfl)) rfl (nl (.thn (k7 _ _ (.cond (.t rfl) (fun hc1 => ?_) (fun hc1 => ?_)))))
 ·have hc1 := BP.t hc1
  have hb : b ≠ 0 := fun e => hc1 (by rw [sgn_eq0]; exact e)
  have zm := nz_mul (a.tdiv b) nx
  refine .skip (.thn (k6 _ _ (.block (.seq fun _ k8 => .region (st (.load (.t rfl) (i := 5) rfl ty31 rfl (Ss' := [_, _]) rfl) rfl (st (.load (.t rfl) (i := 4) rfl ty31 rfl (Ss' := [_, _]) rfl) rfl (st (.eq (.call (zint_Quo (by first | with_reducible assumption | omega | (simp only [val_words, zv_nf]; omega) | (simp only [val_words]; exact Nat.le_trans (nw_small' (by omega)) (by decide))) (by first | with_reducible assumption | omega | (simp only [val_words, zv_nf]; omega) | (simp only [val_words]; exact Nat.le_trans (nw_small' (by omega)) (by decide)))) (.cons (.t rfl) (.cons (.t rfl) .nil))) (by first | (simp only [val_words, zv_nf]; rfl) | rfl)) rfl ?_)))))))
  refine st (.mv (.t rfl)) rfl (st (.ext (.t rfl) rfl) rfl (st (.ext (.t rfl) rfl) rfl (st (.ext (.t rfl) rfl) rfl (.alloc [isB false, SlM isU []] zero31 (fun _ _ => ⟨rfl, nilM _ _, trivial⟩) rfl fun b7 => .alloc [isB false, SlM isU []] zero31 (fun _ _ => ⟨rfl, nilM _ _, trivial⟩) rfl fun b8 => .store (.t rfl) (.t rfl) (i := 1) rfl ty31 rfl rfl (Ss' := [_, _]) rfl (M' := [_, (some _, cellM [_, _]), _, _, _, _, _, _]) rfl (.store (.t rfl) (.t rfl) (i := 0) rfl ty31 rfl rfl (Ss' := [_, _]) rfl (M' := [(some _, cellM [_, _]), _, _, _, _, _, _, _]) rfl (st (.as (.t rfl)) rfl (nl (.thn (k8 _ _ (.seq fun _ k9 => .drh [true, true, true, true, true, true, true, false] (Ms := [_, _, _, _, _, _, _]) rfl (.s [] rfl rfl rfl (.o rfl (.load (.t rfl) (i := 6) rfl ty31 rfl (Ss' := [_, _]) rfl)) (.s [] rfl rfl rfl (.o rfl (.load (.t rfl) (i := 0) rfl ty31 rfl (Ss' := [_, _]) rfl)) (.mid (.cons_cons _ (.cons_cons _ (.cons_cons _ (.cons_cons _ (.cons_cons _ (.cons_cons _ (.cons_cons _ (.cons _ .slnil)))))))) (.st [33] rfl rfl (by kernel_rfl) (by kernel_rfl) (StS.store (.t rfl) (.t rfl) (i := 7) rfl ty31 rfl rfl (Ss' := [_, _]) rfl (M' := [_, _, _, _, _, _, _, (some _, cellM [_, _])]) rfl) (.cons_cons _ (.cons_cons _ (.cons_cons _ (.cons_cons _ (.cons_cons _ (.cons_cons _ (.cons_cons _ (.cons _ .slnil)))))))) (.fin (n := 3) mixed rfl (by kernel_rfl) (by kernel_rfl) (by kernel_rfl) (.cv (Cv.wk (.l [2, 3, 4, 5, 6, 7, 23, 24, 25, 27, 28, 29, 26, 30, 31, 32, 8, 9, 33, 34] rfl)) (.store (.t rfl) (.t rfl) (i := 6) rfl ty31 rfl rfl (Ss' := [_, _]) rfl (M' := [_, _, _, _, _, _, (some _, cellM [_, _]), _]) rfl (nl (.thn (k9 _ _ (.dr (.s [] rfl rfl rfl (.o rfl (.load (.t rfl) (i := 2) rfl ty31 rfl (Ss' := [_, _]) rfl)) (.s [] rfl rfl rfl (.o rfl (.load (.t rfl) (i := 3) rfl ty31 rfl (Ss' := [_, _]) rfl)) (.s [] rfl rfl rfl (.o rfl (.load (.t rfl) (i := 1) rfl ty31 rfl (Ss' := [_, _]) rfl)) (.s [] rfl rfl rfl (.o rfl (.load (.t rfl) (i := 2) rfl ty31 rfl (Ss' := [_, _]) rfl)) (.s [37, 38] rfl rfl rfl (.o rfl (.eq (.call (zint_Mul (by first | with_reducible assumption | omega | (simp only [val_words, zv_nf]; omega) | (simp only [val_words]; exact Nat.le_trans (nw_small' (by omega)) (by decide))) (by first | with_reducible assumption | omega | (simp only [val_words, zv_nf]; omega) | (simp only [val_words]; exact Nat.le_trans (nw_small' (by omega)) (by decide)))) (.cons (.t rfl) (.cons (.t rfl) .nil))) (by first | (simp only [val_words, zv_nf]; rfl) | rfl))) ?_))))))))))))))))))))))))))
  refine .s [36, 39] rfl rfl rfl (.o rfl (.eq (.call (zint_Sub (by first | with_reducible assumption | omega | (simp only [val_words, zv_nf]; omega) | (simp only [val_words]; exact Nat.le_trans (nw_small' (by omega)) (by decide))) (by first | with_reducible assumption | omega | (simp only [val_words, zv_nf]; omega) | (simp only [val_words]; exact Nat.le_trans (nw_small' (by omega)) (by decide)))) (.cons (.t rfl) (.cons (.t rfl) .nil))) (by first | (simp only [val_words, zv_nf]; rfl) | rfl))) ?_
  refine .fin (n := 6) mixed (by kernel_rfl) (by kernel_rfl) (by kernel_rfl) (.cv (Cv.wk (.l [2, 3, 4, 5, 6, 7, 23, 24, 25, 27, 28, 29, 26, 30, 31, 32, 8, 9, 33, 34, 35, 36, 37, 38, 39, 40] rfl)) (.store (.t rfl) (.t rfl) (i := 3) rfl ty31 rfl rfl (Ss' := [_, _]) rfl (M' := [_, _, _, (some _, cellM [_, _]), _, _, _, _]) rfl (.store (.t rfl) (.t rfl) (i := 2) rfl ty31 rfl rfl (Ss' := [_, _]) rfl (M' := [_, _, (some _, cellM [_, _]), _, _, _, _, _]) rfl (nl (.bln (.thn (hK5 (⟨(b, a.tmod b, nx, x - a.tdiv b * nx, Y, X + (a.tdiv b).natAbs * Y), hC.step hb, by rw [← hcof, cof_step hb]⟩) _ _ ?_ (Cv.trans (Cv.drop ((.cons _ (.cons _ (.cons_cons _ (.cons_cons _ (.cons_cons _ (.cons_cons _ (.cons_cons _ (.cons_cons _ .slnil)))))))))) (Cv.mem (.l [2, 3, 4, 5, 6, 7] rfl) ?_)))))))))
  ·show (a.tmod b).natAbs < b.natAbs; rw [Int.natAbs_tmod]; exact Nat.mod_lt _ (by omega)
  ·simp only [if_neg hb]
 ·have hc1 := BP.f hc1
  have hb : b = 0 := (sgn_eq0 _).1 (by omega)
  refine .exit (.the (.the (.blh (.thn (k4 _ _ (.cv (Cv.wk (.l [2, 4, 5, 6] rfl)) (.seq fun _ k10 => .seq fun _ k11 => .region (st (.load (.t rfl) (i := 5) rfl ty31 rfl (Ss' := [_, _]) rfl) rfl (st (.eq (.call (zint_Sign (by first | with_reducible assumption | omega | (simp only [val_words, zv_nf]; omega) | (simp only [val_words]; exact Nat.le_trans (nw_small' (by omega)) (by decide)))) (.cons (.t rfl) .nil)) (by first | (simp only [val_words, zv_nf]; rfl) | rfl)) rfl ?_)))))))))
  refine st (.ltI (.t rfl) (.cI 0 rfl)) rfl (nl (.thn (k11 _ _ (.cond (.t rfl) (fun hc2 => ?_) (fun hc2 => ?_)))))
  ·have hc2 := BP.t hc2
   have ha : a < 0 := (sgn_lt _).1 hc2
   refine .seq fun _ k12 => .dr (.s [] rfl rfl rfl (.o rfl (.load (.t rfl) (i := 5) rfl ty31 rfl (Ss' := [_, _]) rfl)) (.s [44] rfl rfl rfl (.o rfl (.eq (.call (zint_Neg (by first | with_reducible assumption | omega | (simp only [val_words, zv_nf]; omega) | (simp only [val_words]; exact Nat.le_trans (nw_small' (by omega)) (by decide)))) (.cons (.t rfl) .nil)) (by first | (simp only [val_words, zv_nf]; rfl) | rfl))) ?_))
   refine .s [] rfl rfl rfl (.o rfl (.load (.t rfl) (i := 1) rfl ty31 rfl (Ss' := [_, _]) rfl)) (.fin (n := 3) mixed (by kernel_rfl) (by kernel_rfl) (by kernel_rfl) (.cv (Cv.wk (.l [2, 4, 5, 6, 45, 46] rfl)) (st (.eq (.call (zint_Neg (by first | with_reducible assumption | omega | (simp only [val_words, zv_nf]; omega) | (simp only [val_words]; exact Nat.le_trans (nw_small' (by omega)) (by decide)))) (.cons (.t rfl) .nil)) (by first | (simp only [val_words, zv_nf]; rfl) | rfl)) rfl ?_)))
   refine .store (.t rfl) (.t rfl) (i := 3) rfl ty31 rfl rfl (Ss' := [_, _]) rfl (M' := [_, _, _, (some _, cellM [_, _]), _, _]) rfl (.store (.t rfl) (.t rfl) (i := 2) rfl ty31 rfl rfl (Ss' := [_, _]) rfl (M' := [_, _, (some _, cellM [_, _]), _, _, _]) rfl (nl (.thn (k12 _ _ (.ret (.thr (rtN (.inl rfl) Tryz.results286 rfl rfl (.cell rfl (i := 3) rfl ty31 rfl ?_ (.cell rfl (i := 2) rfl ty31 rfl ?_ .nil)))))))))
   ·subst hb; exact isZ_eq (by rw [← hcof, cof_zero, if_pos ha])
   ·subst hb; exact isZ_eq (by rw [← hcof, cof_zero, if_pos ha])
  ·have hc2 := BP.f hc2
   have ha : ¬ a < 0 := fun e => by have := (sgn_lt a).2 e; omega
   refine .skip (.thn (k10 _ _ (.seq fun _ k13 => .drh [true, true, true, false, true, true] (Ms := [_, _, _, _, _]) rfl (.s [] rfl rfl rfl (.o rfl (.load (.t rfl) (i := 4) rfl ty31 rfl (Ss' := [_, _]) rfl)) (.s [] rfl rfl rfl (.o rfl (.load (.t rfl) (i := 1) rfl ty31 rfl (Ss' := [_, _]) rfl)) (.mid (.cons_cons _ (.cons_cons _ (.cons_cons _ (.cons _ (.cons_cons _ (.cons_cons _ .slnil)))))) (.st [48] rfl rfl (by kernel_rfl) (by kernel_rfl) (StS.store (.t rfl) (.t rfl) (i := 3) rfl ty31 rfl rfl (Ss' := [_, _]) rfl (M' := [_, _, _, (some _, cellM [_, _]), _, _]) rfl) (.cons_cons _ (.cons_cons _ (.cons_cons _ (.cons _ (.cons_cons _ (.cons_cons _ .slnil)))))) (.fin (n := 3) mixed rfl (by kernel_rfl) (by kernel_rfl) (by kernel_rfl) (.cv (Cv.wk (.l [4, 5, 49] rfl)) (.store (.t rfl) (.t rfl) (i := 2) rfl ty31 rfl rfl (Ss' := [_, _]) rfl (M' := [_, _, (some _, cellM [_, _]), _, _, _]) rfl (nl (.thn (k13 _ _ (.ret (rtN (.inl rfl) Tryz.results286 rfl rfl (.cell rfl (i := 3) rfl ty31 rfl ?_ (.cell rfl (i := 2) rfl ty31 rfl ?_ .nil)))))))))))))))))
   ·subst hb; exact isZ_eq (by rw [← hcof, cof_zero, if_neg ha])
   ·subst hb; exact isZ_eq (by rw [← hcof, cof_zero, if_neg ha])
theorem zint_Xgcd {m n : Bool} {xs ys : List Nat} (hx : (List.length (words (val xs))) ≤ 100000000) (hy : (List.length (words (val ys))) ≤ 100000000) (hb : zv n ys ≠ 0) : Ctr Tryz.prog 261 [Flat [isB m, isWords xs], Flat [isB n, isWords ys]] (isTup [isZ ((Nat.gcd (zv m xs).natAbs (zv n ys).natAbs : Nat) : Int), isZ (xg (zv m xs) (zv n ys)), isZ (if zv n ys ≠ 0 ∧ (((Nat.gcd (zv m xs).natAbs (zv n ys).natAbs : Nat) : Int) - xg (zv m xs) (zv n ys) * zv m xs).tmod (zv n ys) = 0 then (((Nat.gcd (zv m xs).natAbs (zv n ys).natAbs : Nat) : Int) - xg (zv m xs) (zv n ys) * zv m xs).tdiv (zv n ys) else 0)]) := by
 refine Ctr.intro Tryz.func261 rfl (by kernel_rfl) Tryz.ntmps261 rfl fun w0 F0 => .cv (Cv.wk (.l [0, 1] rfl)) (.fact (Has.okZ (Has.t (t := 0) rfl)) fun okz0 => .fact (Has.okZ (Has.t (t := 1) rfl)) fun okz1 => ?_)
 have hxx := zv_nw m xs
 have hyy := zv_nw n ys
 have h1 := nz_one
 have hcof := cof_all (zv m xs) (zv n ys)
 have hg1 := hcof.1
 obtain ⟨g, hge⟩ : ∃ g : Int, g = ((Nat.gcd (zv m xs).natAbs (zv n ys).natAbs : Nat) : Int) := ⟨_, rfl⟩
 have hgn : (List.length (words g.natAbs)) ≤ 100000000 := by rw [hge, Int.natAbs_natCast]; exact Nat.le_trans (nw_mono (Nat.gcd_le_right _ (by omega))) (by omega)
 obtain ⟨c, hce⟩ : ∃ c, c = (cof (zv m xs) (zv n ys) 1 0).2 := ⟨_, rfl⟩
 have hcn : (List.length (words c.natAbs)) ≤ 100000000 := by rw [hce]; exact Nat.le_trans (nw_mono hcof.2.2) (Nat.le_trans (nw_max _ _) (by have := nw_one; omega))
 obtain ⟨sp, hst⟩ : ∃ sp : Int, sp = ((zv n ys).natAbs : Int) / g := ⟨_, rfl⟩
 have hsp : 0 < sp := by rw [hst, hge]; exact step_pos hb
 have hsn : (List.length (words sp.natAbs)) ≤ 100000000 := by rw [hst, hge]; exact Nat.le_trans (nw_mono (step_le _ _)) (by omega)
 obtain ⟨x, hxe⟩ : ∃ x, x = xg (zv m xs) (zv n ys) := ⟨_, rfl⟩
 have hxn : (List.length (words x.natAbs)) ≤ 100000000 := by rw [hxe]; exact Nat.le_trans (nw_mono (xg_le hb)) (by omega)
 have hm := nz_mul x (zv m xs)
 have hs := nz_sub g (x * zv m xs)
 have hx2 : c % sp = x := by rw [hxe, hce, hst, hge]; rfl
 refine .seq fun _ k1 => .region (.box (.t rfl) rfl fun b1 => .box (.t rfl) rfl fun b2 => .alloc [isB false, SlM isU []] zero31 (fun _ _ => ⟨rfl, nilM _ _, trivial⟩) rfl fun b3 => .alloc [isB false, SlM isU []] zero31 (fun _ _ => ⟨rfl, nilM _ _, trivial⟩) rfl fun b4 => .alloc [isB false, SlM isU []] zero31 (fun _ _ => ⟨rfl, nilM _ _, trivial⟩) rfl fun b5 => nl (.thn (k1 _ _ (.seq fun _ k2 => .seq fun _ k3 => .region (st (.load (.t rfl) (i := 3) rfl ty31 rfl (Ss' := [_, _]) rfl) rfl (st (.call (zint_Sign (by first | with_reducible assumption | omega | (simp only [val_words, zv_nf]; omega) | (simp only [val_words, zv_nf, Int.natAbs_natCast]; omega) | (simp only [val_words]; exact Nat.le_trans (nw_small' (by omega)) (by decide)))) (.cons (.t rfl) .nil)) rfl ?_))))))
 refine st (.eqI (.t rfl) (.cI 0 rfl)) rfl (nl (.thn (k3 _ _ (.cond (.t rfl) (fun hc1 => ?_) (fun hc1 => ?_)))))
 ·have hc1 := BP.t hc1
  exact absurd ((sgn_eq0 _).1 hc1) hb
 ·have hc1 := BP.f hc1
  refine .skip (.thn (k2 _ _ (.cv (Cv.wk (.l [2, 3, 4, 5, 6] rfl)) (.seq fun _ k4 => .region (st (.load (.t rfl) (i := 4) rfl ty31 rfl (Ss' := [_, _]) rfl) rfl (st (.load (.t rfl) (i := 3) rfl ty31 rfl (Ss' := [_, _]) rfl) rfl (st (.eq (.call (zint_cofactor (by first | with_reducible assumption | omega | (simp only [val_words, zv_nf]; omega) | (simp only [val_words, zv_nf, Int.natAbs_natCast]; omega) | (simp only [val_words]; exact Nat.le_trans (nw_small' (by omega)) (by decide))) (by first | with_reducible assumption | omega | (simp only [val_words, zv_nf]; omega) | (simp only [val_words, zv_nf, Int.natAbs_natCast]; omega) | (simp only [val_words]; exact Nat.le_trans (nw_small' (by omega)) (by decide)))) (.cons (.t rfl) (.cons (.t rfl) .nil))) ((show isTup [isZ _, isZ _] = isTup [isZ g, isZ c] from by rw [hce, hge, hg1]))) rfl ?_)))))))
  refine st (.mv (.t rfl)) rfl (st (.ext (.t rfl) rfl) rfl (st (.ext (.t rfl) rfl) rfl (.alloc [isB false, SlM isU []] zero31 (fun _ _ => ⟨rfl, nilM _ _, trivial⟩) rfl fun b6 => .alloc [isB false, SlM isU []] zero31 (fun _ _ => ⟨rfl, nilM _ _, trivial⟩) rfl fun b7 => .store (.t rfl) (.t rfl) (i := 1) rfl ty31 rfl rfl (Ss' := [_, _]) rfl (M' := [_, (some _, cellM [_, _]), _, _, _, _, _]) rfl (.store (.t rfl) (.t rfl) (i := 0) rfl ty31 rfl rfl (Ss' := [_, _]) rfl (M' := [(some _, cellM [_, _]), _, _, _, _, _, _]) rfl (nl (.thn (k4 _ _ (.cv (Cv.wk (.l [2, 3, 4, 5, 6, 7, 8] rfl)) (.seq fun _ k5 => .drh [true, true, true, true, true, true, true] (Ms := [_, _, _, _, _, _, _]) rfl (.s [] rfl rfl rfl (.o rfl (.load (.t rfl) (i := 5) rfl ty31 rfl (Ss' := [_, _]) rfl)) (.s [29] rfl rfl rfl (.o rfl (.call (zint_Abs (by first | with_reducible assumption | omega | (simp only [val_words, zv_nf]; omega) | (simp only [val_words, zv_nf, Int.natAbs_natCast]; omega) | (simp only [val_words]; exact Nat.le_trans (nw_small' (by omega)) (by decide)))) (.cons (.t rfl) .nil))) ?_)))))))))))
  refine .s [] rfl rfl rfl (.o rfl (.load (.t rfl) (i := 1) rfl ty31 rfl (Ss' := [_, _]) rfl)) ?_
  refine .s [30, 31] rfl rfl rfl (.o rfl (.eq (.call (zint_Exact (by first | with_reducible assumption | omega | (simp only [val_words, zv_nf]; omega) | (simp only [val_words, zv_nf, Int.natAbs_natCast]; omega) | (simp only [val_words]; exact Nat.le_trans (nw_small' (by omega)) (by decide))) (by first | with_reducible assumption | omega | (simp only [val_words, zv_nf]; omega) | (simp only [val_words, zv_nf, Int.natAbs_natCast]; omega) | (simp only [val_words]; exact Nat.le_trans (nw_small' (by omega)) (by decide)))) (.cons (.t rfl) (.cons (.t rfl) .nil))) ((by simp only [zv_nf]; rw [show (if g ≠ 0 ∧ (((zv n ys).natAbs : Nat) : Int).tmod g = 0 then (((zv n ys).natAbs : Nat) : Int).tdiv g else 0) = sp from by rw [hst, hge, ← hg1]; exact (xg_step hb).trans (by rw [hg1])])))) ?_
  refine .s [32] rfl rfl rfl (.o rfl (.mv (.t rfl))) (.s [28] rfl rfl rfl (.o rfl (.ext (.t rfl) rfl)) (.s [28] rfl rfl rfl (.o rfl (.ext (.t rfl) rfl)) (.als (n1 := 8) (ds := [9]) (zs := [[isB false, SlM isU []]]) rfl (.cons rfl rfl zero31 (fun _ _ => ⟨rfl, nilM _ _, trivial⟩) .nil) (.cons_cons _ (.cons_cons _ (.cons_cons _ (.cons_cons _ (.cons_cons _ (.cons_cons _ (.cons_cons _ .slnil))))))) (Cs := [_]) rfl (.new [33] 0 (Ss' := [_, _]) (Cs' := [cellM [_, _]]) rfl (by kernel_rfl) (by kernel_rfl) rfl rfl rfl (by kernel_rfl) rfl (.t rfl) ty31 rfl rfl rfl rfl (.fin (n := 9) mixed rfl (by kernel_rfl) (by kernel_rfl) (by kernel_rfl) (fun bs hbs => ?_))))))
  obtain ⟨b8, rfl⟩ := len1 hbs
  refine .memEq (M' := [_, _, _, _, _, _, _, _]) rfl (.cv (Cv.wk (.k 2 rfl (.k 3 rfl (.k 4 rfl (.k 5 rfl (.k 6 rfl (.k 7 rfl (.k 8 rfl (.k 34 rfl (.cons (t := 9) (Has.op rfl) .nil)))))))))) (st (.as (.t rfl)) rfl (nl (.thn (k5 _ _ (.seq fun _ k6 => .region (st (.load (.t rfl) (i := 1) rfl ty31 rfl (Ss' := [_, _]) rfl) rfl (st (.load (.t rfl) (i := 0) rfl ty31 rfl (Ss' := [_, _]) rfl) rfl (st (.eq (.call (zint_Euclid (by first | with_reducible assumption | omega | (simp only [val_words, zv_nf]; omega) | (simp only [val_words, zv_nf, Int.natAbs_natCast]; omega) | (simp only [val_words]; exact Nat.le_trans (nw_small' (by omega)) (by decide))) (by first | with_reducible assumption | omega | (simp only [val_words, zv_nf]; omega) | (simp only [val_words, zv_nf, Int.natAbs_natCast]; omega) | (simp only [val_words]; exact Nat.le_trans (nw_small' (by omega)) (by decide)))) (.cons (.t rfl) (.cons (.t rfl) .nil))) ((by simp only [zv_nf]; rw [if_neg (show ¬ sp = 0 by omega), hx2]))) rfl ?_)))))))))
  refine st (.mv (.t rfl)) rfl (st (.ext (.t rfl) rfl) rfl (st (.ext (.t rfl) rfl) rfl (st (.ext (.t rfl) rfl) rfl (.store (.t rfl) (.t rfl) (i := 1) rfl ty31 rfl rfl (Ss' := [_, _]) rfl (M' := [_, (some _, cellM [_, _]), _, _, _, _, _, _]) rfl (nl (.thn (k6 _ _ (.cv (Cv.wk (.l [2, 3, 4, 5, 6, 7, 8] rfl)) (.seq fun _ k7 => .drh [true, true, true, true, true, true, true, true] (Ms := [_, _, _, _, _, _, _, _]) rfl (.s [] rfl rfl rfl (.o rfl (.load (.t rfl) (i := 2) rfl ty31 rfl (Ss' := [_, _]) rfl)) (.s [] rfl rfl rfl (.o rfl (.load (.t rfl) (i := 1) rfl ty31 rfl (Ss' := [_, _]) rfl)) (.s [] rfl rfl rfl (.o rfl (.load (.t rfl) (i := 7) rfl ty31 rfl (Ss' := [_, _]) rfl)) (.s [44, 45] rfl rfl rfl (.o rfl (.eq (.call (zint_Mul (by first | with_reducible assumption | omega | (simp only [val_words, zv_nf]; omega) | (simp only [val_words, zv_nf, Int.natAbs_natCast]; omega) | (simp only [val_words]; exact Nat.le_trans (nw_small' (by omega)) (by decide))) (by first | with_reducible assumption | omega | (simp only [val_words, zv_nf]; omega) | (simp only [val_words, zv_nf, Int.natAbs_natCast]; omega) | (simp only [val_words]; exact Nat.le_trans (nw_small' (by omega)) (by decide)))) (.cons (.t rfl) (.cons (.t rfl) .nil))) (by first | (simp only [val_words, zv_nf]; rfl) | rfl))) ?_)))))))))))))
  refine .s [43, 46] rfl rfl rfl (.o rfl (.eq (.call (zint_Sub (by first | with_reducible assumption | omega | (simp only [val_words, zv_nf]; omega) | (simp only [val_words, zv_nf, Int.natAbs_natCast]; omega) | (simp only [val_words]; exact Nat.le_trans (nw_small' (by omega)) (by decide))) (by first | with_reducible assumption | omega | (simp only [val_words, zv_nf]; omega) | (simp only [val_words, zv_nf, Int.natAbs_natCast]; omega) | (simp only [val_words]; exact Nat.le_trans (nw_small' (by omega)) (by decide)))) (.cons (.t rfl) (.cons (.t rfl) .nil))) (by first | (simp only [val_words, zv_nf]; rfl) | rfl))) ?_
  refine .s [] rfl rfl rfl (.o rfl (.load (.t rfl) (i := 6) rfl ty31 rfl (Ss' := [_, _]) rfl)) (.s [47, 48] rfl rfl rfl (.o rfl (.eq (.call (zint_Exact (by first | with_reducible assumption | omega | (simp only [val_words, zv_nf]; omega) | (simp only [val_words, zv_nf, Int.natAbs_natCast]; omega) | (simp only [val_words]; exact Nat.le_trans (nw_small' (by omega)) (by decide))) (by first | with_reducible assumption | omega | (simp only [val_words, zv_nf]; omega) | (simp only [val_words, zv_nf, Int.natAbs_natCast]; omega) | (simp only [val_words]; exact Nat.le_trans (nw_small' (by omega)) (by decide)))) (.cons (.t rfl) (.cons (.t rfl) .nil))) (by first | (simp only [val_words, zv_nf]; rfl) | rfl))) ?_)
  refine .s [49] rfl rfl rfl (.o rfl (.mv (.t rfl))) (.s [42] rfl rfl rfl (.o rfl (.ext (.t rfl) rfl)) (.s [42] rfl rfl rfl (.o rfl (.ext (.t rfl) rfl)) (.als (n1 := 11) (ds := [11]) (zs := [[isB false, SlM isU []]]) rfl (.cons rfl rfl zero31 (fun _ _ => ⟨rfl, nilM _ _, trivial⟩) .nil) (.cons_cons _ (.cons_cons _ (.cons_cons _ (.cons_cons _ (.cons_cons _ (.cons_cons _ (.cons_cons _ (.cons_cons _ .slnil)))))))) (Cs := [_]) rfl (.new [50] 0 (Ss' := [_, _]) (Cs' := [cellM [_, _]]) rfl (by kernel_rfl) (by kernel_rfl) rfl rfl rfl (by kernel_rfl) rfl (.t rfl) ty31 rfl rfl rfl rfl (.fin (n := 12) mixed rfl (by kernel_rfl) (by kernel_rfl) (by kernel_rfl) (fun bs hbs => ?_))))))
  obtain ⟨b9, rfl⟩ := len1 hbs
  refine .memEq (M' := [_, _, _, _, _, _, _, _, _]) rfl (.cv (Cv.wk (.k 4 rfl (.k 5 rfl (.k 6 rfl (.k 7 rfl (.k 8 rfl (.k 51 rfl (.cons (t := 11) (Has.op rfl) .nil)))))))) (st (.as (.t rfl)) rfl (nl (.thn (k7 _ _ (.seq fun _ k8 => .drh [true, true, true, true, true, false, false, true, true] (Ms := [_, _, _, _, _, _, _]) rfl (.s [] rfl rfl rfl (.o rfl (.load (.t rfl) (i := 3) rfl ty31 rfl (Ss' := [_, _]) rfl)) (.s [] rfl rfl rfl (.o rfl (.load (.t rfl) (i := 2) rfl ty31 rfl (Ss' := [_, _]) rfl)) (.s [] rfl rfl rfl (.o rfl (.load (.t rfl) (i := 0) rfl ty31 rfl (Ss' := [_, _]) rfl)) (.mid (.cons_cons _ (.cons_cons _ (.cons_cons _ (.cons_cons _ (.cons_cons _ (.cons _ (.cons _ (.cons_cons _ (.cons_cons _ .slnil))))))))) (.st [52] rfl rfl (by kernel_rfl) (by kernel_rfl) (StS.store (.t rfl) (.t rfl) (i := 6) rfl ty31 rfl rfl (Ss' := [_, _]) rfl (M' := [_, _, _, _, _, _, (some _, cellM [_, _]), _, _]) rfl) (.cons_cons _ (.cons_cons _ (.cons_cons _ (.cons_cons _ (.cons_cons _ (.cons _ (.cons _ (.cons_cons _ (.cons_cons _ .slnil))))))))) (.st [53] rfl rfl (by kernel_rfl) (by kernel_rfl) (StS.store (.t rfl) (.t rfl) (i := 5) rfl ty31 rfl rfl (Ss' := [_, _]) rfl (M' := [_, _, _, _, _, (some _, cellM [_, _]), _, _, _]) rfl) (.cons_cons _ (.cons_cons _ (.cons_cons _ (.cons_cons _ (.cons_cons _ (.cons _ (.cons _ (.cons_cons _ (.cons_cons _ .slnil))))))))) (.fin (n := 5) mixed rfl (by kernel_rfl) (by kernel_rfl) (by kernel_rfl) (.cv (Cv.wk (.l [4, 5, 6, 54] rfl)) (.store (.t rfl) (.t rfl) (i := 4) rfl ty31 rfl rfl (Ss' := [_, _]) rfl (M' := [_, _, _, _, (some _, cellM [_, _]), _, _, _, _]) rfl (nl (.thn (k8 _ _ (.ret (rtN (.inl rfl) Tryz.results261 rfl rfl (.cell rfl (i := 6) rfl ty31 rfl ?_ (.cell rfl (i := 5) rfl ty31 rfl ?_ (.cell rfl (i := 4) rfl ty31 rfl ?_ .nil)))))))))))))))))))))))
  ·exact isZ_eq hge
  ·exact isZ_eq hxe
  ·exact isZ_eq (by rw [hge, hxe])
theorem modn_Mod {m n : Bool} {xs ys : List Nat} (hx : (List.length (words (val xs))) < 4294700000) (hy : (List.length (words (val ys))) < 4294700000) : Ctr Tryz.prog 160 [Flat [isB m, isWords xs], Flat [isB n, isWords ys]] (isTup [isZ (if 0 < zv n ys then zv m xs % zv n ys else 0), isB (decide (0 < zv n ys))]) := by
 refine Ctr.intro Tryz.func160 rfl (by kernel_rfl) Tryz.ntmps160 rfl fun w0 F0 => .cv (Cv.wk (.l [0, 1] rfl)) (.fact (Has.okZ (Has.t (t := 0) rfl)) fun okz0 => .fact (Has.okZ (Has.t (t := 1) rfl)) fun okz1 => .seq fun _ k1 => .region (.box (.t rfl) rfl fun b1 => .box (.t rfl) rfl fun b2 => .alloc [isB false, SlM isU []] zero31 (fun _ _ => ⟨rfl, nilM _ _, trivial⟩) rfl fun b3 => st (.as (.cB false)) rfl (nl (.thn (k1 _ _ (.seq fun _ k2 => .seq fun _ k3 => .region (st (.load (.t rfl) (i := 1) rfl ty31 rfl (Ss' := [_, _]) rfl) rfl (st (.call (zint_Sign (by first | with_reducible assumption | omega | (simp only [val_words, zv_nf]; omega) | (simp only [val_words, zv_nf, Int.natAbs_natCast]; omega) | (simp only [val_words]; exact Nat.le_trans (nw_small' (by omega)) (by decide)))) (.cons (.t rfl) .nil)) rfl ?_))))))))
 refine st (.leI (.t rfl) (.cI 0 rfl)) rfl (nl (.thn (k3 _ _ (.cond (.t rfl) (fun hc1 => ?_) (fun hc1 => ?_)))))
 ·have hc1 := BP.t hc1
  have hN : ¬ 0 < zv n ys := fun e => by have := (sgn_pos _).2 e; omega
  refine .seq fun _ k4 => .region (st (.eq (.build [isB false, SlM isU []] pl31 zero31 (fun _ _ => ⟨rfl, nilM _ _, trivial⟩) .nil (Z'' := [_, _]) rfl) (isZ0)) rfl (.store (.t rfl) (.t rfl) (i := 0) rfl ty31 rfl rfl (Ss' := [_, _]) rfl (M' := [(some _, cellM [_, _]), _, _]) rfl (st (.as (.cB false)) rfl (nl (.thn (k4 _ _ (.cv (Cv.wk (.l [2, 3, 4, 5] rfl)) (.ret (.thr (rtN (.inl rfl) Tryz.results160 rfl rfl (.cell rfl (i := 0) rfl ty31 rfl ?_ (.tmp (Has.t' rfl ?_) .nil))))))))))))
  ·exact isZ_eq (if_neg hN).symm
  ·exact isB_eq (decide_eq_false hN).symm
 ·have hc1 := BP.f hc1
  have hP : 0 < zv n ys := (sgn_pos _).1 (by omega)
  refine .skip (.thn (k2 _ _ (.cv (Cv.wk (.l [2, 3, 4, 5] rfl)) (.seq fun _ k5 => .region (st (.load (.t rfl) (i := 2) rfl ty31 rfl (Ss' := [_, _]) rfl) rfl (st (.load (.t rfl) (i := 1) rfl ty31 rfl (Ss' := [_, _]) rfl) rfl (st (.call (zint_Euclid (by first | with_reducible assumption | omega | (simp only [val_words, zv_nf]; omega) | (simp only [val_words, zv_nf, Int.natAbs_natCast]; omega) | (simp only [val_words]; exact Nat.le_trans (nw_small' (by omega)) (by decide))) (by first | with_reducible assumption | omega | (simp only [val_words, zv_nf]; omega) | (simp only [val_words, zv_nf, Int.natAbs_natCast]; omega) | (simp only [val_words]; exact Nat.le_trans (nw_small' (by omega)) (by decide)))) (.cons (.t rfl) (.cons (.t rfl) .nil))) rfl ?_)))))))
  refine st (.mv (.t rfl)) rfl (st (.ext (.t rfl) rfl) rfl (st (.ext (.t rfl) rfl) rfl (st (.ext (.t rfl) rfl) rfl (.alloc [isB false, SlM isU []] zero31 (fun _ _ => ⟨rfl, nilM _ _, trivial⟩) rfl fun b4 => .alloc [isB false, SlM isU []] zero31 (fun _ _ => ⟨rfl, nilM _ _, trivial⟩) rfl fun b5 => .store (.t rfl) (.t rfl) (i := 1) rfl ty31 rfl rfl (Ss' := [_, _]) rfl (M' := [_, (some _, cellM [_, _]), _, _, _]) rfl (.store (.t rfl) (.t rfl) (i := 0) rfl ty31 rfl rfl (Ss' := [_, _]) rfl (M' := [(some _, cellM [_, _]), _, _, _, _]) rfl (st (.as (.t rfl)) rfl (nl (.thn (k5 _ _ (.cv (Cv.wk (.l [4, 5, 7, 8] rfl)) (.seq fun _ k6 => .region (st (.load (.t rfl) (i := 0) rfl ty31 rfl (Ss' := [_, _]) rfl) rfl (st (.mv (.t rfl)) rfl (.store (.t rfl) (.t rfl) (i := 2) rfl ty31 rfl rfl (Ss' := [_, _]) rfl (M' := [_, _, (some _, cellM [_, _]), _, _]) rfl (st (.as (.t rfl)) rfl (nl (.thn (k6 _ _ (.ret (rtN (.inl rfl) Tryz.results160 rfl rfl (.cell rfl (i := 2) rfl ty31 rfl ?_ (.tmp (Has.t' rfl ?_) .nil))))))))))))))))))))))
  ·exact isZ_eq (by rw [if_neg (by omega), if_pos hP])
  ·exact isB_eq (decide_eq_decide.2 ⟨fun _ => hP, fun _ => by omega⟩)
end Go.Proofs.YthkdmhaafanjlaaGreat
namespace Go.Proofs.YthkdmhaafanjlaaGreat
open Go.En Go.RowKit
set_option maxRecDepth 10000
set_option maxHeartbeats 4000000
open Go.Nt
open Go.Pz
open Go.Mz
theorem zmat_side {n : Int} : Ctr Tryz.prog 76 [isI n] (isB (decide (0 ≤ n) && decide (n ≤ 64))) := by
 refine Ctr.intro Tryz.func76 rfl (by kernel_rfl) Tryz.ntmps76 rfl fun w0 F0 => .cv (Cv.wk (.l [0] rfl)) (.fact (Has.rngI (Has.t (t := 0) rfl)) fun lt0 => .seq fun _ k1 => .region (st (.as (.cB false)) rfl (nl (.thn (k1 _ _ (.seq fun _ k2 => .region (st (.mv (.t rfl)) rfl (st (.geI (.t rfl) (.cI 0 rfl)) rfl (st (.mv (.t rfl)) rfl ?_)))))))))
 refine stT rfl rfl (fun hg => have hg' := BP.t hg; OK1.mv (.t rfl)) rfl ?_
 refine stT rfl rfl (fun hg => have hg' := BP.t hg; OK1.leI (Has.g rfl hg) (.cI 64 rfl)) rfl ?_
 refine st (.pickAnd (.t rfl) (fun h => Has.g rfl h)) rfl (st (.as (.t rfl)) rfl (nl (.thn (k2 _ _ (.cv (Cv.wk (.l [2] rfl)) (.ret (rt1 (.inl rfl) Tryz.results76 rfl (.tmp (Has.t' rfl ?_) .nil))))))))
 all_goals (rfl)
theorem zmat_Formed {r c : Int} {xs : List (Bool × List Nat)} : Ctr Tryz.prog 71 [isM r c xs] (isB (formB r c xs.length)) := by
 refine Ctr.intro Tryz.func71 rfl (by kernel_rfl) Tryz.ntmps71 rfl fun w0 F0 => .cv (Cv.wk (.l [0] rfl)) (.seq fun _ k1 => .region (.box (.t rfl) rfl fun b1 => st (.as (.cB false)) rfl (nl (.thn (k1 _ _ (.seq fun _ k2 => .region (st (.fieldAddr (.t rfl) fld24_0 ty3) rfl (st (.load1 (.t rfl) (i := 0) rfl ty3 rfl) rfl (st (.call (zmat_side) (.cons (.t rfl) .nil)) rfl (st (.mv (.t rfl)) rfl ?_))))))))))
 refine stT rfl rfl (fun hg => have hg' := BP.t hg; OK1.fieldAddr (.t rfl) fld24_1 ty3) rfl ?_
 refine stT rfl rfl (fun hg => have hg' := BP.t hg; OK1.load1 (Has.g rfl hg) (i := 0) rfl ty3 rfl) rfl ?_
 refine stT rfl rfl (fun hg => have hg' := BP.t hg; OK1.call (zmat_side) (.cons (Has.g rfl hg) .nil)) rfl ?_
 refine st (.pickAnd (.t rfl) (fun h => Has.g rfl h)) rfl (st (.mv (.t rfl)) rfl ?_)
 refine stT rfl rfl (fun hg => have hg' := BP.t hg; OK1.fieldAddr (.t rfl) fld24_2 ty22) rfl ?_
 refine stT rfl rfl (fun hg => have hg' := BP.t hg; OK1.load1 (Has.g rfl hg) (i := 0) rfl ty22 rfl) rfl ?_
 refine stT rfl rfl (fun hg => have hg' := BP.t hg; OK1.len sl22 (Has.g rfl hg)) rfl ?_
 refine stT rfl rfl (fun hg => have hg' := BP.t hg; OK1.fieldAddr (.t rfl) fld24_0 ty3) rfl ?_
 refine stT rfl rfl (fun hg => have hg' := BP.t hg; OK1.load1 (Has.g rfl hg) (i := 0) rfl ty3 rfl) rfl ?_
 refine stT rfl rfl (fun hg => have hg' := BP.t hg; OK1.fieldAddr (.t rfl) fld24_1 ty3) rfl ?_
 refine stT rfl rfl (fun hg => have hg' := BP.t hg; OK1.load1 (Has.g rfl hg) (i := 0) rfl ty3 rfl) rfl ?_
 refine stT rfl rfl (fun hg => have hg' := BP.t hg; OK1.mulI (Has.g rfl hg) (Has.g rfl hg) (by have := mul_bnd ⟨hg'.1, hg'.2⟩; omega) (by have := mul_bnd ⟨hg'.1, hg'.2⟩; omega)) rfl ?_
 refine stT rfl rfl (fun hg => have hg' := BP.t hg; OK1.eqI (Has.g rfl hg) (Has.g rfl hg)) rfl ?_
 refine st (.pickAnd (.t rfl) (fun h => Has.g rfl h)) rfl (st (.as (.t rfl)) rfl (nl (.thn (k2 _ _ (.cv (Cv.wk (.l [2] rfl)) (.ret (rt1 (.inl rfl) Tryz.results71 rfl (.tmp (Has.t' rfl ?_) .nil))))))))
 all_goals (rfl)
theorem zmat_get {r : Int} {C i k : Nat} {xs : List (Bool × List Nat)} (hx : xs.length ≤ 4096) (hl : i * C + k < xs.length) : Ctr Tryz.prog 79 [isM r (C : Int) xs, isI (i : Int), isI (k : Int)] (Flat (zc (xs.getD (i * C + k) (false, [])))) := by
 refine Ctr.intro Tryz.func79 rfl (by kernel_rfl) Tryz.ntmps79 rfl fun w0 F0 => .cv (Cv.wk (.l [0, 1, 2] rfl)) (.fact (Has.rngI (Has.t (t := 1) rfl)) fun lt1 => .fact (Has.rngI (Has.t (t := 2) rfl)) fun lt2 => ?_)
 have hcp : ((i : Int) * (C : Int)) = ((i * C : Nat) : Int) := (Int.natCast_mul i C).symm
 refine .seq fun _ k1 => .region (.box (.t rfl) rfl fun b1 => .alloc [isB false, SlM isU []] zero31 (fun _ _ => ⟨rfl, nilM _ _, trivial⟩) rfl fun b2 => nl (.thn (k1 _ _ (.seq fun _ k2 => .region (st (.fieldAddr (.t rfl) fld24_2 ty22) rfl (st (.load1 (.t rfl) (i := 1) rfl ty22 rfl) rfl (st (.mv (.t rfl)) rfl (st (.fieldAddr (.t rfl) fld24_1 ty3) rfl (st (.load1 (.t rfl) (i := 1) rfl ty3 rfl) rfl (st (.eq (.mulI (.t rfl) (.t rfl) (by first | omega | (rw [hcp]; omega)) (by first | omega | (rw [hcp]; omega))) ((show isI _ = isI ((i * C : Nat) : Int) from isI_eq hcp))) rfl ?_))))))))))
 refine st (.mv (.t rfl)) rfl (st (.eq (.addI (.t rfl) (.t rfl) (by first | omega | (rw [hcp]; omega)) (by first | omega | (rw [hcp]; omega))) ((show isI _ = isI ((i * C + k : Nat) : Int) from isI_eq (by omega)))) rfl ?_)
 refine st (.ixK sl22 ty31 (.t rfl) (.t rfl) zc_len ⟨by omega, by omega⟩ (getD_some (d := (false, [])) (by first | omega | (simp only [Int.toNat_natCast, List.length_set]; omega)))) rfl ?_
 refine st (.loadP (.t rfl) ty31 rfl (Ss' := [_, _]) rfl) rfl (.store (.t rfl) (.t rfl) (i := 0) rfl ty31 rfl rfl (Ss' := [_, _]) rfl (M' := [(some _, cellM [_, _]), _]) rfl (nl (.thn (k2 _ _ (.cv (Cv.wk (.l [6] rfl)) (.ret (rt1 (.inl rfl) Tryz.results79 rfl (.cell rfl (i := 0) rfl ty31 rfl ?_ .nil))))))))
 all_goals (rfl)
theorem zmat_has {r c i : Int} {xs : List (Bool × List Nat)} : Ctr Tryz.prog 111 [isM r c xs, isI i] (isB (decide (0 ≤ i) && decide (i < r))) := by
 refine Ctr.intro Tryz.func111 rfl (by kernel_rfl) Tryz.ntmps111 rfl fun w0 F0 => .cv (Cv.wk (.l [0, 1] rfl)) (.fact (Has.rngI (Has.t (t := 1) rfl)) fun lt1 => .seq fun _ k1 => .region (.box (.t rfl) rfl fun b1 => st (.as (.cB false)) rfl (nl (.thn (k1 _ _ (.seq fun _ k2 => .region (st (.mv (.t rfl)) rfl (st (.geI (.t rfl) (.cI 0 rfl)) rfl (st (.mv (.t rfl)) rfl ?_)))))))))
 refine stT rfl rfl (fun hg => have hg' := BP.t hg; OK1.mv (.t rfl)) rfl ?_
 refine stT rfl rfl (fun hg => have hg' := BP.t hg; OK1.fieldAddr (.t rfl) fld24_0 ty3) rfl ?_
 refine stT rfl rfl (fun hg => have hg' := BP.t hg; OK1.load1 (Has.g rfl hg) (i := 0) rfl ty3 rfl) rfl ?_
 refine stT rfl rfl (fun hg => have hg' := BP.t hg; OK1.ltI (Has.g rfl hg) (Has.g rfl hg)) rfl ?_
 refine st (.pickAnd (.t rfl) (fun h => Has.g rfl h)) rfl (st (.as (.t rfl)) rfl (nl (.thn (k2 _ _ (.cv (Cv.wk (.l [4] rfl)) (.ret (rt1 (.inl rfl) Tryz.results111 rfl (.tmp (Has.t' rfl ?_) .nil))))))))
 all_goals (rfl)
theorem zmat_made {R C : Nat} {f : Nat → Nat → Bool × List Nat} (hR : R ≤ 64) (hC : C ≤ 64) (hf : ∀ i k, i < R → k < C → (List.length (words (val (f i k).2))) ≤ 4294967296) : Ctr Tryz.prog 77 [isI (R : Int), isI (C : Int), isAt Tryz.prog R C f] (isMz R C (tab (R * C) C fun i k => zv (f i k).1 (f i k).2)) := by
 refine Ctr.intro Tryz.func77 rfl (by kernel_rfl) Tryz.ntmps77 rfl fun w0 F0 => .cv (Cv.wk (.l [0, 1, 2] rfl)) (.fact (Has.rngI (Has.t (t := 0) rfl)) fun lt0 => .fact (Has.rngI (Has.t (t := 1) rfl)) fun lt1 => ?_)
 have hRC := side_le hR hC
 obtain ⟨G, hG⟩ : ∃ G : Nat → Nat → Int, G = fun i k => zv (f i k).1 (f i k).2 := ⟨_, rfl⟩
 rw [← hG]
 refine .seq fun _ k1 => .region (.alloc [isI 0, isI 0, nilS] zero24 (fun _ _ => ⟨⟨rfl, by decide, by decide⟩, ⟨rfl, by decide, by decide⟩, rfl, trivial⟩) rfl fun b1 => nl (.thn (k1 _ _ (.seq fun _ k2 => .region (st (.mv (.t rfl)) rfl (st (.mv (.t rfl)) rfl (st (.build [isI 0, isI 0, nilS] pl24 zero24 (fun _ _ => ⟨⟨rfl, by decide, by decide⟩, ⟨rfl, by decide, by decide⟩, rfl, trivial⟩) (.cons (.t rfl) rfl rfl rfl (.cons (.t rfl) rfl rfl rfl .nil)) (Z'' := [_, _, _]) rfl) rfl (.alloc [isI 0, isI 0, nilS] zero24 (fun _ _ => ⟨⟨rfl, by decide, by decide⟩, ⟨rfl, by decide, by decide⟩, rfl, trivial⟩) rfl fun b2 => .store (.t rfl) (.t rfl) (i := 0) rfl ty24 rfl rfl (Ss' := [_, _, _]) rfl (M' := [(some _, cellM [_, _, _]), _]) rfl (nl (.thn (k2 _ _ (.seq fun _ k3 => .seq fun _ k4 => .cv (Cv.growF (Bool × List Nat) (i := 0) (o := 2) rfl rfl rfl) (.memEq (M' := [grMK zc Gr.nil [], _, _]) rfl (.region (st (.mv (.t rfl)) rfl (st (.mv (.cI 0 rfl)) rfl (nl (.thn (k4 _ _ (.block (.loopF [1, 2, 6, 7, 14] (fun (z : { z : Nat × Gr (Bool × List Nat) // z.1 ≤ R }) => match z with | ⟨(i, g), hI⟩ => [(15, isI (i : Int))]) (fun M => fun (z : { z : Nat × Gr (Bool × List Nat) // z.1 ≤ R }) => match z with | ⟨(i, g), hI⟩ => [grMK zc g ((tab (i * C + 0) C G).map nz), (some b2, cellM [isI (R : Int), isI (C : Int), isGr g ((tab (i * C + 0) C G).map nz).length]), (some b1, cellM [isI 0, isI 0, nilS])]) (fun (z : { z : Nat × Gr (Bool × List Nat) // z.1 ≤ R }) => match z with | ⟨(i, g), hI⟩ => R - i) (⟨(0, Gr.nil), Nat.zero_le _⟩) (Cv.mem (.c 15 rfl ?_ (.l [1, 2, 6, 7, 14] rfl)) ?_) ?_)))))))))))))))))))))
 ·rfl
 ·exact grF_eq (n := 0) (ys := []) (by rw [List.length_map, tab_len, Nat.zero_mul]) (show [] = (tab (0 * C + 0) C G).map nz by rw [Nat.zero_mul]; rfl)
 rintro ⟨⟨i, g⟩, hI⟩ K5 hK5
 refine .cv (Cv.wk (.l [15, 1, 2, 6, 7, 14] rfl)) (.memEq (M' := [grMK zc g ((tab (i * C + 0) C G).map nz), (some b2, cellM [isI (R : Int), isI (C : Int), isGr g ((tab (i * C + 0) C G).map nz).length]), (some b1, cellM [isI 0, isI 0, nilS])]) rfl ?_)
 simp only [] at hI
 refine .seq fun _ k6 => .region (st (.ltI (.t rfl) (.t rfl)) rfl (nl (.thn (k6 _ _ (.seq fun _ k7 => .cond (.t rfl) (fun hc1 => ?_) (fun hc1 => ?_))))))
 ·have hc1 := BP.t hc1
  refine .skip (.thn (k7 _ _ (.seq fun _ k8 => .block (.seq fun _ k9 => .region (st (.mv (.t rfl)) rfl (st (.as (.t rfl)) rfl (nl (.thn (k9 _ _ (.seq fun _ k10 => .region (st (.mv (.t rfl)) rfl (st (.mv (.cI 0 rfl)) rfl (nl (.thn (k10 _ _ (.block (.loopF [1, 2, 6, 7, 14, 15, 16, 17, 8, 18] (fun (z : { z : Nat × Gr (Bool × List Nat) // z.1 ≤ C }) => match z with | ⟨(k, g2), hK⟩ => [(19, isI (k : Int))]) (fun M => fun (z : { z : Nat × Gr (Bool × List Nat) // z.1 ≤ C }) => match z with | ⟨(k, g2), hK⟩ => [grMK zc g2 ((tab (i * C + k) C G).map nz), (some b2, cellM [isI (R : Int), isI (C : Int), isGr g2 ((tab (i * C + k) C G).map nz).length]), (some b1, cellM [isI 0, isI 0, nilS])]) (fun (z : { z : Nat × Gr (Bool × List Nat) // z.1 ≤ C }) => match z with | ⟨(k, g2), hK⟩ => C - k) (⟨(0, g), Nat.zero_le _⟩) (Cv.mem (.c 19 rfl ?_ (.l [1, 2, 6, 7, 14, 15, 16, 17, 8, 18] rfl)) ?_) ?_)))))))))))))))))
  ·rfl
  ·rfl
  rintro ⟨⟨k, g2⟩, hK⟩ K11 hK11
  refine .cv (Cv.wk (.l [19, 1, 2, 6, 7, 14, 15, 16, 17, 8, 18] rfl)) (.memEq (M' := [grMK zc g2 ((tab (i * C + k) C G).map nz), (some b2, cellM [isI (R : Int), isI (C : Int), isGr g2 ((tab (i * C + k) C G).map nz).length]), (some b1, cellM [isI 0, isI 0, nilS])]) rfl ?_)
  simp only [] at hK
  refine .seq fun _ k12 => .region (st (.ltI (.t rfl) (.t rfl)) rfl (nl (.thn (k12 _ _ (.seq fun _ k13 => .cond (.t rfl) (fun hc2 => ?_) (fun hc2 => ?_))))))
  ·have hc2 := BP.t hc2
   refine .skip (.thn (k13 _ _ (.seq fun _ k14 => .block (.seq fun _ k15 => .region (st (.mv (.t rfl)) rfl (st (.as (.t rfl)) rfl (nl (.thn (k15 _ _ (.seq fun _ k16 => .region (st (.mv (.t rfl)) rfl (st (.mv (.t rfl)) rfl (st (.mv (.t rfl)) rfl (st (.callV ⟨(i, k), by omega, by omega⟩ (.t rfl) (.cons (.t rfl) (.cons (.t rfl) .nil))) rfl (.alloc [isB false, SlM isU []] zero31 (fun _ _ => ⟨rfl, nilM _ _, trivial⟩) rfl fun b3 => .store (.t rfl) (.t rfl) (i := 0) rfl ty31 rfl rfl (Ss' := [_, _]) rfl (M' := [(some _, cellM [_, _]), _, _, _]) rfl (nl (.thn (k16 _ _ (.dr (.s [] rfl rfl rfl (.o rfl (.fieldAddr (.t rfl) fld24_2 ty22)) (.s [26] rfl rfl rfl (.o rfl (.load1 (.t rfl) (i := 2) rfl ty22 rfl)) (.s [] rfl rfl rfl (.o rfl (.fieldAddr (.t rfl) fld31_1 ty29)) (.s [28] rfl rfl rfl (.o rfl (.load1 (.t rfl) (i := 0) rfl ty29 rfl)) (.s [] rfl rfl rfl (.o rfl (.fieldAddr (.t rfl) fld31_0 ty4)) (.s [30] rfl rfl rfl (.o rfl (.load1 (.t rfl) (i := 0) rfl ty4 rfl)) (.s [29, 31] rfl rfl rfl (.o rfl (.eq (.call (zint_From (hf i k (by omega) (by omega))) (.cons (.t rfl) (.cons (.t rfl) .nil))) ((show isZ _ = Flat (zc (nz (G i k))) from isZ_eq (by rw [hG]))))) (.s [32] rfl rfl rfl (.o rfl (.buildS [isB false, SlM isU []] sl22 ty31 zero31 (fun _ _ => ⟨rfl, nilM _ _, trivial⟩) rfl rfl (.cons (.t rfl) rfl rfl rfl .nil) rfl (S := SlK 2 zc [nz (G i k)]) rfl)) (.fin (n := 8) mixed (by kernel_rfl) (by kernel_rfl) (by kernel_rfl) (.cv (Cv.wk (.l [1, 2, 6, 7, 14, 15, 16, 17, 8, 18, 19, 20, 21, 9, 22, 23, 24, 25, 10, 26, 27, 28, 29, 30, 31, 32, 33] rfl)) (.appendGK (fk := zc) (u := (false, [])) zc_len (by decide) (fun _ => inferInstance) sl22 ty31 zero31 (fun _ _ => ⟨rfl, nilM _ _, trivial⟩) by31 (.t rfl) (i := 1) rfl (.t rfl) (by have hpl := place_lt (show i < R by omega) (show k < C by omega); rw [List.length_map, tab_len]; show i * C + k + 1 ≤ _; omega) (by simp) rfl fun gr1 => ?_))))))))))))))))))))))))))))))
   refine .memEq (M' := [_, grMK _ _ _, _, _]) rfl (st (.fieldAddr (.t rfl) fld24_2 ty22) rfl (.store (.t rfl) (.t rfl) (i := 2) rfl ty22 rfl rfl (Ss' := [_, _, _]) rfl (M' := [_, _, (some _, cellM [_, _, _]), _]) rfl (nl (.bln (.thn (k14 _ _ (.region (st (.addI (.t rfl) (.cI 1 rfl) (by first | omega | assumption) (by first | omega | assumption)) rfl (st (.mv (.t rfl)) rfl (nl (.thn ?_)))))))))))
   have hpl := place_lt (show i < R by omega) (show k < C by omega)
   refine hK11 (⟨(k + 1, gr1), by show k + 1 ≤ C; omega⟩) _ _ ?_ (Cv.trans (Cv.drop ((.cons _ (.cons_cons _ (.cons_cons _ (.cons_cons _ .slnil)))))) (Cv.mem (.c 19 rfl ?_ (.l [1, 2, 6, 7, 14, 15, 16, 17, 8, 18] rfl)) ?_))
   ·show C - (k + 1) < C - k; omega
   ·exact isI_eq (by omega)
   ·exact grF_eq (by rw [← tab_succ G (show k < C by omega), List.map_append, List.length_append]; rfl) (by rw [← tab_succ G (show k < C by omega), List.map_append]; rfl)
  ·have hc2 := BP.f hc2
   refine .exit (.the (.the (.blh (.bln (.thn (k8 _ _ (.region (st (.addI (.t rfl) (.cI 1 rfl) (by first | omega | assumption) (by first | omega | assumption)) rfl (st (.mv (.t rfl)) rfl (nl (.thn ?_)))))))))))
   have hkC : k = C := by omega
   subst hkC
   refine hK5 (⟨(i + 1, g2), by show i + 1 ≤ R; omega⟩) _ _ ?_ (Cv.mem (.c 15 rfl ?_ (.l [1, 2, 6, 7, 14] rfl)) ?_)
   ·show R - (i + 1) < R - i; omega
   ·exact isI_eq (by omega)
   ·exact grF_eq (by rw [tab_next]) (by rw [tab_next])
 ·have hc1 := BP.f hc1
  refine .exit (.the (.the (.blh (.thn (k3 _ _ (.cv (Cv.wk (.l [6, 7] rfl)) (.seq fun _ k17 => .cv (Cv.freezeF (k := 2) (i := 0) (j := 0) (o := 2) rfl rfl rfl rfl (gr_lenK zc_len) (gr_takeK zc_len) (Ss' := [_, _, SlK 2 zc ((tab (i * C + 0) C G).map nz)]) rfl) (.memEq (M' := [(some _, cellM [_, _, SlK 2 zc ((tab (i * C + 0) C G).map nz)]), _]) rfl (.cv (Cv.wk (.l [6, 7] rfl)) (.region (st (.load (.t rfl) (i := 0) rfl ty24 rfl (Ss' := [_, _, _]) rfl) rfl (.store (.t rfl) (.t rfl) (i := 1) rfl ty24 rfl rfl (Ss' := [_, _, _]) rfl (M' := [_, (some _, cellM [_, _, _])]) rfl (nl (.thn (k17 _ _ (.ret (rt1 (.inl rfl) Tryz.results77 rfl (.cell rfl (i := 1) rfl ty24 rfl ?_ .nil))))))))))))))))))
  all_goals (rw [Nat.add_zero, show i = R by omega])
theorem zmat_Of_1 {C i k : Nat} {l : List Int} (hx : l.length ≤ 4096) (hl : i * C + k < l.length) : Ctr Tryz.prog 146 [isI (i : Int), isI (k : Int), PtrL [SlM isI l], PtrL [isI (C : Int)]] (isZ (cf l (i * C + k))) := by
 refine Ctr.intro Tryz.func146 rfl (by kernel_rfl) Tryz.ntmps146 rfl fun w0 F0 => .cv (Cv.wk (.l [0, 1, 2, 3] rfl)) (.fact (Has.rngI (Has.t (t := 0) rfl)) fun lt0 => .fact (Has.rngI (Has.t (t := 1) rfl)) fun lt1 => ?_)
 have hcp : ((i : Int) * (C : Int)) = ((i * C : Nat) : Int) := (Int.natCast_mul i C).symm
 refine .seq fun _ k1 => .region (.alloc [isB false, SlM isU []] zero31 (fun _ _ => ⟨rfl, nilM _ _, trivial⟩) rfl fun b1 => nl (.thn (k1 _ _ (.seq fun _ k2 => .region (st (.loadP1 (.t rfl) ty174) rfl (st (.mv (.t rfl)) rfl (st (.loadP1 (.t rfl) ty3) rfl (st (.eq (.mulI (.t rfl) (.t rfl) (by first | omega | (rw [hcp]; omega)) (by first | omega | (rw [hcp]; omega))) ((show isI _ = isI ((i * C : Nat) : Int) from isI_eq hcp))) rfl ?_))))))))
 refine st (.mv (.t rfl)) rfl (st (.eq (.addI (.t rfl) (.t rfl) (by first | omega | (rw [hcp]; omega)) (by first | omega | (rw [hcp]; omega))) ((show isI _ = isI ((i * C + k : Nat) : Int) from isI_eq (by omega)))) rfl ?_)
 refine st (.ixP sl174 ty2 (.t rfl) (.t rfl) ⟨by omega, by omega⟩ (getD_some (d := 0) (by first | omega | (simp only [Int.toNat_natCast, List.length_set]; omega)))) rfl ?_
 refine st (.loadP1 (.t rfl) ty2) rfl (st (.call (zint_Of) (.cons (.t rfl) .nil)) rfl (.store (.t rfl) (.t rfl) (i := 0) rfl ty31 rfl rfl (Ss' := [_, _]) rfl (M' := [(some _, cellM [_, _])]) rfl (nl (.thn (k2 _ _ (.cv (Cv.wk (.l [6] rfl)) (.ret (rt1 (.inl rfl) Tryz.results146 rfl (.cell rfl (i := 0) rfl ty31 rfl ?_ .nil)))))))))
 all_goals (rfl)
theorem zmat_Of {R C : Nat} {l : List Int} (hR : R ≤ 64) (hC : C ≤ 64) (hl : l.length = R * C) (hb : ∀ y ∈ l, -9223372036854775808 ≤ y ∧ y < 9223372036854775808) : Ctr Tryz.prog 68 [isI (R : Int), isI (C : Int), SlM isI l] (isTup [isMz R C (tab (R * C) C fun i k => cf l (i * C + k)), isI 0]) := by
 refine Ctr.intro Tryz.func68 rfl (by kernel_rfl) Tryz.ntmps68 rfl fun w0 F0 => .cv (Cv.wk (.l [0, 1, 2] rfl)) (.fact (Has.rngI (Has.t (t := 0) rfl)) fun lt0 => .fact (Has.rngI (Has.t (t := 1) rfl)) fun lt1 => .fact (Has.lenLt (Has.t (t := 2) rfl)) fun lt2 => ?_)
 have hRC := side_le hR hC
 have hcp : ((R : Int) * (C : Int)) = ((R * C : Nat) : Int) := (Int.natCast_mul R C).symm
 refine .seq fun _ k1 => .region (.box (.t rfl) rfl fun b1 => .box (.t rfl) rfl fun b2 => .alloc [isI 0, isI 0, nilS] zero24 (fun _ _ => ⟨⟨rfl, by decide, by decide⟩, ⟨rfl, by decide, by decide⟩, rfl, trivial⟩) rfl fun b3 => st (.as (.cI 0 rfl)) rfl (nl (.thn (k1 _ _ (.seq fun _ k2 => .block (.seq fun _ k3 => .region (st (.mv (.t rfl)) rfl (st (.call (zmat_side) (.cons (.t rfl) .nil)) rfl (st (.not (.t rfl)) rfl (st (.mv (.t rfl)) rfl ?_))))))))))
 refine stF rfl rfl (fun hg => have hg' := BP.t hg; OK1.load1 (.t rfl) (i := 2) rfl ty3 rfl) rfl ?_
 refine stF rfl rfl (fun hg => have hg' := BP.t hg; OK1.call (zmat_side) (.cons (Has.g rfl hg) .nil)) rfl ?_
 refine stF rfl rfl (fun hg => have hg' := BP.t hg; OK1.not (Has.g rfl hg)) rfl ?_
 refine st (.pickOr (.t rfl) (fun h => Has.g rfl (ng h))) rfl (st (.as (.t rfl)) rfl (nl (.thn (k3 _ _ (.cv (Cv.wk (.l [0, 4, 5, 6, 7, 8] rfl)) (.cond (.t rfl) (fun hc1 => ?_) (fun hc1 => ?_)))))))
 ·have hc1 := BP.t hc1
  omega
 ·have hc1 := BP.f hc1
  refine .seq fun _ k4 => .region (st (.load1 (.t rfl) (i := 1) rfl ty174 rfl) rfl (st (.len sl174 (.t rfl)) rfl (st (.mv (.t rfl)) rfl (st (.load1 (.t rfl) (i := 2) rfl ty3 rfl) rfl (st (.mulI (.t rfl) (.t rfl) (by rw [hcp]; omega) (by rw [hcp]; omega)) rfl ?_)))))
  refine st (.neI (.t rfl) (.t rfl)) rfl (st (.as (.t rfl)) rfl (nl (.thn (k4 _ _ (.cv (Cv.wk (.l [0, 4, 5, 6, 7, 18] rfl)) (.cond (.t rfl) (fun hc2 => ?_) (fun hc2 => ?_)))))))
  ·have hc2 := BP.t hc2
   rw [hcp] at hc2; omega
  ·have hc2 := BP.f hc2
   refine .skip (.bln (.thn (k2 _ _ (.seq fun _ k5 => .region (st (.mv (.t rfl)) rfl (st (.load1 (.t rfl) (i := 2) rfl ty3 rfl) rfl (.cv (Cv.freezeBox (t := 5) (i := 1) rfl rfl rfl) (.memEq (M' := [_, _]) rfl (.cv (Cv.wk (.l [0, 4, 5, 6, 7, 18, 26, 27] rfl)) (.cv (Cv.freezeBox (t := 4) (i := 1) rfl rfl rfl) (.memEq (M' := [_]) rfl (.cv (Cv.wk (.l [0, 4, 5, 6, 7, 18, 26, 27] rfl)) (st (.makeFn (ι := PI R C) (As := fun p => [isI (p.1.1 : Int), isI (p.1.2 : Int)]) (R := fun p => Flat (zc (nz (cf l (p.1.1 * C + p.1.2))))) (fun p => zmat_Of_1 (by omega) (by rw [hl]; exact place_lt p.2.1 p.2.2)) .nil (.cons (.t rfl) (.cons (.t rfl) .nil))) rfl ?_)))))))))))))
   refine st (.call (zmat_made (f := fun i k => nz (cf l (i * C + k))) hR hC (fun i k _ _ => by rw [val_words]; exact Nat.le_trans (bd64 hb _) (by decide))) (.cons (.t rfl) (.cons (.t rfl) (.cons (.t rfl) .nil)))) rfl ?_
   refine .store (.t rfl) (.t rfl) (i := 0) rfl ty24 rfl rfl (Ss' := [_, _, _]) rfl (M' := [(some _, cellM [_, _, _])]) rfl (st (.as (.cI 0 rfl)) rfl (nl (.thn (k5 _ _ (.cv (Cv.wk (.l [6, 7] rfl)) (.ret (rtN (.inl rfl) Tryz.results68 rfl rfl (.cell rfl (i := 0) rfl ty24 rfl ?_ (.tmp (Has.t' rfl ?_) .nil)))))))))
   ·exact isMz_eq (by rw [zvz fun i k => cf l (i * C + k)])
   ·rfl
theorem zmat_At {R C i k : Nat} {xs : List (Bool × List Nat)} {K : Nat} (hx : Bd (vals xs) K) (hK : K ≤ 4000000000) (hR : R ≤ 64) (hC : C ≤ 64) (hl : xs.length = R * C) (hi : i < R) (hk : k < C) : Ctr Tryz.prog 37 [isM (R : Int) (C : Int) xs, isI (i : Int), isI (k : Int)] (isZ (cf (vals xs) (i * C + k))) := by
 refine Ctr.intro Tryz.func37 rfl (by kernel_rfl) Tryz.ntmps37 rfl fun w0 F0 => .cv (Cv.wk (.l [0, 1, 2] rfl)) (.fact (Has.rngI (Has.t (t := 1) rfl)) fun lt1 => .fact (Has.rngI (Has.t (t := 2) rfl)) fun lt2 => ?_)
 have hRC := side_le hR hC
 have hpl := place_lt hi hk
 have hfo := formB_true hR hC hl
 have hxr := hx.raw (i * C + k)
 refine .seq fun _ k1 => .region (.box (.t rfl) rfl fun b1 => .alloc [isB false, SlM isU []] zero31 (fun _ _ => ⟨rfl, nilM _ _, trivial⟩) rfl fun b2 => nl (.thn (k1 _ _ (.seq fun _ k2 => .seq fun _ k3 => .region (st (.load (.t rfl) (i := 1) rfl ty24 rfl (Ss' := [_, _, _]) rfl) rfl (st (.eq (.call (zmat_Formed) (.cons (.t rfl) .nil)) ((show isB _ = isB true from isB_eq hfo))) rfl (st (.not (.t rfl)) rfl (st (.mv (.t rfl)) rfl ?_))))))))
 refine stF rfl rfl (fun hg => have hg' := BP.t hg; OK1.load (.t rfl) (i := 1) rfl ty24 rfl (Ss' := [_, _, _]) rfl) rfl ?_
 refine stF rfl rfl (fun hg => have hg' := BP.t hg; OK1.mv (.t rfl)) rfl ?_
 refine stF rfl rfl (fun hg => have hg' := BP.t hg; OK1.call (zmat_has) (.cons (Has.g rfl hg) (.cons (Has.g rfl hg) .nil))) rfl ?_
 refine stF rfl rfl (fun hg => have hg' := BP.t hg; OK1.not (Has.g rfl hg)) rfl ?_
 refine st (.pickOr (.t rfl) (fun h => Has.g rfl (ng h))) rfl (st (.mv (.t rfl)) rfl ?_)
 refine stF rfl rfl (fun hg => have hg' := BP.t hg; OK1.mv (.t rfl)) rfl ?_
 refine stF rfl rfl (fun hg => have hg' := BP.t hg; OK1.ltI (Has.g rfl hg) (.cI 0 rfl)) rfl ?_
 refine st (.pickOr (.t rfl) (fun h => Has.g rfl (ng h))) rfl (st (.mv (.t rfl)) rfl ?_)
 refine stF rfl rfl (fun hg => have hg' := BP.t hg; OK1.mv (.t rfl)) rfl ?_
 refine stF rfl rfl (fun hg => have hg' := BP.t hg; OK1.fieldAddr (.t rfl) fld24_1 ty3) rfl ?_
 refine stF rfl rfl (fun hg => have hg' := BP.t hg; OK1.load1 (Has.g rfl hg) (i := 1) rfl ty3 rfl) rfl ?_
 refine stF rfl rfl (fun hg => have hg' := BP.t hg; OK1.geI (Has.g rfl hg) (Has.g rfl hg)) rfl ?_
 refine st (.pickOr (.t rfl) (fun h => Has.g rfl (ng h))) rfl (nl (.thn (k3 _ _ (.cv (Cv.wk (.l [1, 2, 3, 6, 26] rfl)) (.cond (.t rfl) (fun hc1 => ?_) (fun hc1 => ?_))))))
 ·have hc1 := BP.t hc1
  simp at hc1; omega
 ·have hc1 := BP.f hc1
  refine .skip (.thn (k2 _ _ (.seq fun _ k4 => .region (st (.load (.t rfl) (i := 1) rfl ty24 rfl (Ss' := [_, _, _]) rfl) rfl (st (.mv (.t rfl)) rfl (st (.mv (.t rfl)) rfl (st (.call (zmat_get (i := i) (k := k) (by omega) (by omega)) (.cons (.t rfl) (.cons (.t rfl) (.cons (.t rfl) .nil)))) rfl (.alloc [isB false, SlM isU []] zero31 (fun _ _ => ⟨rfl, nilM _ _, trivial⟩) rfl fun b3 => .store (.t rfl) (.t rfl) (i := 0) rfl ty31 rfl rfl (Ss' := [_, _]) rfl (M' := [(some _, cellM [_, _]), _, _]) rfl (nl (.thn (k4 _ _ (.cv (Cv.wk (.l [6, 7] rfl)) (.seq fun _ k5 => .region (st (.fieldAddr (.t rfl) fld31_1 ty29) rfl (st (.load1 (.t rfl) (i := 0) rfl ty29 rfl) rfl (st (.fieldAddr (.t rfl) fld31_0 ty4) rfl (st (.load1 (.t rfl) (i := 0) rfl ty4 rfl) rfl (st (.call (zint_From (by first | omega | assumption)) (.cons (.t rfl) (.cons (.t rfl) .nil))) rfl (.store (.t rfl) (.t rfl) (i := 1) rfl ty31 rfl rfl (Ss' := [_, _]) rfl (M' := [_, (some _, cellM [_, _]), _]) rfl (nl (.thn (k5 _ _ (.cv (Cv.wk (.l [6] rfl)) (.ret (rt1 (.inl rfl) Tryz.results37 rfl (.cell rfl (i := 1) rfl ty31 rfl ?_ .nil))))))))))))))))))))))))))
  all_goals (exact isZ_eq (by rw [cf_vals]))
end Go.Proofs.YthkdmhaafanjlaaGreat
namespace Go.Proofs.YthkdmhaafanjlaaGreat
open Go.En Go.RowKit
set_option maxRecDepth 10000
set_option maxHeartbeats 4000000
open Go.Nt
open Go.Pz
open Go.Mz
open Go.Hn
theorem zint_Floor {m n : Bool} {xs ys : List Nat} (hx : (List.length (words (val xs))) < 4294700000) (hy : (List.length (words (val ys))) < 4294700000) (hp : 0 < zv n ys) : Ctr Tryz.prog 206 [Flat [isB m, isWords xs], Flat [isB n, isWords ys]] (isTup [isZ (zv m xs / zv n ys), isZ (zv m xs % zv n ys), isB true]) := by
 refine Ctr.intro Tryz.func206 rfl (by kernel_rfl) Tryz.ntmps206 rfl fun w0 F0 => .cv (Cv.wk (.l [0, 1] rfl)) (.fact (Has.okZ (Has.t (t := 0) rfl)) fun okz0 => .fact (Has.okZ (Has.t (t := 1) rfl)) fun okz1 => ?_)
 have ha := nz_tdiv (zv m xs) (zv n ys)
 have hb := nz_if (zv m xs) (zv n ys)
 have hxx := zv_nw m xs
 have hyy := zv_nw n ys
 have h1 := nz_one
 have hs1 : sgn (zv n ys) = 1 := by rcases sgn_cases (zv n ys) with h | h | h <;> omega
 have hr := sgn_range (if zv n ys = 0 then 0 else (zv m xs).tmod (zv n ys))
 refine .seq fun _ k1 => .region (.box (.t rfl) rfl fun b1 => .box (.t rfl) rfl fun b2 => .alloc [isB false, SlM isU []] zero31 (fun _ _ => ⟨rfl, nilM _ _, trivial⟩) rfl fun b3 => .alloc [isB false, SlM isU []] zero31 (fun _ _ => ⟨rfl, nilM _ _, trivial⟩) rfl fun b4 => st (.as (.cB false)) rfl (nl (.thn (k1 _ _ (.seq fun _ k2 => .region (st (.load (.t rfl) (i := 3) rfl ty31 rfl (Ss' := [_, _]) rfl) rfl (st (.load (.t rfl) (i := 2) rfl ty31 rfl (Ss' := [_, _]) rfl) rfl (st (.call (zint_Quo (by first | with_reducible assumption | omega | (simp only [val_words, zv_nf]; omega) | (simp only [val_words]; exact Nat.le_trans (nw_small' (by omega)) (by decide))) (by first | with_reducible assumption | omega | (simp only [val_words, zv_nf]; omega) | (simp only [val_words]; exact Nat.le_trans (nw_small' (by omega)) (by decide)))) (.cons (.t rfl) (.cons (.t rfl) .nil))) rfl ?_))))))))
 refine st (.mv (.t rfl)) rfl (st (.ext (.t rfl) rfl) rfl (st (.ext (.t rfl) rfl) rfl (st (.ext (.t rfl) rfl) rfl (.alloc [isB false, SlM isU []] zero31 (fun _ _ => ⟨rfl, nilM _ _, trivial⟩) rfl fun b5 => .alloc [isB false, SlM isU []] zero31 (fun _ _ => ⟨rfl, nilM _ _, trivial⟩) rfl fun b6 => .store (.t rfl) (.t rfl) (i := 1) rfl ty31 rfl rfl (Ss' := [_, _]) rfl (M' := [_, (some _, cellM [_, _]), _, _, _, _]) rfl (.store (.t rfl) (.t rfl) (i := 0) rfl ty31 rfl rfl (Ss' := [_, _]) rfl (M' := [(some _, cellM [_, _]), _, _, _, _, _]) rfl (st (.as (.t rfl)) rfl (nl (.thn (k2 _ _ (.cv (Cv.wk (.l [3, 4, 5, 6, 7, 8, 9] rfl)) (.seq fun _ k3 => .seq fun _ k4 => .dr (.s [] rfl rfl rfl (.o rfl (.mv (.t rfl))) (.s [17] rfl rfl rfl (.o rfl (.mv (.t rfl))) ?_)))))))))))))
 refine .s [18] rfl rfl rfl (.T rfl rfl rfl (fun hg => have hg' := BP.t hg; OK1.load (.t rfl) (i := 0) rfl ty31 rfl (Ss' := [_, _]) rfl)) ?_
 refine .s [18, 19] rfl rfl rfl (.T rfl rfl rfl (fun hg => have hg' := BP.t hg; OK1.eq (.call (zint_Sign (by first | with_reducible assumption | omega | (simp only [val_words, zv_nf]; omega) | (simp only [val_words]; exact Nat.le_trans (nw_small' (by omega)) (by decide)))) (.cons (Has.g rfl hg) .nil)) (by first | (simp only [val_words, zv_nf]; rfl) | rfl))) ?_
 refine .s [18] rfl rfl rfl (.T rfl rfl rfl (fun hg => have hg' := BP.t hg; OK1.load (.t rfl) (i := 4) rfl ty31 rfl (Ss' := [_, _]) rfl)) ?_
 refine .fin (n := 5) mixed (by kernel_rfl) (by kernel_rfl) (by kernel_rfl) (.cv (Cv.wk (.l [3, 4, 5, 6, 7, 8, 9, 18, 20, 21] rfl)) ?_)
 refine stT rfl rfl (fun hg => have hg' := BP.t hg; OK1.eq (.call (zint_Sign (by first | with_reducible assumption | omega | (simp only [val_words, zv_nf]; omega) | (simp only [val_words]; exact Nat.le_trans (nw_small' (by omega)) (by decide)))) (.cons (Has.g rfl hg) .nil)) ((show isI _ = isI 1 from isI_eq hs1))) rfl ?_
 refine stT rfl rfl (fun hg => have hg' := BP.t hg; OK1.mulI (Has.g rfl hg) (Has.g rfl hg) (by first | with_reducible assumption | omega | (simp only [val_words, zv_nf]; omega) | (simp only [val_words]; exact Nat.le_trans (nw_small' (by omega)) (by decide))) (by first | with_reducible assumption | omega | (simp only [val_words, zv_nf]; omega) | (simp only [val_words]; exact Nat.le_trans (nw_small' (by omega)) (by decide)))) rfl ?_
 refine stT rfl rfl (fun hg => have hg' := BP.t hg; OK1.ltI (Has.g rfl hg) (.cI 0 rfl)) rfl ?_
 refine st (.pickAnd (.t rfl) (fun h => Has.g rfl h)) rfl (nl (.thn (k4 _ _ (.cv (Cv.wk (.l [3, 4, 5, 6, 7, 8, 9, 25] rfl)) (.cond (.t rfl) (fun hc1 => ?_) (fun hc1 => ?_))))))
 ·have hc1 := BP.t hc1
  have HE := euc1 (x := zv m xs) (y := zv n ys) ⟨hc1.1, by have := hc1.2; omega⟩ ((sgn_pos _).2 hp)
  refine .dr (.s [] rfl rfl rfl (.o rfl (.load (.t rfl) (i := 1) rfl ty31 rfl (Ss' := [_, _]) rfl)) (.s [] rfl rfl rfl (.o rfl (.call (zint_one) .nil)) (.s [26, 27] rfl rfl rfl (.o rfl (.eq (.call (zint_Sub (by first | with_reducible assumption | omega | (simp only [val_words, zv_nf]; omega) | (simp only [val_words]; exact Nat.le_trans (nw_small' (by omega)) (by decide))) (by first | with_reducible assumption | omega | (simp only [val_words, zv_nf]; omega) | (simp only [val_words]; exact Nat.le_trans (nw_small' (by omega)) (by decide)))) (.cons (.t rfl) (.cons (.t rfl) .nil))) (by first | (simp only [val_words, zv_nf]; rfl) | rfl))) ?_)))
  refine .s [] rfl rfl rfl (.o rfl (.load (.t rfl) (i := 0) rfl ty31 rfl (Ss' := [_, _]) rfl)) (.s [] rfl rfl rfl (.o rfl (.load (.t rfl) (i := 4) rfl ty31 rfl (Ss' := [_, _]) rfl)) (.fin (n := 5) mixed (by kernel_rfl) (by kernel_rfl) (by kernel_rfl) (.cv (Cv.wk (.l [4, 5, 6, 7, 8, 9, 28, 29, 30] rfl)) (st (.eq (.call (zint_Add (by first | with_reducible assumption | omega | (simp only [val_words, zv_nf]; omega) | (simp only [val_words]; exact Nat.le_trans (nw_small' (by omega)) (by decide))) (by first | with_reducible assumption | omega | (simp only [val_words, zv_nf]; omega) | (simp only [val_words]; exact Nat.le_trans (nw_small' (by omega)) (by decide)))) (.cons (.t rfl) (.cons (.t rfl) .nil))) (by first | (simp only [val_words, zv_nf]; rfl) | rfl)) rfl ?_))))
  refine .store (.t rfl) (.t rfl) (i := 1) rfl ty31 rfl rfl (Ss' := [_, _]) rfl (M' := [_, (some _, cellM [_, _]), _, _, _, _]) rfl (.store (.t rfl) (.t rfl) (i := 0) rfl ty31 rfl rfl (Ss' := [_, _]) rfl (M' := [(some _, cellM [_, _]), _, _, _, _, _]) rfl (nl (.thn (k3 _ _ (.seq fun _ k5 => .drh [true, true, false, false, true, true] (Ms := [_, _, _, _]) rfl (.s [] rfl rfl rfl (.o rfl (.load (.t rfl) (i := 1) rfl ty31 rfl (Ss' := [_, _]) rfl)) (.s [] rfl rfl rfl (.o rfl (.load (.t rfl) (i := 0) rfl ty31 rfl (Ss' := [_, _]) rfl)) (.s [] rfl rfl rfl (.o rfl (.mv (.t rfl))) (.mid (.cons_cons _ (.cons_cons _ (.cons _ (.cons _ (.cons_cons _ (.cons_cons _ .slnil)))))) (.st [32] rfl rfl (by kernel_rfl) (by kernel_rfl) (StS.store (.t rfl) (.t rfl) (i := 3) rfl ty31 rfl rfl (Ss' := [_, _]) rfl (M' := [_, _, _, (some _, cellM [_, _]), _, _]) rfl) (.cons_cons _ (.cons_cons _ (.cons _ (.cons _ (.cons_cons _ (.cons_cons _ .slnil)))))) (.st [33] rfl rfl (by kernel_rfl) (by kernel_rfl) (StS.store (.t rfl) (.t rfl) (i := 2) rfl ty31 rfl rfl (Ss' := [_, _]) rfl (M' := [_, _, (some _, cellM [_, _]), _, _, _]) rfl) (.cons_cons _ (.cons_cons _ (.cons _ (.cons _ (.cons_cons _ (.cons_cons _ .slnil)))))) (.fin (n := 5) mixed rfl (by kernel_rfl) (by kernel_rfl) (by kernel_rfl) (.cv (Cv.wk (.l [4, 5, 6, 34] rfl)) (st (.as (.t rfl)) rfl (nl (.thn (k5 _ _ (.ret (rtN (.inl rfl) Tryz.results206 rfl rfl (.cell rfl (i := 3) rfl ty31 rfl ?_ (.cell rfl (i := 2) rfl ty31 rfl ?_ (.tmp (Has.t' rfl ?_) .nil))))))))))))))))))))))
  ·exact isZ_eq HE.1
  ·exact isZ_eq (HE.2.trans (if_neg (by omega)))
  ·exact isB_eq (decide_eq_true (by omega))
 ·have hc1 := BP.f hc1
  have HE := euc0 (x := zv m xs) (y := zv n ys) (hc1.imp id fun h => by omega)
  refine .skip (.thn (k3 _ _ (.seq fun _ k6 => .drh [true, true, false, false, true, true] (Ms := [_, _, _, _]) rfl (.s [] rfl rfl rfl (.o rfl (.load (.t rfl) (i := 1) rfl ty31 rfl (Ss' := [_, _]) rfl)) (.s [] rfl rfl rfl (.o rfl (.load (.t rfl) (i := 0) rfl ty31 rfl (Ss' := [_, _]) rfl)) (.s [] rfl rfl rfl (.o rfl (.mv (.t rfl))) (.mid (.cons_cons _ (.cons_cons _ (.cons _ (.cons _ (.cons_cons _ (.cons_cons _ .slnil)))))) (.st [32] rfl rfl (by kernel_rfl) (by kernel_rfl) (StS.store (.t rfl) (.t rfl) (i := 3) rfl ty31 rfl rfl (Ss' := [_, _]) rfl (M' := [_, _, _, (some _, cellM [_, _]), _, _]) rfl) (.cons_cons _ (.cons_cons _ (.cons _ (.cons _ (.cons_cons _ (.cons_cons _ .slnil)))))) (.st [33] rfl rfl (by kernel_rfl) (by kernel_rfl) (StS.store (.t rfl) (.t rfl) (i := 2) rfl ty31 rfl rfl (Ss' := [_, _]) rfl (M' := [_, _, (some _, cellM [_, _]), _, _, _]) rfl) (.cons_cons _ (.cons_cons _ (.cons _ (.cons _ (.cons_cons _ (.cons_cons _ .slnil)))))) (.fin (n := 5) mixed rfl (by kernel_rfl) (by kernel_rfl) (by kernel_rfl) (.cv (Cv.wk (.l [4, 5, 6, 34] rfl)) (st (.as (.t rfl)) rfl (nl (.thn (k6 _ _ (.ret (rtN (.inl rfl) Tryz.results206 rfl rfl (.cell rfl (i := 3) rfl ty31 rfl ?_ (.cell rfl (i := 2) rfl ty31 rfl ?_ (.tmp (Has.t' rfl ?_) .nil))))))))))))))))))))
  ·exact isZ_eq HE.1
  ·exact isZ_eq (HE.2.trans (if_neg (by omega)))
  ·exact isB_eq (decide_eq_true (by omega))
theorem zint_Xgcd0 {m n : Bool} {xs ys : List Nat} (hx : (List.length (words (val xs))) ≤ 100000000) (hy : (List.length (words (val ys))) ≤ 100000000) (hb : zv n ys = 0) : Ctr Tryz.prog 261 [Flat [isB m, isWords xs], Flat [isB n, isWords ys]] (isTup [isZ (xgg (zv m xs) (zv n ys)), isZ (sgn (zv m xs)), isZ 0]) := by
 refine Ctr.intro Tryz.func261 rfl (by kernel_rfl) Tryz.ntmps261 rfl fun w0 F0 => .cv (Cv.wk (.l [0, 1] rfl)) (.fact (Has.okZ (Has.t (t := 0) rfl)) fun okz0 => .fact (Has.okZ (Has.t (t := 1) rfl)) fun okz1 => .seq fun _ k1 => .region (.box (.t rfl) rfl fun b1 => .box (.t rfl) rfl fun b2 => .alloc [isB false, SlM isU []] zero31 (fun _ _ => ⟨rfl, nilM _ _, trivial⟩) rfl fun b3 => .alloc [isB false, SlM isU []] zero31 (fun _ _ => ⟨rfl, nilM _ _, trivial⟩) rfl fun b4 => .alloc [isB false, SlM isU []] zero31 (fun _ _ => ⟨rfl, nilM _ _, trivial⟩) rfl fun b5 => nl (.thn (k1 _ _ (.seq fun _ k2 => .seq fun _ k3 => .region (st (.load (.t rfl) (i := 3) rfl ty31 rfl (Ss' := [_, _]) rfl) rfl (st (.call (zint_Sign (by first | with_reducible assumption | omega | (simp only [val_words, zv_nf]; omega) | (simp only [val_words]; exact Nat.le_trans (nw_small' (by omega)) (by decide)))) (.cons (.t rfl) .nil)) rfl ?_)))))))
 refine st (.eqI (.t rfl) (.cI 0 rfl)) rfl (nl (.thn (k3 _ _ (.cond (.t rfl) (fun hc1 => ?_) (fun hc1 => ?_)))))
 ·have hc1 := BP.t hc1
  refine .seq fun _ k4 => .drh [true, false, false, true, true] (Ms := [_, _, _]) rfl (.s [] rfl rfl rfl (.o rfl (.load (.t rfl) (i := 2) rfl ty31 rfl (Ss' := [_, _]) rfl)) (.s [16] rfl rfl rfl (.o rfl (.call (zint_Abs (by first | with_reducible assumption | omega | (simp only [val_words, zv_nf]; omega) | (simp only [val_words]; exact Nat.le_trans (nw_small' (by omega)) (by decide)))) (.cons (.t rfl) .nil))) ?_))
  refine .s [] rfl rfl rfl (.o rfl (.load (.t rfl) (i := 2) rfl ty31 rfl (Ss' := [_, _]) rfl)) (.s [18] rfl rfl rfl (.o rfl (.call (zint_Sign (by first | with_reducible assumption | omega | (simp only [val_words, zv_nf]; omega) | (simp only [val_words]; exact Nat.le_trans (nw_small' (by omega)) (by decide)))) (.cons (.t rfl) .nil))) ?_)
  refine .s [19] rfl rfl rfl (.o rfl (.call (zint_Of) (.cons (.t rfl) .nil))) (.s [] rfl rfl rfl (.o rfl (.eq (.build [isB false, SlM isU []] pl31 zero31 (fun _ _ => ⟨rfl, nilM _ _, trivial⟩) .nil (Z'' := [_, _]) rfl) (isZ0))) (.mid (.cons_cons _ (.cons _ (.cons _ (.cons_cons _ (.cons_cons _ .slnil))))) (.st [17] rfl rfl (by kernel_rfl) (by kernel_rfl) (StS.store (.t rfl) (.t rfl) (i := 2) rfl ty31 rfl rfl (Ss' := [_, _]) rfl (M' := [_, _, (some _, cellM [_, _]), _, _]) rfl) (.cons_cons _ (.cons _ (.cons _ (.cons_cons _ (.cons_cons _ .slnil))))) (.st [20] rfl rfl (by kernel_rfl) (by kernel_rfl) (StS.store (.t rfl) (.t rfl) (i := 1) rfl ty31 rfl rfl (Ss' := [_, _]) rfl (M' := [_, (some _, cellM [_, _]), _, _, _]) rfl) (.cons_cons _ (.cons _ (.cons _ (.cons_cons _ (.cons_cons _ .slnil))))) (.fin (n := 8) mixed rfl (by kernel_rfl) (by kernel_rfl) (by kernel_rfl) (.cv (Cv.wk (.l [2, 3, 4, 5, 6, 21] rfl)) (.store (.t rfl) (.t rfl) (i := 0) rfl ty31 rfl rfl (Ss' := [_, _]) rfl (M' := [(some _, cellM [_, _]), _, _, _, _]) rfl (nl (.thn (k4 _ _ (.ret (.thr (rtN (.inl rfl) Tryz.results261 rfl rfl (.cell rfl (i := 2) rfl ty31 rfl ?_ (.cell rfl (i := 1) rfl ty31 rfl ?_ (.cell rfl (i := 0) rfl ty31 rfl ?_ .nil))))))))))))))))
  ·exact isZ_eq (by rw [hb]; unfold xgg; rw [show (0 : Int).natAbs = 0 from rfl, Nat.gcd_zero_right])
  ·rfl
  ·rfl
 ·have hc1 := BP.f hc1
  exact absurd ((sgn_eq0 _).2 hb) hc1
theorem zint_XgcdA {m n : Bool} {xs ys : List Nat} (hx : (List.length (words (val xs))) ≤ 100000000) (hy : (List.length (words (val ys))) ≤ 100000000) : Ctr Tryz.prog 261 [Flat [isB m, isWords xs], Flat [isB n, isWords ys]] (isTup [isZ (xgg (zv m xs) (zv n ys)), isZ (xgx (zv m xs) (zv n ys)), isZ (xgy (zv m xs) (zv n ys))]) := by
 by_cases hb : zv n ys = 0
 ·have h := zint_Xgcd0 (m := m) hx hy hb
  unfold xgx xgy
  rw [if_pos hb, if_pos hb]
  exact h
 ·have h := zint_Xgcd (m := m) hx hy hb
  have e := xgy_ex (a := zv m xs) hb
  unfold xgx
  rw [if_neg hb, ← e]
  exact h
theorem hnf_mixed {m n : Bool} {us ws : List Nat} {xs ys : List (Bool × List Nat)} {A B K L : Nat} (ha : (List.length (words (val us))) ≤ A) (hx : Bd (vals xs) K) (hb : (List.length (words (val ws))) ≤ B) (hy : Bd (vals ys) L) (h1 : A + K ≤ 400000000) (h2 : B + L ≤ 400000000) (hl : ys.length = xs.length) (hn : xs.length ≤ 1000000) : Ctr Tryz.prog 207 [Flat [isB m, isWords us], SlK 2 zc xs, Flat [isB n, isWords ws], SlK 2 zc ys] (isP (mx2 (zv m us) (vals xs) (zv n ws) (vals ys))) := by
 refine Ctr.intro Tryz.func207 rfl (by kernel_rfl) Tryz.ntmps207 rfl fun w0 F0 => .cv (Cv.wk (.l [0, 1, 2, 3] rfl)) (.fact (Has.okZ (Has.t (t := 0) rfl)) fun okz0 => .fact (Has.lenLt (Has.t (t := 1) rfl)) fun lt1 => .fact (Has.okZ (Has.t (t := 2) rfl)) fun okz2 => .fact (Has.lenLt (Has.t (t := 3) rfl)) fun lt3 => ?_)
 obtain ⟨F, hF⟩ : ∃ F, F = mx2 (zv m us) (vals xs) (zv n ws) (vals ys) := ⟨_, rfl⟩
 have hFl : F.length = xs.length := by rw [hF, mx2_len, vals_len]
 have hea := zv_nw m us
 have heb := zv_nw n ws
 refine .seq fun _ k1 => .region (.box (.t rfl) rfl fun b1 => .box (.t rfl) rfl fun b2 => st (.as (.cWK (k := 2) (fk := zc))) rfl (nl (.thn (k1 _ _ (.seq fun _ k2 => .region (st (.mv (.t rfl)) rfl (st (.len sl22 (.t rfl)) rfl (.makeK (fk := zc) (u := (false, [])) (n := xs.length) (c := xs.length) sl22 ty31 zero31 (fun _ _ => ⟨rfl, nilM _ _, trivial⟩) zc_len by31 (Has.t' rfl rfl) (Has.t' rfl rfl) ⟨by omega, by omega⟩ rfl fun b3 => st (.as (.t rfl)) rfl (nl (.thn (k2 _ _ (.cv (Cv.wk (.l [1, 3, 4, 6, 8, 9] rfl)) (.seq fun _ k3 => .seq fun _ k4 => .region (st (.mv (.t rfl)) rfl (st (.len sl22 (.t rfl)) rfl (st (.mv (.cI 0 rfl)) rfl (nl (.thn (k4 _ _ (.block (.loopF [1, 3, 4, 6, 8, 9, 15] (fun (z : { k : Nat // k ≤ xs.length }) => match z with | ⟨k, hk⟩ => [(16, isI (k : Int))]) (fun M => fun (z : { k : Nat // k ≤ xs.length }) => match z with | ⟨k, hk⟩ => [(some b3, cellM ((fill (F.map nz) k (false, [])).flatMap zc)), (some b2, cellM [isB n, SlM isU ws]), (some b1, cellM [isB m, SlM isU us])]) (fun (z : { k : Nat // k ≤ xs.length }) => match z with | ⟨k, hk⟩ => xs.length - k) (⟨0, Nat.zero_le _⟩) (Cv.mem (.c 16 rfl ?_ (.l [1, 3, 4, 6, 8, 9, 15] rfl)) ?_) ?_)))))))))))))))))))))
 ·rfl
 ·exact memZ_eq (by rw [fill_zero, List.length_map, hFl])
 rintro ⟨k, hk⟩ K5 hK5
 refine .cv (Cv.wk (.l [16, 1, 3, 4, 6, 8, 9, 15] rfl)) (.memEq (M' := [(some b3, cellM ((fill (F.map nz) k (false, [])).flatMap zc)), (some b2, cellM [isB n, SlM isU ws]), (some b1, cellM [isB m, SlM isU us])]) rfl (.seq fun _ k6 => .region (st (.ltI (.t rfl) (.t rfl)) rfl (nl (.thn (k6 _ _ (.seq fun _ k7 => .cond (.t rfl) (fun hc1 => ?_) (fun hc1 => ?_))))))))
 ·have hc1 := BP.t hc1
  have hxr := hx.raw k
  have hyr := hy.raw k
  have hxk := hx k
  have hyk := hy k
  have hm1 := nz_mul (zv m us) (cf (vals xs) k)
  have hm2 := nz_mul (zv n ws) (cf (vals ys) k)
  refine .skip (.thn (k7 _ _ (.seq fun _ k8 => .block (.seq fun _ k9 => .region (st (.mv (.t rfl)) rfl (st (.as (.t rfl)) rfl (nl (.thn (k9 _ _ (.dr (.s [] rfl rfl rfl (.o rfl (.mv (.t rfl))) (.s [] rfl rfl rfl (.o rfl (.mv (.t rfl))) (.s [] rfl rfl rfl (.o rfl (.load (.t rfl) (i := 2) rfl ty31 rfl (Ss' := [_, _]) rfl)) (.s [] rfl rfl rfl (.o rfl (.mv (.t rfl))) (.s [] rfl rfl rfl (.o rfl (.mv (.t rfl))) (.s [22, 23] rfl rfl rfl (.o rfl (.ixK sl22 ty31 (.t rfl) (.t rfl) zc_len ⟨by omega, by omega⟩ (getD_some (d := (false, [])) (by first | omega | (simp only [Int.toNat_natCast, List.length_set]; omega))))) ?_))))))))))))))))
  refine .s [24] rfl rfl rfl (.o rfl (.loadP (.t rfl) ty31 rfl (Ss' := [_, _]) rfl)) ?_
  refine .s [21, 25] rfl rfl rfl (.o rfl (.eq (.call (zint_Mul (by omega) (by show (List.length (words (val (xs.getD k (false, [])).2))) ≤ _; omega)) (.cons (.t rfl) (.cons (.t rfl) .nil))) ((show isZ _ = isZ (zv m us * cf (vals xs) k) from isZ_eq (by rw [cf_vals]; rfl))))) ?_
  refine .s [] rfl rfl rfl (.o rfl (.load (.t rfl) (i := 1) rfl ty31 rfl (Ss' := [_, _]) rfl)) (.s [] rfl rfl rfl (.o rfl (.mv (.t rfl))) (.s [] rfl rfl rfl (.o rfl (.mv (.t rfl))) (.s [28, 29] rfl rfl rfl (.o rfl (.ixK sl22 ty31 (.t rfl) (.t rfl) zc_len ⟨by omega, by omega⟩ (getD_some (d := (false, [])) (by first | omega | (simp only [Int.toNat_natCast, List.length_set]; omega))))) ?_)))
  refine .s [30] rfl rfl rfl (.o rfl (.loadP (.t rfl) ty31 rfl (Ss' := [_, _]) rfl)) ?_
  refine .s [27, 31] rfl rfl rfl (.o rfl (.eq (.call (zint_Mul (by omega) (by show (List.length (words (val (ys.getD k (false, [])).2))) ≤ _; omega)) (.cons (.t rfl) (.cons (.t rfl) .nil))) ((show isZ _ = isZ (zv n ws * cf (vals ys) k) from isZ_eq (by rw [cf_vals]; rfl))))) ?_
  refine .s [26, 32] rfl rfl rfl (.o rfl (.eq (.call (zint_Add (by rw [val_words]; omega) (by rw [val_words]; omega)) (.cons (.t rfl) (.cons (.t rfl) .nil))) ((show isZ _ = Flat (zc (nz (zv m us * cf (vals xs) k + zv n ws * cf (vals ys) k))) from isZ_eq (by rw [zv_nf, zv_nf]))))) ?_
  refine .fin (n := 15) mixed (by kernel_rfl) (by kernel_rfl) (by kernel_rfl) (.cv (Cv.wk (.l [1, 3, 4, 6, 8, 9, 15, 16, 17, 18, 10, 19, 20, 21, 22, 23, 24, 25, 26, 27, 28, 29, 30, 31, 32, 33] rfl)) (st (.eq (.ixWin sl22 ty31 (.t rfl) (.t rfl) ⟨by omega, by omega⟩) (isPtr_eq (by first | exact ixo0 | exact ixo2 | exact ixo1))) rfl (.storeK (z := nz (zv m us * cf (vals xs) k + zv n ws * cf (vals ys) k)) zc_len (.t rfl) (.t rfl) (i := 0) rfl ty31 (by rw [fill_len _ _ _ (by rw [List.length_map]; omega), List.length_map]; omega) (M' := [(_, _), _, _]) rfl ?_)))
  refine nl (.bln (.thn (k8 _ _ (.region (st (.addI (.t rfl) (.cI 1 rfl) (by first | omega | assumption) (by first | omega | assumption)) rfl (st (.mv (.t rfl)) rfl (nl (.thn (hK5 (⟨k + 1, by omega⟩) _ _ ?_ (Cv.mem (.c 16 rfl ?_ (.l [1, 3, 4, 6, 8, 9, 15] rfl)) ?_))))))))))
  ·show xs.length - (k + 1) < xs.length - k; omega
  ·exact isI_eq (by omega)
  ·exact memF_eq (by rw [List.getElem?_map, hF]; unfold mx2; rw [List.getElem?_map, List.getElem?_range (by rw [vals_len]; omega)]; rfl)
 ·have hc1 := BP.f hc1
  refine .exit (.the (.the (.blh (.thn (k3 _ _ (.cv (Cv.wk (.l [8, 9] rfl)) (.seq fun _ k10 => .cv (Cv.freezeK (t := 9) (i := 0) (ys := F.map nz) zc_len rfl rfl rfl (by rw [fill_len _ _ _ (by rw [List.length_map]; omega), List.length_map]; omega) (fill_done (by rw [List.length_map]; omega) (by rw [List.length_map, hFl]))) ?_)))))))
  refine .memEq (M' := [_, _]) rfl (.cv (Cv.wk (.l [8, 9] rfl)) (.region (st (.mv (.t rfl)) rfl (st (.as (.t rfl)) rfl (nl (.thn (k10 _ _ (.ret (rt1 (.inl rfl) Tryz.results207 rfl (.tmp (Has.t' rfl ?_) .nil))))))))))
  all_goals (exact isPl_eq hF)
end Go.Proofs.YthkdmhaafanjlaaGreat
namespace Go.Proofs.YthkdmhaafanjlaaGreat
open Go.En Go.RowKit
set_option maxRecDepth 10000
set_option maxHeartbeats 4000000
open Go.Nt
open Go.Pz
open Go.Mz
open Go.Hn
open Go.Tr
theorem modhnf_mixedX {S0 : VP} {b : Int} {m n : Bool} {us ws : List Nat} {xs ys : List (Bool × List Nat)} {A D K place : Nat} (hb0 : 0 < b) (ha : (List.length (words (val us))) ≤ A) (hx : Bd (vals xs) K) (hb : (List.length (words (val ws))) ≤ D) (hy : Bd (vals ys) K) (h1 : A + K ≤ 100000000) (h2 : D + K ≤ 100000000) (hbN : (List.length (words b.natAbs)) ≤ 100000000) (hl : ys.length = xs.length) (hn : xs.length ≤ 1000000) : CtrX Tryz.prog 262 [PtrL [S0, isB (decide (b < 0)), SlM isU (words b.natAbs)], Flat [isB m, isWords us], SlK 2 zc xs, Flat [isB n, isWords ws], SlK 2 zc ys, isI (place : Int)] ([]) (fun S M => ∃ bo, S = isWin bo 0 (mxT b place (zv m us) (vals xs) (zv n ws) (vals ys)).length (mxT b place (zv m us) (vals xs) (zv n ws) (vals ys)).length ∧ M = [(some bo, cellM (((mxT b place (zv m us) (vals xs) (zv n ws) (vals ys)).map nz).flatMap zc))]) := by
 refine CtrX.intro Tryz.func262 rfl (by kernel_rfl) Tryz.ntmps262 rfl fun w0 F0 => .cv (Cv.wk (.l [0, 1, 2, 3, 4, 5] rfl)) (.fact (Has.okZ (Has.t (t := 1) rfl)) fun okz1 => .fact (Has.lenLt (Has.t (t := 2) rfl)) fun lt2 => .fact (Has.okZ (Has.t (t := 3) rfl)) fun okz3 => .fact (Has.lenLt (Has.t (t := 4) rfl)) fun lt4 => .fact (Has.rngI (Has.t (t := 5) rfl)) fun lt5 => ?_)
 obtain ⟨L, hL⟩ : ∃ L, L = mxT b place (zv m us) (vals xs) (zv n ws) (vals ys) := ⟨_, rfl⟩
 have hLl : L.length = xs.length := by rw [hL, mxT_len, vals_len]
 rw [← hL]
 have hea := zv_nw m us
 have heb := zv_nw n ws
 refine .seq fun _ k1 => .region (.box (.t rfl) rfl fun b1 => .box (.t rfl) rfl fun b2 => st (.as (.cWK (k := 2) (fk := zc))) rfl (nl (.thn (k1 _ _ (.seq fun _ k2 => .region (st (.mv (.t rfl)) rfl (st (.len sl22 (.t rfl)) rfl (.makeK (fk := zc) (u := (false, [])) (n := xs.length) (c := xs.length) sl22 ty31 zero31 (fun _ _ => ⟨rfl, nilM _ _, trivial⟩) zc_len by31 (Has.t' rfl rfl) (Has.t' rfl rfl) ⟨by omega, by omega⟩ rfl fun b3 => st (.as (.t rfl)) rfl (nl (.thn (k2 _ _ (.cv (Cv.wk (.l [0, 2, 4, 5, 7, 9, 12, 13] rfl)) (.seq fun _ k3 => .seq fun _ k4 => .region (st (.mv (.t rfl)) rfl (st (.len sl22 (.t rfl)) rfl (st (.mv (.cI 0 rfl)) rfl (nl (.thn (k4 _ _ (.block (.loopF [0, 2, 4, 5, 7, 9, 12, 13, 19] (fun (z : { k : Nat // k ≤ xs.length }) => match z with | ⟨k, hk⟩ => [(20, isI (k : Int))]) (fun M => fun (z : { k : Nat // k ≤ xs.length }) => match z with | ⟨k, hk⟩ => [(some b3, cellM ((fill (L.map nz) k (false, [])).flatMap zc)), (some b2, cellM [isB n, SlM isU ws]), (some b1, cellM [isB m, SlM isU us])]) (fun (z : { k : Nat // k ≤ xs.length }) => match z with | ⟨k, hk⟩ => xs.length - k) (⟨0, Nat.zero_le _⟩) (Cv.mem (.c 20 rfl ?_ (.l [0, 2, 4, 5, 7, 9, 12, 13, 19] rfl)) ?_) ?_)))))))))))))))))))))
 ·rfl
 ·exact memZ_eq (by rw [fill_zero, List.length_map, hLl])
 rintro ⟨k, hk⟩ K5 hK5
 refine .cv (Cv.wk (.l [20, 0, 2, 4, 5, 7, 9, 12, 13, 19] rfl)) (.memEq (M' := [(some b3, cellM ((fill (L.map nz) k (false, [])).flatMap zc)), (some b2, cellM [isB n, SlM isU ws]), (some b1, cellM [isB m, SlM isU us])]) rfl (.seq fun _ k6 => .region (st (.ltI (.t rfl) (.t rfl)) rfl (nl (.thn (k6 _ _ (.seq fun _ k7 => .cond (.t rfl) (fun hc1 => ?_) (fun hc1 => ?_))))))))
 ·have hc1 := BP.t hc1
  have hLk : L[k]? = some (mxv b place (zv m us) (vals xs) (zv n ws) (vals ys) k) := by rw [hL]; exact mxT_at _ _ _ _ _ _ (by rw [vals_len]; omega)
  have hxr := hx.raw k
  have hyr := hy.raw k
  have hxk := hx k
  have hyk := hy k
  have hm1 := nz_mul (zv m us) (cf (vals xs) k)
  have hm2 := nz_mul (zv n ws) (cf (vals ys) k)
  have hm3 := nz_add (zv m us * cf (vals xs) k) (zv n ws * cf (vals ys) k)
  refine .skip (.thn (k7 _ _ (.seq fun _ k8 => .block (.seq fun _ k9 => .region (st (.mv (.t rfl)) rfl (st (.as (.t rfl)) rfl (nl (.thn (k9 _ _ (.seq fun _ k10 => .dr (.s [] rfl rfl rfl (.o rfl (.mv (.t rfl))) (.s [] rfl rfl rfl (.o rfl (.mv (.t rfl))) (.s [] rfl rfl rfl (.o rfl (.load (.t rfl) (i := 2) rfl ty31 rfl (Ss' := [_, _]) rfl)) (.s [] rfl rfl rfl (.o rfl (.mv (.t rfl))) (.s [] rfl rfl rfl (.o rfl (.mv (.t rfl))) (.s [26, 27] rfl rfl rfl (.o rfl (.ixK sl22 ty31 (.t rfl) (.t rfl) zc_len ⟨by omega, by omega⟩ (getD_some (d := (false, [])) (by first | omega | (simp only [Int.toNat_natCast, List.length_set]; omega))))) ?_))))))))))))))))
  refine .s [28] rfl rfl rfl (.o rfl (.loadP (.t rfl) ty31 rfl (Ss' := [_, _]) rfl)) ?_
  refine .s [25, 29] rfl rfl rfl (.o rfl (.eq (.call (zint_Mul (by omega) (by show (List.length (words (val (xs.getD k (false, [])).2))) ≤ _; omega)) (.cons (.t rfl) (.cons (.t rfl) .nil))) ((show isZ _ = isZ (zv m us * cf (vals xs) k) from isZ_eq (by rw [cf_vals]; rfl))))) ?_
  refine .s [] rfl rfl rfl (.o rfl (.load (.t rfl) (i := 1) rfl ty31 rfl (Ss' := [_, _]) rfl)) (.s [] rfl rfl rfl (.o rfl (.mv (.t rfl))) (.s [] rfl rfl rfl (.o rfl (.mv (.t rfl))) (.s [32, 33] rfl rfl rfl (.o rfl (.ixK sl22 ty31 (.t rfl) (.t rfl) zc_len ⟨by omega, by omega⟩ (getD_some (d := (false, [])) (by first | omega | (simp only [Int.toNat_natCast, List.length_set]; omega))))) ?_)))
  refine .s [34] rfl rfl rfl (.o rfl (.loadP (.t rfl) ty31 rfl (Ss' := [_, _]) rfl)) ?_
  refine .s [31, 35] rfl rfl rfl (.o rfl (.eq (.call (zint_Mul (by omega) (by show (List.length (words (val (ys.getD k (false, [])).2))) ≤ _; omega)) (.cons (.t rfl) (.cons (.t rfl) .nil))) ((show isZ _ = isZ (zv n ws * cf (vals ys) k) from isZ_eq (by rw [cf_vals]; rfl))))) ?_
  refine .s [30, 36] rfl rfl rfl (.o rfl (.eq (.call (zint_Add (by rw [val_words]; omega) (by rw [val_words]; omega)) (.cons (.t rfl) (.cons (.t rfl) .nil))) ((show isZ _ = Flat (zc (nz (zv m us * cf (vals xs) k + zv n ws * cf (vals ys) k))) from isZ_eq (by rw [zv_nf, zv_nf]))))) ?_
  refine .fin (n := 15) mixed (by kernel_rfl) (by kernel_rfl) (by kernel_rfl) (.cv (Cv.wk (.l [0, 2, 4, 5, 7, 9, 12, 13, 19, 20, 21, 22, 14, 23, 24, 25, 26, 27, 28, 29, 30, 31, 32, 33, 34, 35, 36, 37] rfl)) (st (.eq (.ixWin sl22 ty31 (.t rfl) (.t rfl) ⟨by omega, by omega⟩) (isPtr_eq (by first | exact ixo0 | exact ixo2 | exact ixo1))) rfl (.storeK (z := nz (zv m us * cf (vals xs) k + zv n ws * cf (vals ys) k)) zc_len (.t rfl) (.t rfl) (i := 0) rfl ty31 (by rw [fill_len _ _ _ (by rw [List.length_map]; omega), List.length_map]; omega) (M' := [(_, _), _, _]) rfl ?_)))
  refine nl (.thn (k10 _ _ (.seq fun _ k11 => .region (st (.mv (.t rfl)) rfl (st (.mv (.t rfl)) rfl (st (.gtI (.t rfl) (.t rfl)) rfl (nl (.thn (k11 _ _ (.cond (.t rfl) (fun hc2 => ?_) (fun hc2 => ?_)))))))))))
  ·have hc2 := BP.t hc2
   have HP : place < k := (by omega)
   refine .dry mixed (.tk 0 rfl rfl rfl rfl (OKY.mv (.t rfl)) (.tk 1 rfl rfl rfl rfl (OKY.mv (.t rfl)) (.tk 2 rfl rfl rfl rfl (OKY.mv (.t rfl)) (.tk 3 rfl rfl rfl rfl (OKY.mv (.t rfl)) (.tk 6 rfl rfl rfl rfl (OKY.mv (.t rfl)) (.go [13] (.s 4 [] rfl rfl rfl (.o rfl (.eq (.ixWin sl22 ty31 (.t rfl) (.t rfl) ⟨by omega, by omega⟩) (isPtr_eq (by first | exact ixo0 | exact ixo2 | exact ixo1)))) (.s 5 [47] rfl rfl rfl (.o rfl (.loadK zc_len (.t rfl) (i := 0) rfl ty31 (show ((fill (L.map nz) k (false, [])).set k (nz (zv m us * cf (vals xs) k + zv n ws * cf (vals ys) k)))[k]? = some (nz (zv m us * cf (vals xs) k + zv n ws * cf (vals ys) k)) from List.getElem?_set_self (by rw [fill_len _ _ _ (by rw [List.length_map]; omega), List.length_map]; omega)))) ?_))))))))
   refine .s 7 [] rfl rfl rfl (.o rfl (.nilcP (.t rfl))) (.s 8 [50] rfl rfl rfl (.o rfl (.fieldAddrP (.t rfl) fld179_1 ty31 (Ss' := [_, _]) rfl)) (.s 9 [51] rfl rfl rfl (.o rfl (.loadP (.t rfl) ty31 rfl (Ss' := [_, _]) rfl)) ?_))
   refine .s 10 [48, 52] rfl rfl rfl (.o rfl (.eq (.call (modn_Mod (by rw [val_words]; omega) (by rw [val_words]; omega)) (.cons (.t rfl) (.cons (.t rfl) .nil))) ((show isTup [isZ _, isB _] = isTup [Flat (zc (nz ((zv m us * cf (vals xs) k + zv n ws * cf (vals ys) k) % b))), isB true] from by simp only [zv_nf, zv_nz]; rw [if_pos hb0, decide_eq_true hb0])))) ?_
   refine .s 11 [53] rfl rfl rfl (.o rfl (.mv (.t rfl))) (.ea (i := 13) [42] rfl rfl rfl (by kernel_rfl) rfl (OKY.ext (.t rfl) rfl) (.fin [12, 14, 15] (by kernel_rfl) (by kernel_rfl) (fun _ _ _ _ _ h => h) (by kernel_rfl) (by kernel_rfl) (by kernel_rfl) (by kernel_rfl) (by kernel_rfl) (by kernel_rfl) (by kernel_rfl) (by kernel_rfl) (by kernel_rfl) (.cv (Cv.wk (.l [0, 2, 4, 5, 7, 9, 12, 13, 19, 20, 21, 22, 14, 23, 24, 25, 26, 27, 28, 29, 30, 31, 32, 33, 34, 35, 36, 37, 38, 39, 40, 41, 43, 44, 45, 46, 49, 47, 48, 50, 51, 52, 53, 42] rfl)) (st (.ext (.t rfl) rfl) rfl (st (.eq (.ixWin sl22 ty31 (.t rfl) (.t rfl) ⟨by omega, by omega⟩) (isPtr_eq (by first | exact ixo0 | exact ixo2 | exact ixo1))) rfl (.storeK (z := nz ((zv m us * cf (vals xs) k + zv n ws * cf (vals ys) k) % b)) zc_len (.t rfl) (.t rfl) (i := 0) rfl ty31 (by rw [List.length_set, fill_len _ _ _ (by rw [List.length_map]; omega), List.length_map]; omega) (M' := [(_, _), _, _]) rfl ?_))))))
   refine nl (.bln (.thn (k8 _ _ (.region (st (.addI (.t rfl) (.cI 1 rfl) (by first | omega | assumption) (by first | omega | assumption)) rfl (st (.mv (.t rfl)) rfl (nl (.thn (hK5 (⟨k + 1, by omega⟩) _ _ ?_ (Cv.mem (.c 20 rfl ?_ (.l [0, 2, 4, 5, 7, 9, 12, 13, 19] rfl)) ?_))))))))))
   ·show xs.length - (k + 1) < xs.length - k; omega
   ·exact isI_eq (by omega)
   ·exact memZ_eq (by rw [List.set_set]; exact fill_set _ _ _ _ (by rw [List.getElem?_map, hLk, mxv, if_pos HP]; rfl))
  ·have hc2 := BP.f hc2
   have HP : ¬ place < k := (by omega)
   refine .skip (.bln (.thn (k8 _ _ (.region (st (.addI (.t rfl) (.cI 1 rfl) (by first | omega | assumption) (by first | omega | assumption)) rfl (st (.mv (.t rfl)) rfl (nl (.thn (hK5 (⟨k + 1, by omega⟩) _ _ ?_ (Cv.mem (.c 20 rfl ?_ (.l [0, 2, 4, 5, 7, 9, 12, 13, 19] rfl)) ?_))))))))))
   ·show xs.length - (k + 1) < xs.length - k; omega
   ·exact isI_eq (by omega)
   ·exact memZ_eq (fill_set _ _ _ _ (by rw [List.getElem?_map, hLk, mxv, if_neg HP]; rfl))
 ·have hc1 := BP.f hc1
  refine .exit (.the (.the (.blh (.thn (k3 _ _ (.cv (Cv.wk (.l [12, 13] rfl)) (.seq fun _ k12 => .region (st (.mv (.t rfl)) rfl (st (.as (.t rfl)) rfl (nl (.thn (k12 _ _ (.ret (rtX1D (.cons_cons _ (.cons _ (.cons _ .slnil))) (.inl rfl) Tryz.results262 rfl (.tmp (.t rfl) .nil) ?_))))))))))))))
  exact ⟨b3, by rw [hLl], by rw [show fill (L.map nz) k (false, []) = L.map nz from by rw [show k = (L.map nz).length by rw [List.length_map]; omega, fill_all]]⟩
theorem modhnf_mixedN {S0 : VP} {b : Int} {m n : Bool} {us ws : List Nat} {p q : List Int} {A D K place n0 : Nat} (hb0 : 0 < b) (ha : (List.length (words (val us))) ≤ A) (hx : Bd p K) (hb : (List.length (words (val ws))) ≤ D) (hy : Bd q K) (h1 : A + K ≤ 100000000) (h2 : D + K ≤ 100000000) (hbN : (List.length (words b.natAbs)) ≤ 100000000) (hl : q.length = p.length) (hn : p.length ≤ 1000000) (hp : 0 < p.length) :
  Ctr Tryz.prog 262 [PtrL [S0, isB (decide (b < 0)), SlM isU (words b.natAbs)], Flat [isB m, isWords us], SlN n0 p, Flat [isB n, isWords ws], isP q, isI (place : Int)] (SlN n0 (mxT b place (zv m us) p (zv n ws) q)) := by
 have h := modhnf_mixedX (S0 := S0) (m := m) (n := n) (us := us) (ws := ws) (xs := p.map nz) (ys := q.map nz) (place := place) hb0 ha (by rw [vals_nz]; exact hx) hb (by rw [vals_nz]; exact hy) h1 h2 hbN (by rw [List.length_map, List.length_map]; exact hl) (by rw [List.length_map]; exact hn)
 rw [vals_nz, vals_nz] at h
 refine h.toN fun w F vs hv => ?_
 match vs, hv with
 | [_, _, _, _, _, _], ⟨g1, g2, g3, g4, g5, g6, g7⟩ => exact ⟨⟨g1, g2, SlN.sl _ _ _ g3, g4, g5, g6, g7⟩, SlN.new g3 hp⟩
 | [], hv => exact hv.elim
 | [_], hv => exact hv.2.elim
 | [_, _], hv => exact hv.2.2.elim
 | [_, _, _], hv => exact hv.2.2.2.elim
 | [_, _, _, _], hv => exact hv.2.2.2.2.elim
 | [_, _, _, _, _], hv => exact hv.2.2.2.2.2.elim
 | _ :: _ :: _ :: _ :: _ :: _ :: _ :: _, hv => exact hv.2.2.2.2.2.2.elim
theorem modhnf_begun {n : Nat} {b : Int} (hn : n ≤ 64) : CtrX Tryz.prog 212 [isI (n : Int), Flat [isB (decide (b < 0)), isWords (words b.natAbs)]] ([]) (fun S M => ∃ bt gt rs, S = isPtr bt 0 ∧ M = (some bt, cellM [isGr gt rs.length, isB (decide (b < 0)), SlM isU (words b.natAbs)]) :: grM rowV gt rs :: rs.map rowM ∧ rs.map Prod.snd = tri0 b n n) := by
 refine CtrX.intro Tryz.func212 rfl (by kernel_rfl) Tryz.ntmps212 rfl fun w0 F0 => .cv (Cv.wk (.l [0, 1] rfl)) (.fact (Has.rngI (Has.t (t := 0) rfl)) fun lt0 => .fact (Has.okZ (Has.t (t := 1) rfl)) fun okz1 => .seq fun _ k1 => .region (.box (.t rfl) rfl fun b1 => st (.as Has.cP) rfl (nl (.thn (k1 _ _ (.seq fun _ k2 => .region (st (.load (.t rfl) (i := 0) rfl ty31 rfl (Ss' := [_, _]) rfl) rfl (st (.build [nilS, isB false, SlM isU []] pl179 zero179 (fun _ _ => ⟨rfl, rfl, nilM _ _, trivial⟩) (.cons (.t rfl) rfl rfl rfl .nil) (Z'' := [_, _, _]) rfl) rfl (.box (.t rfl) rfl fun b2 => st (.as (.t rfl)) rfl (nl (.thn (k2 _ _ (.seq fun _ k3 => .seq fun _ k4 => .cv (Cv.growF (Row) (i := 0) (o := 0) rfl rfl rfl) (.memEq (M' := [grM rowV Gr.nil [], _, _]) rfl (.region (st (.mv (.t rfl)) rfl (st (.mv (.cI 0 rfl)) rfl (nl (.thn (k4 _ _ (.block (.memEq (M' := (_ :: _ :: _ :: ([] : List Row).map rowM)) rfl (.loopF [0, 3, 4, 5, 11] (fun (z : { z : Nat × Gr Row × List Row // z.1 ≤ n ∧ z.2.2.map Prod.snd = tri0 b n z.1 }) => match z with | ⟨(i, gt, rs), hI⟩ => [(12, isI (i : Int))]) (fun M => fun (z : { z : Nat × Gr Row × List Row // z.1 ≤ n ∧ z.2.2.map Prod.snd = tri0 b n z.1 }) => match z with | ⟨(i, gt, rs), hI⟩ => (grM rowV gt rs :: (some b2, cellM [isGr gt rs.length, isB (decide (b < 0)), SlM isU (words b.natAbs)]) :: (some b1, cellM [isB (decide (b < 0)), SlM isU (words b.natAbs)]) :: rs.map rowM)) (fun (z : { z : Nat × Gr Row × List Row // z.1 ≤ n ∧ z.2.2.map Prod.snd = tri0 b n z.1 }) => match z with | ⟨(i, gt, rs), hI⟩ => n - i) (⟨(0, Gr.nil, []), Nat.zero_le _, rfl⟩) (Cv.mem (.c 12 rfl ?_ (.l [0, 3, 4, 5, 11] rfl)) ?_) ?_)))))))))))))))))))))))
 ·rfl
 ·rfl
 rintro ⟨⟨i, gt, rs⟩, hI⟩ K5 hK5
 refine .cv (Cv.wk (.l [12, 0, 3, 4, 5, 11] rfl)) (.memEq (M' := (grM rowV gt rs :: (some b2, cellM [isGr gt rs.length, isB (decide (b < 0)), SlM isU (words b.natAbs)]) :: (some b1, cellM [isB (decide (b < 0)), SlM isU (words b.natAbs)]) :: rs.map rowM)) rfl ?_)
 simp only [] at hI
 obtain ⟨hi, hrs⟩ := hI
 have hrl : rs.length = i := by have := congrArg List.length hrs; rwa [List.length_map, tri0_len] at this
 refine .seq fun _ k6 => .region (st (.ltI (.t rfl) (.t rfl)) rfl (nl (.thn (k6 _ _ (.seq fun _ k7 => .cond (.t rfl) (fun hc1 => ?_) (fun hc1 => ?_))))))
 ·have hc1 := BP.t hc1
  refine .skip (.thn (k7 _ _ (.seq fun _ k8 => .block (.seq fun _ k9 => .region (st (.mv (.t rfl)) rfl (st (.as (.t rfl)) rfl (nl (.thn (k9 _ _ (.seq fun _ k10 => .region (st (.mv (.t rfl)) rfl (.makeK (fk := zc) (u := (false, [])) (n := n) (c := n) sl22 ty31 zero31 (fun _ _ => ⟨rfl, nilM _ _, trivial⟩) zc_len by31 (Has.t' rfl rfl) (Has.t' rfl rfl) ⟨by omega, by omega⟩ rfl fun b3 => st (.as (.t rfl)) rfl (nl (.thn (k10 _ _ (.seq fun _ k11 => .region (st (.mv (.t rfl)) rfl (st (.mv (.t rfl)) rfl (st (.load (.t rfl) (i := 3) rfl ty31 rfl (Ss' := [_, _]) rfl) rfl (st (.eq (.ixWin sl22 ty31 (.t rfl) (.t rfl) ⟨by omega, by omega⟩) (isPtr_eq (by first | exact ixo0 | exact ixo2 | exact ixo1))) rfl (.storeK (z := nz b) zc_len (.t rfl) (.t rfl) (i := 0) rfl ty31 (by rw [List.length_replicate]; omega) (M' := ((_, _) :: _ :: _ :: _ :: _)) rfl ?_)))))))))))))))))))))
  refine nl (.thn (k11 _ _ (.region (.cv (Cv.trans (Cv.winRow (t := 7) (i := 0) (ys := (tr0 b n i).map nz) rfl rfl (tr0_set (by omega)) (by rw [List.length_map, tr0_len])) (Cv.memEq (M' := (grMK zc ⟨some b3, n, []⟩ ((tr0 b n i).map nz) :: grM rowV gt rs :: (some b2, cellM [isGr gt rs.length, isB (decide (b < 0)), SlM isU (words b.natAbs)]) :: (some b1, cellM [isB (decide (b < 0)), SlM isU (words b.natAbs)]) :: rs.map rowM)) rfl)) (st (.mv (.t rfl)) rfl (st (.mv (.t rfl)) rfl (st (.nilc (.t rfl)) rfl (st (.fieldAddr (.t rfl) fld179_0 ty151) rfl (st (.load1 (.t rfl) (i := 2) rfl ty151 rfl) rfl (st (.mv (.t rfl)) rfl (st (.buildS [nilS] sl151 ty22 zero22 (fun _ _ => ⟨rfl, trivial⟩) rfl rfl (.cons (.t rfl) rfl rfl rfl .nil) rfl (S := SlM rowV [((⟨some b3, n, []⟩ : Gr (Bool × List Nat)), tr0 b n i)]) rfl) rfl (.appendG (f := rowV) (u := (Gr.nil, [])) sl151 ty22 zero22 (fun _ _ => ⟨gr0, trivial⟩) (fun _ => inferInstance) by22 (.t rfl) (i := 1) rfl (.t rfl) (by rw [hrl]; show i + 1 ≤ _; omega) (by simp) rfl fun gr1 => ?_))))))))))))
  refine .memEq (M' := (_ :: grM _ _ _ :: _ :: _ :: _)) rfl (st (.nilc (.t rfl)) rfl (st (.fieldAddr (.t rfl) fld179_0 ty151) rfl (.store (.t rfl) (.t rfl) (i := 2) rfl ty151 rfl rfl (Ss' := [_, _, _]) rfl (M' := (_ :: _ :: (some _, cellM [_, _, _]) :: _ :: _)) rfl (nl (.bln (.thn (k8 _ _ (.region (st (.addI (.t rfl) (.cI 1 rfl) (by first | omega | assumption) (by first | omega | assumption)) rfl (st (.mv (.t rfl)) rfl (nl (.thn ?_))))))))))))
  refine hK5 (⟨(i + 1, gr1, rs ++ [((⟨some b3, n, []⟩ : Gr (Bool × List Nat)), tr0 b n i)]), by show i + 1 ≤ n; omega, by show (rs ++ [((⟨some b3, n, []⟩ : Gr (Bool × List Nat)), tr0 b n i)]).map Prod.snd = _; rw [List.map_append, hrs, ← tri0_succ]; rfl⟩) _ _ ?_ (Cv.trans (Cv.perm perm_end) (Cv.mem (.c 12 rfl ?_ (.l [0, 3, 4, 5, 11] rfl)) ?_))
  ·show n - (i + 1) < n - i; omega
  ·exact isI_eq (by omega)
  ·show _ = grM rowV gr1 (rs ++ [_]) :: (some b2, cellM [isGr gr1 (rs ++ [_]).length, _, _]) :: _ :: (rs ++ [_]).map rowM; rw [List.map_append, List.length_append]; rfl
 ·have hc1 := BP.f hc1
  refine .exit (.the (.the (.blh (.thn (k3 _ _ (.cv (Cv.wk (.l [4, 5] rfl)) (.seq fun _ k12 => .cv (Cv.drop ((.cons_cons _ (.cons_cons _ (.cons _ (List.Sublist.refl _)))))) (.cv (Cv.wk (.l [4, 5] rfl)) (.cv (Cv.perm (List.Perm.swap _ _ _)) (.region (st (.mv (.t rfl)) rfl (st (.as (.t rfl)) rfl (nl (.thn (k12 _ _ (.ret (rtX1 (.inl rfl) Tryz.results212 rfl (.tmp (.t rfl) .nil) (⟨b2, gt, rs, rfl, rfl, by rw [hrs, show i = n by omega]⟩))))))))))))))))))
theorem modhnf_put {b : Int} {n K n0 : Nat} {gt : Gr (Option (List Int))} {rows : List (List Int)} {v0 : List Int} (hb : 0 < b) (hn : n ≤ 64) (hK : K ≤ 30000000) (hbK : (List.length (words b.natAbs)) ≤ K) (hT : TriR b n rows) (hv : VR b n 0 v0) : CtrX Tryz.prog 213 [PtrL [isGr gt n, isB (decide (b < 0)), SlM isU (words b.natAbs)], isP v0] ([grM (tN n0) gt (rows.map some)]) (fun S M => S = isTup [] ∧ M = [grM (tN n0) gt ((putT b rows v0).map some)]) := by
 refine CtrX.intro Tryz.func213 rfl (by kernel_rfl) Tryz.ntmps213 rfl fun w0 F0 => .cv (Cv.wk (.l [0, 1] rfl)) (.seq fun _ k1 => .region (st (.mv (.t rfl)) rfl (st (.nilcP (.t rfl)) rfl (st (.fieldAddrP (.t rfl) fld179_0 ty151 (Ss' := [_, _, _]) rfl) rfl (st (.loadP1 (.t rfl) ty151) rfl (st (.len sl151 (.t rfl)) rfl (st (.mv (.cI 0 rfl)) rfl (nl (.thn (k1 _ _ (.block (.loopF [0, 17] (fun (z : { z : Nat × List (List Int) × List Int // z.1 ≤ n ∧ pss b (rows, v0) z.1 = z.2 }) => match z with | ⟨(k, rs, v), hI⟩ => [(18, isI (k : Int)), (1, isP v)]) (fun M => fun (z : { z : Nat × List (List Int) × List Int // z.1 ≤ n ∧ pss b (rows, v0) z.1 = z.2 }) => match z with | ⟨(k, rs, v), hI⟩ => [grM (tN n0) gt (rs.map some)]) (fun (z : { z : Nat × List (List Int) × List Int // z.1 ≤ n ∧ pss b (rows, v0) z.1 = z.2 }) => match z with | ⟨(k, rs, v), hI⟩ => n - k) (⟨(0, rows, v0), Nat.zero_le _, rfl⟩) (Cv.mem (.c 18 rfl ?_ (.c 1 rfl ?_ (.l [0, 17] rfl))) ?_) ?_))))))))))))
 ·rfl
 ·rfl
 ·rfl
 rintro ⟨⟨k, rs, v⟩, hI⟩ K2 hK2
 refine .cv (Cv.wk (.l [18, 1, 0, 17] rfl)) (.memEq (M' := [grM (tN n0) gt (rs.map some)]) rfl ?_)
 simp only [] at hI
 obtain ⟨hk, hps⟩ := hI
 have hok := pss_ok hb hT hv k hk
 rw [hps] at hok
 obtain ⟨hTk, hvk⟩ := hok
 simp only [] at hTk hvk
 have hvB := hvk.bd hbK
 have hvc := hvB k
 have hvl := hvk.len
 have hmv : (v.map nz).length = n := by rw [List.length_map, hvl]
 have hrl := hTk.len
 have hrm : (rs.map some).length = n := by rw [List.length_map, hrl]
 refine .seq fun _ k3 => .region (st (.ltI (.t rfl) (.t rfl)) rfl (nl (.thn (k3 _ _ (.seq fun _ k4 => .cond (.t rfl) (fun hc1 => ?_) (fun hc1 => ?_))))))
 ·have hc1 := BP.t hc1
  obtain ⟨p, hp⟩ : ∃ p, rs[k]? = some p := ⟨_, List.getElem?_eq_getElem (by omega)⟩
  have hpl := hTk.row k p hp
  have hpB := hTk.bd hbK hp
  have hpc := hpB k
  have hpd := hTk.dia k p hp
  have hxn := xgx_nw (cf p k) (cf v k) hvc
  have hyn := xgy_nw (cf p k) (cf v k) hpc
  have hgp := xgg_pos (b := (cf v k)) hpd.1
  have hg0 : ¬ (xgg (cf p k) (cf v k)) = 0 := by omega
  have hgn : (List.length (words (xgg (cf p k) (cf v k)).natAbs)) ≤ K := nw_le_b (by omega) (Int.le_trans (xgg_le hpd.1) hpd.2) hbK
  have hun := nz_tdiv (cf p k) (xgg (cf p k) (cf v k))
  have hwn := nz_tdiv (cf v k) (xgg (cf p k) (cf v k))
  have hpm : (p.map nz).length = n := by rw [List.length_map, hpl]
  have hps2 : (rs.map some)[k]? = some (some p) := by rw [List.getElem?_map, hp]; rfl
  refine .skip (.thn (k4 _ _ (.seq fun _ k5 => .block (.seq fun _ k6 => .region (st (.mv (.t rfl)) rfl (st (.as (.t rfl)) rfl (nl (.thn (k6 _ _ (.seq fun _ k7 => .seq fun _ k8 => .region (st (.mv (.t rfl)) rfl (st (.mv (.t rfl)) rfl (st (.ixK sl22 ty31 (.t rfl) (.t rfl) zc_len ⟨by omega, by omega⟩ (getZ (i := k) (by omega))) rfl (st (.loadP (.t rfl) ty31 rfl (Ss' := [_, _]) rfl) rfl (st (.eq (.call (zint_Sign (by rw [val_words]; omega)) (.cons (.t rfl) .nil)) ((show _ = isI (sgn (cf v k)) from by rw [zv_nz]))) rfl ?_)))))))))))))))
  refine st (.eqI (.t rfl) (.cI 0 rfl)) rfl (nl (.thn (k8 _ _ (.cond (.t rfl) (fun hc2 => ?_) (fun hc2 => ?_)))))
  ·have hc2 := BP.t hc2
   have h0 : cf v k = 0 := (sgn_eq0 _).1 hc2
   refine .exit (.the (.blh (.thn (k5 _ _ (.region (st (.addI (.t rfl) (.cI 1 rfl) (by first | omega | assumption) (by first | omega | assumption)) rfl (st (.mv (.t rfl)) rfl (nl (.thn ?_)))))))))
   refine hK2 (⟨(k + 1, rs, v), by show k + 1 ≤ n; omega, by show pst b (pss b (rows, v0) k) k = _; rw [hps, pst_no h0]⟩) _ _ ?_ (Cv.mem (.c 18 rfl ?_ (.c 1 rfl ?_ (.l [0, 17] rfl))) ?_)
   ·show n - (k + 1) < n - k; omega
   ·exact isI_eq (by omega)
   ·rfl
   ·rfl
  ·have hc2 := BP.f hc2
   have h0 : ¬ cf v k = 0 := fun e => hc2 ((sgn_eq0 _).2 e)
   refine .skip (.thn (k7 _ _ (.seq fun _ k9 => .region (st (.mv (.t rfl)) rfl (st (.nilcP (.t rfl)) rfl (st (.fieldAddrP (.t rfl) fld179_0 ty151 (Ss' := [_, _, _]) rfl) rfl (st (.loadP1 (.t rfl) ty151) rfl (st (.mv (.t rfl)) rfl (st (.ixGr sl151 ty22 (.t rfl) (.t rfl) ⟨by omega, by omega⟩) rfl (st (.eq (.loadGM (.t rfl) (i := 0) rfl ty22 hps2) ((show tN n0 (some p) = SlN n0 p from rfl))) rfl (st (.as (.t rfl)) rfl (nl (.thn (k9 _ _ (.seq fun _ k10 => .drh [true] (Ms := [_]) rfl (.s [] rfl rfl rfl (.o rfl (.mv (Has.wk (.t rfl) SlN.sl))) (.s [] rfl rfl rfl (.o rfl (.mv (.t rfl))) (.s [35, 36] rfl rfl rfl (.o rfl (.ixK sl22 ty31 (.t rfl) (.t rfl) zc_len ⟨by omega, by omega⟩ (getZ (i := k) (by omega)))) (.s [37] rfl rfl rfl (.o rfl (.loadP (.t rfl) ty31 rfl (Ss' := [_, _]) rfl)) (.s [] rfl rfl rfl (.o rfl (.mv (.t rfl))) (.s [] rfl rfl rfl (.o rfl (.mv (.t rfl))) (.s [39, 40] rfl rfl rfl (.o rfl (.ixK sl22 ty31 (.t rfl) (.t rfl) zc_len ⟨by omega, by omega⟩ (getZ (i := k) (by omega)))) (.s [41] rfl rfl rfl (.o rfl (.loadP (.t rfl) ty31 rfl (Ss' := [_, _]) rfl)) (.s [38, 42] rfl rfl rfl (.o rfl (.eq (.call (zint_XgcdA (by rw [val_words]; omega) (by rw [val_words]; omega)) (.cons (.t rfl) (.cons (.t rfl) .nil))) ((show _ = isTup [isZ (xgg (cf p k) (cf v k)), isZ (xgx (cf p k) (cf v k)), isZ (xgy (cf p k) (cf v k))] from by simp only [zv_nz, zv_nf])))) ?_))))))))))))))))))))))))
   refine .s [43] rfl rfl rfl (.o rfl (.mv (.t rfl))) (.s [34] rfl rfl rfl (.o rfl (.ext (.t rfl) rfl)) (.s [34] rfl rfl rfl (.o rfl (.ext (.t rfl) rfl)) (.s [34] rfl rfl rfl (.o rfl (.ext (.t rfl) rfl)) (.als (n1 := 16) (ds := [6, 7, 8]) (zs := [[isB false, SlM isU []], [isB false, SlM isU []], [isB false, SlM isU []]]) rfl (.cons rfl rfl zero31 (fun _ _ => ⟨rfl, nilM _ _, trivial⟩) (.cons rfl rfl zero31 (fun _ _ => ⟨rfl, nilM _ _, trivial⟩) (.cons rfl rfl zero31 (fun _ _ => ⟨rfl, nilM _ _, trivial⟩) .nil))) (.cons_cons _ .slnil) (Cs := [_, _, _]) rfl (.new [44] 0 (Ss' := [_, _]) (Cs' := [cellM [_, _], _, _]) rfl (by kernel_rfl) (by kernel_rfl) rfl rfl rfl (by kernel_rfl) rfl (.t rfl) ty31 rfl rfl rfl rfl (.new [45] 1 (Ss' := [_, _]) (Cs' := [_, cellM [_, _], _]) rfl (by kernel_rfl) (by kernel_rfl) rfl rfl rfl (by kernel_rfl) rfl (.t rfl) ty31 rfl rfl rfl rfl (.fin (n := 18) mixed rfl (by kernel_rfl) (by kernel_rfl) (by kernel_rfl) (fun bs hbs => ?_))))))))
   obtain ⟨b1, b2, b3, rfl⟩ := len3 hbs
   refine .memEq (M' := [_, _, _, _]) rfl (.cv (Cv.wk (.k 0 rfl (.k 17 rfl (.k 18 rfl (.k 1 rfl (.k 19 rfl (.k 20 rfl (.k 4 rfl (.k 21 rfl (.k 22 rfl (.k 23 rfl (.k 24 rfl (.k 25 rfl (.k 26 rfl (.k 27 rfl (.k 28 rfl (.k 29 rfl (.k 30 rfl (.k 31 rfl (.k 32 rfl (.k 33 rfl (.k 5 rfl (.k 35 rfl (.k 36 rfl (.k 37 rfl (.k 38 rfl (.k 39 rfl (.k 40 rfl (.k 41 rfl (.k 42 rfl (.k 43 rfl (.k 34 rfl (.k 44 rfl (.k 45 rfl (.k 46 rfl (.cons (t := 6) (Has.op rfl) (.cons (t := 7) (Has.op rfl) (.cons (t := 8) (Has.op rfl) .nil)))))))))))))))))))))))))))))))))))))) (.store (.t rfl) (.t rfl) (i := 2) rfl ty31 rfl rfl (Ss' := [_, _]) rfl (M' := [_, _, (some _, cellM [_, _]), _]) rfl (nl (.thn (k10 _ _ (.seq fun _ k11 => .drh [true, true, true, true] (Ms := [_, _, _, _]) rfl (.s [] rfl rfl rfl (.o rfl (.mv (Has.wk (.t rfl) SlN.sl))) (.s [] rfl rfl rfl (.o rfl (.mv (.t rfl))) (.s [48, 49] rfl rfl rfl (.o rfl (.ixK sl22 ty31 (.t rfl) (.t rfl) zc_len ⟨by omega, by omega⟩ (getZ (i := k) (by omega)))) (.s [50] rfl rfl rfl (.o rfl (.loadP (.t rfl) ty31 rfl (Ss' := [_, _]) rfl)) (.s [] rfl rfl rfl (.o rfl (.load (.t rfl) (i := 0) rfl ty31 rfl (Ss' := [_, _]) rfl)) (.s [51, 52] rfl rfl rfl (.o rfl (.call (zint_Exact (by rw [val_words]; omega) (by rw [val_words]; omega)) (.cons (.t rfl) (.cons (.t rfl) .nil)))) ?_))))))))))))
   refine .s [53] rfl rfl rfl (.o rfl (.mv (.t rfl))) (.s [47] rfl rfl rfl (.o rfl (.eq (.ext (.t rfl) rfl) ((show _ = isZ ((cf p k).tdiv (xgg (cf p k) (cf v k))) from isZ_eq (by simp only [zv_nz, zv_nf]; exact if_pos ⟨hg0, Int.tmod_eq_zero_of_dvd (xgg_left _ _)⟩))))) ?_)
   refine .s [47] rfl rfl rfl (.o rfl (.ext (.t rfl) rfl)) (.als (n1 := 10) (ds := [9]) (zs := [[isB false, SlM isU []]]) rfl (.cons rfl rfl zero31 (fun _ _ => ⟨rfl, nilM _ _, trivial⟩) .nil) (.cons_cons _ (.cons_cons _ (.cons_cons _ (.cons_cons _ .slnil)))) (Cs := [_]) rfl (.new [54] 0 (Ss' := [_, _]) (Cs' := [cellM [_, _]]) rfl (by kernel_rfl) (by kernel_rfl) rfl rfl rfl (by kernel_rfl) rfl (.t rfl) ty31 rfl rfl rfl rfl (.fin (n := 11) mixed rfl (by kernel_rfl) (by kernel_rfl) (by kernel_rfl) (fun bs hbs => ?_))))
   obtain ⟨b4, rfl⟩ := len1 hbs
   refine .memEq (M' := [_, _, _, _, _]) rfl (.cv (Cv.wk (.k 0 rfl (.k 17 rfl (.k 18 rfl (.k 1 rfl (.k 19 rfl (.k 20 rfl (.k 4 rfl (.k 21 rfl (.k 22 rfl (.k 23 rfl (.k 24 rfl (.k 25 rfl (.k 26 rfl (.k 27 rfl (.k 28 rfl (.k 29 rfl (.k 30 rfl (.k 31 rfl (.k 32 rfl (.k 33 rfl (.k 5 rfl (.k 35 rfl (.k 36 rfl (.k 37 rfl (.k 38 rfl (.k 39 rfl (.k 40 rfl (.k 41 rfl (.k 42 rfl (.k 43 rfl (.k 34 rfl (.k 44 rfl (.k 45 rfl (.k 46 rfl (.k 6 rfl (.k 7 rfl (.k 8 rfl (.k 48 rfl (.k 49 rfl (.k 50 rfl (.k 51 rfl (.k 52 rfl (.k 53 rfl (.k 47 rfl (.k 54 rfl (.k 55 rfl (.cons (t := 9) (Has.op rfl) .nil)))))))))))))))))))))))))))))))))))))))))))))))) (st (.as (.t rfl)) rfl (nl (.thn (k11 _ _ (.seq fun _ k12 => .drh [true, true, true, true, true] (Ms := [_, _, _, _, _]) rfl (.s [] rfl rfl rfl (.o rfl (.mv (.t rfl))) (.s [] rfl rfl rfl (.o rfl (.mv (.t rfl))) (.s [57, 58] rfl rfl rfl (.o rfl (.ixK sl22 ty31 (.t rfl) (.t rfl) zc_len ⟨by omega, by omega⟩ (getZ (i := k) (by omega)))) (.s [59] rfl rfl rfl (.o rfl (.loadP (.t rfl) ty31 rfl (Ss' := [_, _]) rfl)) (.s [] rfl rfl rfl (.o rfl (.load (.t rfl) (i := 1) rfl ty31 rfl (Ss' := [_, _]) rfl)) (.s [60, 61] rfl rfl rfl (.o rfl (.call (zint_Exact (by rw [val_words]; omega) (by rw [val_words]; omega)) (.cons (.t rfl) (.cons (.t rfl) .nil)))) ?_))))))))))))
   refine .s [62] rfl rfl rfl (.o rfl (.mv (.t rfl))) (.s [56] rfl rfl rfl (.o rfl (.eq (.ext (.t rfl) rfl) ((show _ = isZ ((cf v k).tdiv (xgg (cf p k) (cf v k))) from isZ_eq (by simp only [zv_nz, zv_nf]; exact if_pos ⟨hg0, Int.tmod_eq_zero_of_dvd (xgg_right _ _)⟩))))) ?_)
   refine .s [56] rfl rfl rfl (.o rfl (.ext (.t rfl) rfl)) (.als (n1 := 10) (ds := [11]) (zs := [[isB false, SlM isU []]]) rfl (.cons rfl rfl zero31 (fun _ _ => ⟨rfl, nilM _ _, trivial⟩) .nil) (.cons_cons _ (.cons_cons _ (.cons_cons _ (.cons_cons _ (.cons_cons _ .slnil))))) (Cs := [_]) rfl (.new [63] 0 (Ss' := [_, _]) (Cs' := [cellM [_, _]]) rfl (by kernel_rfl) (by kernel_rfl) rfl rfl rfl (by kernel_rfl) rfl (.t rfl) ty31 rfl rfl rfl rfl (.fin (n := 11) mixed rfl (by kernel_rfl) (by kernel_rfl) (by kernel_rfl) (fun bs hbs => ?_))))
   obtain ⟨b5, rfl⟩ := len1 hbs
   refine .memEq (M' := [_, _, _, _, _, _]) rfl (.cv (Cv.wk (.k 0 rfl (.k 17 rfl (.k 18 rfl (.k 1 rfl (.k 19 rfl (.k 20 rfl (.k 4 rfl (.k 21 rfl (.k 22 rfl (.k 23 rfl (.k 24 rfl (.k 25 rfl (.k 26 rfl (.k 27 rfl (.k 28 rfl (.k 29 rfl (.k 30 rfl (.k 31 rfl (.k 32 rfl (.k 33 rfl (.k 5 rfl (.k 35 rfl (.k 36 rfl (.k 37 rfl (.k 38 rfl (.k 39 rfl (.k 40 rfl (.k 41 rfl (.k 42 rfl (.k 43 rfl (.k 34 rfl (.k 44 rfl (.k 45 rfl (.k 46 rfl (.k 6 rfl (.k 7 rfl (.k 8 rfl (.k 48 rfl (.k 49 rfl (.k 50 rfl (.k 51 rfl (.k 52 rfl (.k 53 rfl (.k 47 rfl (.k 54 rfl (.k 55 rfl (.k 9 rfl (.k 57 rfl (.k 58 rfl (.k 59 rfl (.k 60 rfl (.k 61 rfl (.k 62 rfl (.k 56 rfl (.k 63 rfl (.k 64 rfl (.cons (t := 11) (Has.op rfl) .nil)))))))))))))))))))))))))))))))))))))))))))))))))))))))))) (st (.as (.t rfl)) rfl (nl (.thn (k12 _ _ (.dry mixed (.tk 0 rfl rfl rfl rfl (OKY.mv (.t rfl)) (.tk 4 rfl rfl rfl rfl (OKY.mv (.t rfl)) (.tk 5 rfl rfl rfl rfl (OKY.mv (.t rfl)) (.tk 7 rfl rfl rfl rfl (OKY.mv (.t rfl)) (.tk 9 rfl rfl rfl rfl (OKY.mv (.t rfl)) (.tk 10 rfl rfl rfl rfl (OKY.mv (.t rfl)) (.tk 12 rfl rfl rfl rfl (OKY.mv (.t rfl)) (.tk 15 rfl rfl rfl rfl (OKY.mv (Has.wk (.t rfl) SlN.sl)) (.tk 17 rfl rfl rfl rfl (OKY.mv (.t rfl)) (.tk 18 rfl rfl rfl rfl (OKY.mv (.t rfl)) (.go [] (.s 1 [] rfl rfl rfl (.o rfl (.nilcP (.t rfl))) (.s 2 [66] rfl rfl rfl (.o rfl (.fieldAddrP (.t rfl) fld179_0 ty151 (Ss' := [_, _, _]) rfl)) (.s 3 [67] rfl rfl rfl (.o rfl (.loadP1 (.t rfl) ty151)) (.s 6 [] rfl rfl rfl (.o rfl (.load (.t rfl) (i := 3) rfl ty31 rfl (Ss' := [_, _]) rfl)) (.s 8 [] rfl rfl rfl (.o rfl (.load (.t rfl) (i := 4) rfl ty31 rfl (Ss' := [_, _]) rfl)) (.s 11 [71, 73] rfl rfl rfl (.o rfl (.eq (.call (modhnf_mixedN (b := b) (A := K + 1) (D := K + 2) (K := K) hb (by rw [val_words]; omega) hpB (by rw [val_words]; omega) hvB (by omega) (by omega) (by omega) (by omega) (by omega) (by omega)) (.cons (.t rfl) (.cons (.t rfl) (.cons (.t rfl) (.cons (.t rfl) (.cons (.t rfl) (.cons (.t rfl) .nil))))))) ((show _ = tN n0 (some (mxT b k (xgx (cf p k) (cf v k)) p (xgy (cf p k) (cf v k)) v)) from congrArg (SlN n0) (by simp only [zv_nf]))))) ?_)))))))))))))))))))))))
   refine .s 13 [] rfl rfl rfl (.o rfl (.load (.t rfl) (i := 0) rfl ty31 rfl (Ss' := [_, _]) rfl)) (.s 14 [78] rfl rfl rfl (.o rfl (.call (zint_Neg (by rw [val_words]; omega)) (.cons (.t rfl) .nil))) ?_)
   refine .s 16 [] rfl rfl rfl (.o rfl (.load (.t rfl) (i := 1) rfl ty31 rfl (Ss' := [_, _]) rfl)) (.s 19 [79, 81] rfl rfl rfl (.o rfl (.eq (.call ((modhnf_mixedX (b := b) (xs := p.map nz) (ys := v.map nz) (A := K) (D := K) (K := K) hb (by rw [val_words, zv_nf, Int.natAbs_neg]; omega) (by rw [vals_nz]; exact hpB) (by rw [val_words]; omega) (by rw [vals_nz]; exact hvB) (by omega) (by omega) (by omega) (by rw [List.length_map, List.length_map]; omega) (by rw [List.length_map]; omega)).toP) (.cons (.t rfl) (.cons (.t rfl) (.cons (.t rfl) (.cons (.t rfl) (.cons (.t rfl) (.cons (.t rfl) .nil))))))) ((show _ = isP (mxT b k (-((cf v k).tdiv (xgg (cf p k) (cf v k)))) p ((cf p k).tdiv (xgg (cf p k) (cf v k))) v) from isPl_eq (by simp only [zv_nf, vals_nz]))))) ?_)
   refine .fin [20, 21, 22] (by kernel_rfl) (by kernel_rfl) (fun _ _ _ _ _ h => h) (by kernel_rfl) (by kernel_rfl) (by kernel_rfl) (by kernel_rfl) (by kernel_rfl) (by kernel_rfl) (by kernel_rfl) (by kernel_rfl) (by kernel_rfl) (.cv (Cv.wk (.l [0, 17, 18, 1, 19, 20, 4, 21, 22, 23, 24, 25, 26, 27, 28, 29, 30, 31, 32, 33, 5, 35, 36, 37, 38, 39, 40, 41, 42, 43, 34, 44, 45, 46, 6, 7, 8, 48, 49, 50, 51, 52, 53, 47, 54, 55, 9, 57, 58, 59, 60, 61, 62, 56, 63, 64, 11, 65, 69, 70, 72, 74, 75, 77, 80, 82, 83, 66, 67, 68, 71, 73, 76, 78, 79, 81, 84] rfl)) (st (.ixGr sl151 ty22 (.t rfl) (.t rfl) ⟨by omega, by omega⟩) rfl (.storeGM (z := some (mxT b k (xgx (cf p k) (cf v k)) p (xgy (cf p k) (cf v k)) v)) (.t rfl) (.t rfl) (i := 5) rfl ty22 (by omega) (M' := [_, _, _, _, _, grM _ _ _]) rfl (st (.as (.t rfl)) rfl (nl (.bln (.thn (k5 _ _ (.region (st (.addI (.t rfl) (.cI 1 rfl) (by first | omega | assumption) (by first | omega | assumption)) rfl (st (.mv (.t rfl)) rfl (nl (.thn ?_)))))))))))))
   refine hK2 (⟨(k + 1, rs.set k (mxT b k (xgx (cf p k) (cf v k)) p (xgy (cf p k) (cf v k)) v), mxT b k (-((cf v k).tdiv (xgg (cf p k) (cf v k)))) p ((cf p k).tdiv (xgg (cf p k) (cf v k))) v), by show k + 1 ≤ n; omega, by show pst b (pss b (rows, v0) k) k = _; rw [hps]; exact pst_go hp h0⟩) _ _ ?_ (Cv.trans (Cv.drop ((.cons _ (.cons _ (.cons _ (.cons _ (.cons _ (.cons_cons _ .slnil)))))))) (Cv.mem (.c 18 rfl ?_ (.c 1 rfl ?_ (.l [0, 17] rfl))) ?_))
   ·show n - (k + 1) < n - k; omega
   ·exact isI_eq (by omega)
   ·rfl
   ·show [grM (tN n0) gt ((rs.map some).set k (some _))] = [grM (tN n0) gt ((rs.set k _).map some)]; rw [List.map_set]
 ·have hc1 := BP.f hc1
  refine .exit (.the (.the (.blh (rtX0D (.cons_cons _ .slnil) (.inr rfl) Tryz.results213 rfl ?_))))
  exact ⟨rfl, by unfold putT; rw [hT.len, show n = k by omega, hps]⟩
theorem tri_round {gt : Gr Row} {rs : List Row} {i j : Nat} {r : Row} {N : List Int} (h : rs[i]? = some r) (hl : N.length = r.2.length) (hj : j = r.2.length) : (grM rowV gt rs :: (rs.set i (r.1, mixZ N r.2 j)).map rowM : Mem) = grM rowV gt (rs.set i (r.1, N)) :: (rs.set i (r.1, N)).map rowM := by
 subst hj; rw [mixZ_all hl, tab_set h hl]
theorem mixZ_start {a b c : Option Nat × MP} {rs : List Row} {i : Nat} {r : Row} {N : List Int} (h : rs[i]? = some r) : (a :: b :: c :: rs.map rowM : Mem) = a :: b :: c :: (rs.set i (r.1, mixZ N r.2 0)).map rowM := by
 rw [mixZ_zero, show rs.set i (r.1, r.2) = rs from set_same h]
theorem mx2_get {x y : Int} {p q : List Int} {k : Nat} (h : k < p.length) : (mx2 x p y q)[k]? = some (x * cf p k + y * cf q k) := by
 unfold mx2; rw [List.getElem?_map, List.getElem?_range h]; rfl
theorem modhnf_reduce {b : Int} {n K : Nat} {gt : Gr Row} {rs : List Row} (hn : n ≤ 64) (hbK : (List.length (words b.natAbs)) ≤ K) (hT : TriR b n (rs.map Prod.snd)) (hK : (K + 2) * 2 ^ n ≤ 80000000) : CtrX Tryz.prog 214 [PtrL [isGr gt n, isB (decide (b < 0)), SlM isU (words b.natAbs)]] (grM rowV gt rs :: rs.map rowM) (fun S M => ∃ rs', S = isTup [] ∧ M = (grM rowV gt rs' :: rs'.map rowM) ∧ rs'.map Prod.snd = rdT (rs.map Prod.snd) n) := by
 refine CtrX.intro Tryz.func214 rfl (by kernel_rfl) Tryz.ntmps214 rfl fun w0 F0 => .cv (Cv.wk (.l [0] rfl)) ?_
 have hrn : (rs.map Prod.snd).length = n := hT.len
 refine .seq fun _ k1 => .region (st (.mv (.t rfl)) rfl (st (.nilcP (.t rfl)) rfl (st (.fieldAddrP (.t rfl) fld179_0 ty151 (Ss' := [_, _, _]) rfl) rfl (st (.loadP1 (.t rfl) ty151) rfl (st (.len sl151 (.t rfl)) rfl (st (.mv (.cI 0 rfl)) rfl (nl (.thn (k1 _ _ (.block (.loopF [0, 12, 13] (fun (z : { z : Nat × List Row // z.1 ≤ n ∧ z.2.map Prod.snd = rdT (rs.map Prod.snd) z.1 }) => match z with | ⟨(k, rs1), hI⟩ => [(14, isI (k : Int))]) (fun M => fun (z : { z : Nat × List Row // z.1 ≤ n ∧ z.2.map Prod.snd = rdT (rs.map Prod.snd) z.1 }) => match z with | ⟨(k, rs1), hI⟩ => (grM rowV gt rs1 :: rs1.map rowM)) (fun (z : { z : Nat × List Row // z.1 ≤ n ∧ z.2.map Prod.snd = rdT (rs.map Prod.snd) z.1 }) => match z with | ⟨(k, rs1), hI⟩ => n - k) (⟨(0, rs), Nat.zero_le _, rfl⟩) (Cv.mem (.c 14 rfl ?_ (.l [0, 12, 13] rfl)) ?_) ?_)))))))))))
 ·rfl
 ·rfl
 rintro ⟨⟨k, rs1⟩, hI⟩ K2 hK2
 refine .cv (Cv.wk (.l [14, 0, 12, 13] rfl)) (.memEq (M' := (grM rowV gt rs1 :: rs1.map rowM)) rfl ?_)
 simp only [] at hI
 obtain ⟨hk, hrs1⟩ := hI
 have hl1 : rs1.length = n := by have := congrArg List.length hrs1; rwa [List.length_map, rdT_len, hrn] at this
 refine .seq fun _ k3 => .region (st (.ltI (.t rfl) (.t rfl)) rfl (nl (.thn (k3 _ _ (.seq fun _ k4 => .cond (.t rfl) (fun hc1 => ?_) (fun hc1 => ?_))))))
 ·have hc1 := BP.t hc1
  obtain ⟨rk, hrk⟩ : ∃ rk, rs1[k]? = some rk := ⟨_, List.getElem?_eq_getElem (by omega)⟩
  have hp2 : (K + 2) * 2 ^ k ≤ (K + 2) * 2 ^ n := Nat.mul_le_mul_left _ (Nat.pow_le_pow_right (by decide) hk)
  have hrkD : (rdT (rs.map Prod.snd) k)[k]? = some rk.2 := by rw [← hrs1, List.getElem?_map, hrk]; rfl
  have hbA := rdT_bd hT hbK k hk
  have hrow := rdT_row hT k hk
  have hkpos := rdT_pos hT (show k < n by omega)
  rw [getD_of hrkD] at hkpos
  have hrkl := hrow rk.2 (List.mem_of_getElem? hrkD)
  have hrkB := hbA rk.2 (List.mem_of_getElem? hrkD)
  have hrkm : (rk.2.map nz).length = n := by rw [List.length_map, hrkl]
  have hrkc := hrkB k
  refine .skip (.thn (k4 _ _ (.seq fun _ k5 => .block (.seq fun _ k6 => .region (st (.mv (.t rfl)) rfl (st (.ixGr sl151 ty22 (.t rfl) (.t rfl) ⟨by omega, by omega⟩) rfl (st (.loadGM (.t rfl) (i := 0) rfl ty22 hrk) rfl (st (.as (.t rfl)) rfl (st (.as (.t rfl)) rfl (nl (.thn (k6 _ _ (.seq fun _ k7 => .region (st (.mv (.t rfl)) rfl (st (.mv (.cI 0 rfl)) rfl (nl (.thn (k7 _ _ (.block (.loopF [0, 12, 13, 14, 15, 16, 17, 18, 2, 3, 19] (fun (z : { z : Nat × List Row // z.1 ≤ k ∧ z.2.map Prod.snd = rds (rdT (rs.map Prod.snd) k) k k z.1 ∧ ∀ j, z.1 ≤ j → z.2[j]? = rs1[j]? }) => match z with | ⟨(i, rs2), hI⟩ => [(20, isI (i : Int))]) (fun M => fun (z : { z : Nat × List Row // z.1 ≤ k ∧ z.2.map Prod.snd = rds (rdT (rs.map Prod.snd) k) k k z.1 ∧ ∀ j, z.1 ≤ j → z.2[j]? = rs1[j]? }) => match z with | ⟨(i, rs2), hI⟩ => (grM rowV gt rs2 :: rs2.map rowM)) (fun (z : { z : Nat × List Row // z.1 ≤ k ∧ z.2.map Prod.snd = rds (rdT (rs.map Prod.snd) k) k k z.1 ∧ ∀ j, z.1 ≤ j → z.2[j]? = rs1[j]? }) => match z with | ⟨(i, rs2), hI⟩ => k - i) (⟨(0, rs1), Nat.zero_le _, hrs1, fun j _ => rfl⟩) (Cv.mem (.c 20 rfl ?_ (.l [0, 12, 13, 14, 15, 16, 17, 18, 2, 3, 19] rfl)) ?_) ?_))))))))))))))))))))
  ·rfl
  ·rfl
  rintro ⟨⟨i, rs2⟩, hI⟩ K8 hK8
  refine .cv (Cv.wk (.l [20, 0, 12, 13, 14, 15, 16, 17, 18, 2, 3, 19] rfl)) (.memEq (M' := (grM rowV gt rs2 :: rs2.map rowM)) rfl ?_)
  simp only [] at hI
  obtain ⟨hi, hrs2, hfar⟩ := hI
  have hl2 : rs2.length = n := by have := congrArg List.length hrs2; rwa [List.length_map, rds_len, rdT_len, hrn] at this
  have hrk2 := (hfar k hi).trans hrk
  refine .seq fun _ k9 => .region (st (.ltI (.t rfl) (.t rfl)) rfl (nl (.thn (k9 _ _ (.seq fun _ k10 => .cond (.t rfl) (fun hc2 => ?_) (fun hc2 => ?_))))))
  ·have hc2 := BP.t hc2
   obtain ⟨r, hr⟩ : ∃ r, rs2[i]? = some r := ⟨_, List.getElem?_eq_getElem (by omega)⟩
   have hrD : (rdT (rs.map Prod.snd) k)[i]? = some r.2 := by rw [← rds_off (t := k) (col := k) (Nat.le_refl i), ← hrs2, List.getElem?_map, hr]; rfl
   have hrl := hrow r.2 (List.mem_of_getElem? hrD)
   have hrB := hbA r.2 (List.mem_of_getElem? hrD)
   have hrm : (r.2.map nz).length = n := by rw [List.length_map, hrl]
   have hrc := hrB k
   have hqn := div_nw hkpos hrc
   refine .skip (.thn (k10 _ _ (.seq fun _ k11 => .block (.seq fun _ k12 => .region (st (.mv (.t rfl)) rfl (st (.as (.t rfl)) rfl (nl (.thn (k12 _ _ (.seq fun _ k13 => .drhS (.cons_cons _ (List.Sublist.refl _)) (.s [] rfl rfl rfl (.o rfl (.mv (.t rfl))) (.s [24] rfl rfl rfl (.o rfl (.nilcP (.t rfl))) (.s [25] rfl rfl rfl (.o rfl (.fieldAddrP (.t rfl) fld179_0 ty151 (Ss' := [_, _, _]) rfl)) (.s [26] rfl rfl rfl (.o rfl (.loadP1 (.t rfl) ty151)) (.s [] rfl rfl rfl (.o rfl (.mv (.t rfl))) (.s [27, 28] rfl rfl rfl (.o rfl (.ixGr sl151 ty22 (.t rfl) (.t rfl) ⟨by omega, by omega⟩)) ?_))))))))))))))))
   refine .s [29] rfl rfl rfl (.o rfl (.loadGM (.t rfl) (i := 0) rfl ty22 hr)) (.s [] rfl rfl rfl (.o rfl (.mv (.t rfl))) (.s [30, 31] rfl rfl rfl (.o rfl (.ixGr sl22 ty31 (.t rfl) (.t rfl) ⟨by omega, by omega⟩)) ?_))
   refine .s [32] rfl rfl rfl (.o rfl (.loadGK zc_len (.t rfl) (i := 1 + i) (wkAt (pre := [_]) hr) ty31 (getZ (i := k) (by omega)))) (.s [] rfl rfl rfl (.o rfl (.mv (.t rfl))) (.s [] rfl rfl rfl (.o rfl (.mv (.t rfl))) (.s [34, 35] rfl rfl rfl (.o rfl (.ixGr sl22 ty31 (.t rfl) (.t rfl) ⟨by omega, by omega⟩)) ?_)))
   refine .s [36] rfl rfl rfl (.o rfl (.loadGK zc_len (.t rfl) (i := 1 + k) (wkAt (pre := [_]) hrk2) ty31 (getZ (i := k) (by omega)))) (.s [33, 37] rfl rfl rfl (.o rfl (.eq (.call (zint_Floor (by rw [val_words]; omega) (by rw [val_words]; omega) (by rw [zv_nz]; exact hkpos)) (.cons (.t rfl) (.cons (.t rfl) .nil))) ((show _ = isTup [isZ (cf r.2 k / cf rk.2 k), isZ (cf r.2 k % cf rk.2 k), isB true] from by simp only [zv_nz, zv_nf])))) ?_)
   refine .s [38] rfl rfl rfl (.o rfl (.mv (.t rfl))) (.s [23] rfl rfl rfl (.o rfl (.ext (.t rfl) rfl)) (.s [23] rfl rfl rfl (.o rfl (.ext (.t rfl) rfl)) (.s [23] rfl rfl rfl (.o rfl (.ext (.t rfl) rfl)) (.als (n1 := 21) (ds := [5, 6]) (zs := [[isB false, SlM isU []], [isB false, SlM isU []]]) rfl (.cons rfl rfl zero31 (fun _ _ => ⟨rfl, nilM _ _, trivial⟩) (.cons rfl rfl zero31 (fun _ _ => ⟨rfl, nilM _ _, trivial⟩) .nil)) (.cons_cons _ (List.Sublist.refl _)) (Cs := [_, _]) rfl (.new [39] 0 (Ss' := [_, _]) (Cs' := [cellM [_, _], _]) rfl (by kernel_rfl) (by kernel_rfl) rfl rfl rfl (by kernel_rfl) rfl (.t rfl) ty31 rfl rfl rfl rfl (.new [40] 1 (Ss' := [_, _]) (Cs' := [_, cellM [_, _]]) rfl (by kernel_rfl) (by kernel_rfl) rfl rfl rfl (by kernel_rfl) rfl (.t rfl) ty31 rfl rfl rfl rfl (.fin (n := 23) mixed rfl (by kernel_rfl) (by kernel_rfl) (by kernel_rfl) (fun bs hbs => ?_))))))))
   obtain ⟨b1, b2, rfl⟩ := len2 hbs
   refine .memEq (M' := (_ :: _ :: _ :: _)) rfl (.cv (Cv.wk (.k 0 rfl (.k 12 rfl (.k 13 rfl (.k 14 rfl (.k 15 rfl (.k 16 rfl (.k 17 rfl (.k 18 rfl (.k 2 rfl (.k 3 rfl (.k 19 rfl (.k 20 rfl (.k 21 rfl (.k 22 rfl (.k 4 rfl (.k 24 rfl (.k 25 rfl (.k 26 rfl (.k 27 rfl (.k 28 rfl (.k 29 rfl (.k 30 rfl (.k 31 rfl (.k 32 rfl (.k 33 rfl (.k 34 rfl (.k 35 rfl (.k 36 rfl (.k 37 rfl (.k 38 rfl (.k 23 rfl (.k 39 rfl (.k 40 rfl (.k 41 rfl (.cons (t := 5) (Has.op rfl) (.cons (t := 6) (Has.op rfl) .nil))))))))))))))))))))))))))))))))))))) (st (.as (.t rfl)) rfl (nl (.thn (k13 _ _ (.seq fun _ k14 => .region (st (.mv (.t rfl)) rfl (st (.len sl22 (.t rfl)) rfl (st (.mv (.cI 0 rfl)) rfl (nl (.thn (k14 _ _ (.block (.loopF [0, 12, 13, 14, 15, 16, 17, 18, 2, 3, 19, 20, 21, 22, 4, 24, 25, 26, 27, 28, 29, 30, 31, 32, 33, 34, 35, 36, 37, 38, 23, 39, 40, 41, 5, 6, 42, 43] (fun (z : { j : Nat // j ≤ n }) => match z with | ⟨j, hj⟩ => [(44, isI (j : Int))]) (fun M => fun (z : { j : Nat // j ≤ n }) => match z with | ⟨j, hj⟩ => (zM b1 (cf r.2 k / cf rk.2 k) :: zM b2 (cf r.2 k % cf rk.2 k) :: grM rowV gt rs2 :: (rs2.set i (r.1, mixZ (mx2 1 r.2 (-(cf r.2 k / cf rk.2 k)) rk.2) r.2 j)).map rowM)) (fun (z : { j : Nat // j ≤ n }) => match z with | ⟨j, hj⟩ => n - j) (⟨0, Nat.zero_le _⟩) (Cv.mem (.c 44 rfl ?_ (.l [0, 12, 13, 14, 15, 16, 17, 18, 2, 3, 19, 20, 21, 22, 4, 24, 25, 26, 27, 28, 29, 30, 31, 32, 33, 34, 35, 36, 37, 38, 23, 39, 40, 41, 5, 6, 42, 43] rfl)) ?_) ?_))))))))))))))
   ·rfl
   ·exact mixZ_start hr
   rintro ⟨j, hj⟩ K15 hK15
   refine .cv (Cv.wk (.l [44, 0, 12, 13, 14, 15, 16, 17, 18, 2, 3, 19, 20, 21, 22, 4, 24, 25, 26, 27, 28, 29, 30, 31, 32, 33, 34, 35, 36, 37, 38, 23, 39, 40, 41, 5, 6, 42, 43] rfl)) (.memEq (M' := (zM b1 (cf r.2 k / cf rk.2 k) :: zM b2 (cf r.2 k % cf rk.2 k) :: grM rowV gt rs2 :: (rs2.set i (r.1, mixZ (mx2 1 r.2 (-(cf r.2 k / cf rk.2 k)) rk.2) r.2 j)).map rowM)) rfl ?_)
   have hset : (rs2.set i (r.1, mixZ (mx2 1 r.2 (-(cf r.2 k / cf rk.2 k)) rk.2) r.2 j))[i]? = some (r.1, mixZ (mx2 1 r.2 (-(cf r.2 k / cf rk.2 k)) rk.2) r.2 j) := List.getElem?_set_self (by omega)
   have hsetk : (rs2.set i (r.1, mixZ (mx2 1 r.2 (-(cf r.2 k / cf rk.2 k)) rk.2) r.2 j))[k]? = some rk := (List.getElem?_set_ne (by omega)).trans hrk2
   refine .seq fun _ k16 => .region (st (.ltI (.t rfl) (.t rfl)) rfl (nl (.thn (k16 _ _ (.seq fun _ k17 => .cond (.t rfl) (fun hc3 => ?_) (fun hc3 => ?_))))))
   ·have hc3 := BP.t hc3
    have hrj := hrB j
    have hkj := hrkB j
    have hmj := nz_mul (cf r.2 k / cf rk.2 k) (cf rk.2 j)
    refine .skip (.thn (k17 _ _ (.seq fun _ k18 => .block (.seq fun _ k19 => .region (st (.mv (.t rfl)) rfl (st (.as (.t rfl)) rfl (nl (.thn (k19 _ _ (.dry mixed (.tk 0 rfl rfl rfl rfl (OKY.mv (.t rfl)) (.tk 4 rfl rfl rfl rfl (OKY.mv (.t rfl)) (.tk 7 rfl rfl rfl rfl (OKY.mv (.t rfl)) (.tk 8 rfl rfl rfl rfl (OKY.mv (.t rfl)) (.tk 12 rfl rfl rfl rfl (OKY.mv (.t rfl)) (.tk 15 rfl rfl rfl rfl (OKY.mv (.t rfl)) (.tk 19 rfl rfl rfl rfl (OKY.mv (.t rfl)) (.tk 20 rfl rfl rfl rfl (OKY.mv (.t rfl)) (.go [] (.s 1 [] rfl rfl rfl (.o rfl (.nilcP (.t rfl))) (.s 2 [48] rfl rfl rfl (.o rfl (.fieldAddrP (.t rfl) fld179_0 ty151 (Ss' := [_, _, _]) rfl)) (.s 3 [49] rfl rfl rfl (.o rfl (.loadP1 (.t rfl) ty151)) (.s 5 [50] rfl rfl rfl (.o rfl (.ixGr sl151 ty22 (.t rfl) (.t rfl) ⟨by omega, by omega⟩)) ?_)))))))))))))))))))))))
    refine .s 6 [52] rfl rfl rfl (.o rfl (.loadGM (.t rfl) (i := 2) rfl ty22 hr)) (.s 9 [] rfl rfl rfl (.o rfl (.nilcP (.t rfl))) (.s 10 [56] rfl rfl rfl (.o rfl (.fieldAddrP (.t rfl) fld179_0 ty151 (Ss' := [_, _, _]) rfl)) (.s 11 [57] rfl rfl rfl (.o rfl (.loadP1 (.t rfl) ty151)) (.s 13 [58] rfl rfl rfl (.o rfl (.ixGr sl151 ty22 (.t rfl) (.t rfl) ⟨by omega, by omega⟩)) ?_))))
    refine .s 14 [60] rfl rfl rfl (.o rfl (.loadGM (.t rfl) (i := 2) rfl ty22 hr)) (.s 16 [61] rfl rfl rfl (.o rfl (.ixGr sl22 ty31 (.t rfl) (.t rfl) ⟨by omega, by omega⟩)) ?_)
    refine .s 17 [63] rfl rfl rfl (.o rfl (.loadGK zc_len (.t rfl) (i := 3 + i) (wkAt (pre := [_, _, _]) (r := (r.1, mixZ (mx2 1 r.2 (-(cf r.2 k / cf rk.2 k)) rk.2) r.2 j)) hset) ty31 (show ((mixZ (mx2 1 r.2 (-(cf r.2 k / cf rk.2 k)) rk.2) r.2 j).map nz)[j]? = some (nz (cf r.2 j)) from by rw [List.getElem?_map, mixZ_at (mx2_len _ _ _ _) (by omega)]; rfl))) ?_
    refine .s 18 [] rfl rfl rfl (.o rfl (.load (.t rfl) (i := 0) rfl ty31 rfl (Ss' := [_, _]) rfl)) (.s 21 [] rfl rfl rfl (.o rfl (.ixGr sl22 ty31 (.t rfl) (.t rfl) ⟨by omega, by omega⟩)) ?_)
    refine .s 22 [68] rfl rfl rfl (.o rfl (.loadGK zc_len (.t rfl) (i := 3 + k) (wkAt (pre := [_, _, _]) hsetk) ty31 (getZ (i := j) (by omega)))) (.s 23 [65, 69] rfl rfl rfl (.o rfl (.eq (.call (zint_Mul (by rw [val_words]; omega) (by rw [val_words]; omega)) (.cons (.t rfl) (.cons (.t rfl) .nil))) ((show _ = isZ ((cf r.2 k / cf rk.2 k) * cf rk.2 j) from isZ_eq (by simp only [zv_nz, zv_nf]))))) ?_)
    refine .s 24 [64, 70] rfl rfl rfl (.o rfl (.eq (.call (zint_Sub (by rw [val_words]; omega) (by rw [val_words]; omega)) (.cons (.t rfl) (.cons (.t rfl) .nil))) ((show isZ _ = Flat (zc (nz (1 * cf r.2 j + -(cf r.2 k / cf rk.2 k) * cf rk.2 j))) from isZ_eq (by simp only [zv_nz, zv_nf]; rw [Int.one_mul, Int.neg_mul]; omega))))) ?_
    refine .fin [25, 26] (by kernel_rfl) (by kernel_rfl) (fun _ _ _ _ _ h => h) (by kernel_rfl) (by kernel_rfl) (by kernel_rfl) (by kernel_rfl) (by kernel_rfl) (by kernel_rfl) (by kernel_rfl) (by kernel_rfl) (by kernel_rfl) (.cv (Cv.wk (.l [0, 12, 13, 14, 15, 16, 17, 18, 2, 3, 19, 20, 21, 22, 4, 24, 25, 26, 27, 28, 29, 30, 31, 32, 33, 34, 35, 36, 37, 38, 23, 39, 40, 41, 5, 6, 42, 43, 44, 45, 46, 8, 47, 51, 54, 55, 59, 62, 66, 67, 48, 49, 50, 52, 53, 56, 57, 58, 60, 61, 63, 64, 65, 68, 69, 70, 71] rfl)) (st (.ixGr sl22 ty31 (.t rfl) (.t rfl) ⟨by omega, by omega⟩) rfl (.storeGK (z := nz (1 * cf r.2 j + -(cf r.2 k / cf rk.2 k) * cf rk.2 j)) zc_len (.t rfl) (.t rfl) (i := 3 + i) (wkAt (pre := [_, _, _]) (r := (r.1, mixZ (mx2 1 r.2 (-(cf r.2 k / cf rk.2 k)) rk.2) r.2 j)) hset) ty31 (by rw [List.length_map, mixZ_len (mx2_len _ _ _ _) (by omega)]; omega) (M' := (_ :: _ :: _ :: (rs2.set i (r.1, mixZ (mx2 1 r.2 (-(cf r.2 k / cf rk.2 k)) rk.2) r.2 (j + 1))).map rowM)) (wkStore (pre := [_, _, _]) (X := (r.1, mixZ (mx2 1 r.2 (-(cf r.2 k / cf rk.2 k)) rk.2) r.2 j)) hset (mixZ_set (mx2_len _ _ _ _) (by omega) (mx2_get (by omega)))) ?_)))
    refine nl (.bln (.thn (k18 _ _ (.region (st (.addI (.t rfl) (.cI 1 rfl) (by first | omega | assumption) (by first | omega | assumption)) rfl (st (.mv (.t rfl)) rfl (nl (.thn (hK15 (⟨j + 1, by omega⟩) _ _ ?_ (Cv.mem (.c 44 rfl ?_ (.l [0, 12, 13, 14, 15, 16, 17, 18, 2, 3, 19, 20, 21, 22, 4, 24, 25, 26, 27, 28, 29, 30, 31, 32, 33, 34, 35, 36, 37, 38, 23, 39, 40, 41, 5, 6, 42, 43] rfl)) ?_))))))))))
    ·show n - (j + 1) < n - j; omega
    ·exact isI_eq (by omega)
    ·rfl
   ·have hc3 := BP.f hc3
    refine .exit (.the (.the (.blh (.bln (.thn (k11 _ _ (.region (st (.addI (.t rfl) (.cI 1 rfl) (by first | omega | assumption) (by first | omega | assumption)) rfl (st (.mv (.t rfl)) rfl (nl (.thn ?_)))))))))))
    have hjn : j = r.2.length := by omega
    refine hK8 (⟨(i + 1, rs2.set i (r.1, (mx2 1 r.2 (-(cf r.2 k / cf rk.2 k)) rk.2))), by show i + 1 ≤ k; omega, by show (rs2.set i _).map Prod.snd = rd _ _ _ _; rw [List.map_set, hrs2]; exact (rd_go (by rw [← hrs2, List.getElem?_map, hr]; rfl) (by rw [← hrs2, List.getElem?_map, hrk2]; rfl)).symm, fun j hj => by show (rs2.set i _)[j]? = _; rw [List.getElem?_set_ne (by change i + 1 ≤ j at hj; omega)]; exact hfar j (by change i + 1 ≤ j at hj; omega)⟩) _ _ ?_ (Cv.trans (Cv.drop ((.cons _ (.cons _ (.cons_cons _ (List.Sublist.refl _)))))) (Cv.mem (.c 20 rfl ?_ (.l [0, 12, 13, 14, 15, 16, 17, 18, 2, 3, 19] rfl)) ?_))
    ·show k - (i + 1) < k - i; omega
    ·exact isI_eq (by omega)
    ·exact tri_round hr (mx2_len _ _ _ _) hjn
  ·have hc2 := BP.f hc2
   refine .exit (.the (.the (.blh (.bln (.thn (k5 _ _ (.region (st (.addI (.t rfl) (.cI 1 rfl) (by first | omega | assumption) (by first | omega | assumption)) rfl (st (.mv (.t rfl)) rfl (nl (.thn ?_)))))))))))
   have hik : i = k := by omega
   refine hK2 (⟨(k + 1, rs2), by show k + 1 ≤ n; omega, by show rs2.map Prod.snd = rds _ _ _ _; rw [hrs2, hik]⟩) _ _ ?_ (Cv.mem (.c 14 rfl ?_ (.l [0, 12, 13] rfl)) ?_)
   ·show n - (k + 1) < n - k; omega
   ·exact isI_eq (by omega)
   ·rfl
 ·have hc1 := BP.f hc1
  refine .exit (.the (.the (.blh (rtX0 (.inr rfl) Tryz.results214 rfl (⟨rs1, rfl, rfl, by rw [hrs1, show k = n by omega]⟩)))))
end Go.Proofs.YthkdmhaafanjlaaGreat
namespace Go.Dt
open RowF Go.Br Go.Pz
def choices : Nat → Nat → List (List Nat)
 | _, 0 => [[]]
 | 0, _ + 1 => []
 | m + 1, n + 1 => if m + 1 < n + 1 then [] else choices m (n + 1) ++ (choices m n).map (fun l => l ++ [m])
theorem choices_zero (m : Nat) : choices m 0 = [[]] := by cases m <;> rfl
theorem choices_nil {m n : Nat} (h : m < n) : choices m n = [] := by
  cases n with
  | zero => omega
  | succ n =>
    cases m with
    | zero => rfl
    | succ m => unfold choices; rw [if_pos h]
theorem choices_succ {m n : Nat} (h : n ≤ m) : choices (m + 1) (n + 1) = choices m (n + 1) ++ (choices m n).map (fun l => l ++ [m]) := by
 show (if _ then _ else _) = _
 rw [if_neg (by omega)]
theorem choices_spec : ∀ (m n : Nat) (Y : List Nat), Y ∈ choices m n → Y.length = n ∧ ∀ x ∈ Y, x < m
  | m, 0, Y, h => by
    rw [choices_zero] at h
    obtain rfl := List.mem_singleton.1 h
    exact ⟨rfl, by simp⟩
  | 0, _ + 1, Y, h => by cases h
  | m + 1, n + 1, Y, h => by
    by_cases hm : m + 1 < n + 1
    · rw [choices_nil hm] at h; cases h
    · rw [choices_succ (by omega)] at h
      rcases List.mem_append.1 h with h | h
      · obtain ⟨h1, h2⟩ := choices_spec m (n + 1) Y h
        exact ⟨h1, fun x hx => Nat.lt_succ_of_lt (h2 x hx)⟩
      · obtain ⟨Z, hZ, rfl⟩ := List.mem_map.1 h
        obtain ⟨h1, h2⟩ := choices_spec m n Z hZ
        refine ⟨by rw [List.length_append, h1]; rfl, fun x hx => ?_⟩
        rcases List.mem_append.1 hx with hx | hx
        · exact Nat.lt_succ_of_lt (h2 x hx)
        · rw [List.mem_singleton.1 hx]; exact Nat.lt_succ_self m
theorem choices_perm : ∀ (m n : Nat) (X : List Nat), X.Nodup → X.length = n → (∀ x ∈ X, x < m) → ∃ Y, Y ∈ choices m n ∧ Y.Perm X
  | m, 0, X, _, hl, _ => by
    obtain rfl := List.eq_nil_of_length_eq_zero hl
    exact ⟨[], by rw [choices_zero]; exact List.mem_singleton.2 rfl, List.Perm.refl _⟩
  | 0, n + 1, x :: X, _, _, h => absurd (h x (by simp)) (Nat.not_lt_zero _)
  | m + 1, n + 1, X, hd, hl, h => by
    by_cases hm : m ∈ X
    · have hp := List.perm_cons_erase hm
      have hd2 := (hp.nodup_iff.1 hd)
      obtain ⟨hd3, hd4⟩ := List.nodup_cons.1 hd2
      obtain ⟨Y, hY, hYp⟩ := choices_perm m n (X.erase m) hd4 (by rw [List.length_erase_of_mem hm, hl]; rfl) fun x hx => by
        have h1 := h x (List.mem_of_mem_erase hx)
        have h2 : x ≠ m := fun e => hd3 (e ▸ hx)
        omega
      have hnm : n ≤ m := by
        rcases Nat.lt_or_ge m n with h1 | h1
        · rw [choices_nil h1] at hY; cases hY
        · exact h1
      refine ⟨Y ++ [m], by rw [choices_succ hnm]; exact List.mem_append_right _ (List.mem_map.2 ⟨Y, hY, rfl⟩), ?_⟩
      exact (List.perm_append_singleton m Y).trans ((hYp.cons m).trans hp.symm)
    · obtain ⟨Y, hY, hYp⟩ := choices_perm m (n + 1) X hd hl fun x hx => by
        have h1 := h x hx
        have h2 : x ≠ m := fun e => hm (e ▸ hx)
        omega
      have hnm : n ≤ m := by
        rcases Nat.lt_or_ge m (n + 1) with h1 | h1
        · rw [choices_nil h1] at hY; cases hY
        · omega
      exact ⟨Y, by rw [choices_succ hnm]; exact List.mem_append_left _ hY, hYp⟩
def someM (A : MatF) (R : Nat) (cols : List Nat) : Bool := (choices R cols.length).any fun rs => decide (mn A rs cols ≠ 0)
def pivs (A : MatF) (R : Nat) : Nat → List Nat
 | 0 => []
 | c + 1 => if someM A R (pivs A R c ++ [c]) = true then pivs A R c ++ [c] else pivs A R c
theorem BI.some_yes {A : MatF} {R C c i : Nat} {s : BS} {q : List Nat} {r : List Int} (h : BI A R C c s q) (hti : s.ps.length ≤ i) (hi : s.rows[i]? = some r) (hc : c < C) (hne : cf r c ≠ 0) : someM A R (s.ps ++ [c]) = true := by
 have hiR : i < R := by have := lt_some hi; have := h.hR; omega
 have hw := h.row i r hti hi c hc
 have hql := h.hq
 have hqi : q[i]? = some (q.getD i 0) := some_getD (by rw [h.hq]; exact hiR)
 have e1 : mn A (q.take s.ps.length ++ [q.getD i 0]) (s.ps ++ [c]) ≠ 0 := by
  rw [← mn_rev A (by rw [List.length_append, List.length_append, List.length_take]; simp; omega), List.reverse_append, List.reverse_append]
  show mn A (q.getD i 0 :: (q.take s.ps.length).reverse) (c :: s.ps.reverse) ≠ 0
  rw [← hw]; exact hne
 have hnd : (q.take s.ps.length ++ [q.getD i 0]).Nodup := by
  rw [List.nodup_append]
  refine ⟨h.nd.sublist (List.take_sublist _ _), by simp, fun a ha b hb e => ?_⟩
  rw [List.mem_singleton.1 hb] at e
  obtain ⟨j, hj, e2⟩ := List.mem_iff_getElem.1 ha
  rw [List.length_take] at hj
  rw [List.getElem_take] at e2
  refine (List.pairwise_iff_getElem.1 h.nd) j i (by omega) (by omega) (by omega) ?_
  rw [List.getElem?_eq_getElem (by omega)] at hqi
  rw [Option.some.inj hqi, e2, e]
 obtain ⟨Y, hY, hp⟩ := choices_perm R (s.ps ++ [c]).length (q.take s.ps.length ++ [q.getD i 0]) hnd (by rw [List.length_append, List.length_append, List.length_take]; simp; omega) fun x hx => by
  rcases List.mem_append.1 hx with hx | hx
  ·exact h.lt x (List.mem_of_mem_take hx)
  ·rw [List.mem_singleton.1 hx]; exact h.lt _ (List.mem_of_getElem? hqi)
 unfold someM
 rw [List.any_eq_true]
 exact ⟨Y, hY, decide_eq_true (mn_perm A hp.symm [] e1)⟩
theorem BI.some_no {A : MatF} {R C c : Nat} {s : BS} {q : List Nat} (h : BI A R C c s q) (hc : c < C) (hz : ∀ (j : Nat) (r : List Int), s.ps.length ≤ j → s.rows[j]? = some r → cf r c = 0) : someM A R (s.ps ++ [c]) = false := by
 obtain ⟨rs, hrs⟩ : ∃ rs, rs = (q.take s.ps.length).reverse := ⟨_, rfl⟩
 have hql := h.hq
 have hpl := h.hps
 have hrl : rs.length = s.ps.length := by rw [hrs, List.length_reverse, List.length_take]; omega
 have hD : mn A rs s.ps.reverse ≠ 0 := by rw [hrs, ← h.hl]; exact h.h0
 have hzero : ∀ y, y < R → ∀ k, k ∈ s.ps ++ [c] → mn A (y :: rs) (k :: s.ps.reverse) = 0 := by
  intro y hy k hk
  rcases List.mem_append.1 hk with hk | hk
  ·exact mn_col A (by rw [List.length_reverse, hrl]) y (List.mem_reverse.2 hk)
  ·rw [List.mem_singleton.1 hk]
   by_cases hm : y ∈ rs
   ·exact mn_row A hm c
   ·have hyq : y ∈ q := h.pm.mem_iff.2 (List.mem_range.2 hy)
    obtain ⟨j, hj, e⟩ := mem_getD hyq
    have htj : s.ps.length ≤ j := by
     rcases Nat.lt_or_ge j s.ps.length with h1 | h1
     ·refine absurd ?_ hm
      rw [hrs, List.mem_reverse, ← e]
      rw [List.getD, List.getElem?_eq_getElem hj]
      show q[j] ∈ _
      have : q[j] = (q.take s.ps.length)[j]'(by rw [List.length_take]; omega) := (List.getElem_take).symm
      rw [this]; exact List.getElem_mem _
     ·exact h1
    have hjr : j < s.rows.length := by rw [h.hR]; omega
    have hr := List.getElem?_eq_getElem hjr
    rw [← e, hrs, ← h.row j _ htj hr c hc]
    exact hz j _ htj hr
 unfold someM
 rw [List.any_eq_false]
 intro Y hY
 obtain ⟨h1, h2⟩ := choices_spec _ _ _ hY
 have hc1 : (s.ps ++ [c]).length = s.ps.length + 1 := by simp
 have h0 : mn A Y (s.ps ++ [c]) = 0 := by
  unfold mn
  rw [h1, hc1]
  refine det_few (D := mn A rs s.ps.reverse) hD (e := fun i r => - ec A rs s.ps.reverse (Y.getD i 0) r) (V := fun r j => A (rs.getD r 0) ((s.ps ++ [c]).getD j 0)) fun i j hi hj => ?_
  have hx := mn_exp A rs s.ps.reverse (Y.getD i 0) ((s.ps ++ [c]).getD j 0)
  rw [hzero _ (h2 _ (getD_mem (by omega))) _ (getD_mem (by omega)), hrl] at hx
  have hs : (sm s.ps.length fun r => - ec A rs s.ps.reverse (Y.getD i 0) r * A (rs.getD r 0) ((s.ps ++ [c]).getD j 0)) = - sm s.ps.length fun r => ec A rs s.ps.reverse (Y.getD i 0) r * A (rs.getD r 0) ((s.ps ++ [c]).getD j 0) := by
   have := sm_smul (-1) (fun r => ec A rs s.ps.reverse (Y.getD i 0) r * A (rs.getD r 0) ((s.ps ++ [c]).getD j 0)) s.ps.length
   rw [show -1 * (sm s.ps.length fun r => ec A rs s.ps.reverse (Y.getD i 0) r * A (rs.getD r 0) ((s.ps ++ [c]).getD j 0)) = - sm s.ps.length fun r => ec A rs s.ps.reverse (Y.getD i 0) r * A (rs.getD r 0) ((s.ps ++ [c]).getD j 0) by omega] at this
   rw [← this]
   exact sm_congr fun r _ => by rw [Int.neg_mul]; omega
  rw [hs]
  show mn A rs s.ps.reverse * A (Y.getD i 0) ((s.ps ++ [c]).getD j 0) = _
  omega
 rw [h0]; decide
theorem BI.pivs {A : MatF} {R C : Nat} {s0 : BS} {q0 : List Nat} (h0 : BI A R C 0 s0 q0) (hp : s0.ps = []) : ∀ {c : Nat} {s : BS}, BRun s0 c s → c ≤ C → s.ps = Go.Dt.pivs A R c := by
  intro c s h
  induction h with
  | zero => exact fun _ => hp
  | @step c s s' hr hs ih =>
    intro hc
    obtain ⟨q, hq⟩ := h0.all hr (by omega)
    have e := ih (by omega)
    show _ = if someM A R (Go.Dt.pivs A R c ++ [c]) = true then _ else _
    rw [← e]
    rcases hs with ⟨rfl, hz⟩ | ⟨i, r, t, sw, hti, hi, ht, hne, hsw, k1, k2, k3, k4, k5⟩
    · rw [if_neg (by rw [hq.some_no (by omega) hz]; decide)]
    · rw [if_pos (hq.some_yes hti hi (by omega) hne)]; exact k3
end Go.Dt
namespace Go.En
open Go.RowKit Go.Dt Go.Pz Go.Nt Go.Mz
section
variable {P : Program} {α : Type} {f : α → VP}
theorem CtrX.freeze {g : FuncId} {args : List VP} {ys : List α} (h : CtrX P g args [] (fun S M => ∃ gr : Gr α, S = isGr gr ys.length ∧ M = [grM f gr ys])) : Ctr P g args (SlM f ys) :=
 ⟨h.1, fun w F vs hF hargs => (h.2 w F vs hF ⟨List.Pairwise.nil, by simp⟩ hargs).mono (by
  rintro e w' ⟨v, S', M', F', rfl, ⟨gr, rfl, rfl⟩, hk, hsub, hnew, hv, _, heach⟩
  refine ⟨v, rfl, hk, ?_⟩
  rcases hv with ⟨h1, h2, rfl⟩ | ⟨b, hob, rfl, h1, h2⟩
  ·obtain rfl : ys = [] := List.eq_nil_of_length_eq_zero h2
   exact nilM _ _
  ·obtain ⟨g1, g2, g3, o, g4, us, T, rfl, hu⟩ := heach b (cellM ((ys ++ gr.sp).map f)) (by unfold grM; rw [hob]; simp)
   have hb : fresh F w w' b := by
    rcases g1 with g1 | g1
    ·exact .inr ⟨g1, g2⟩
    ·exact absurd g1 (by simp [blks])
   rw [List.map_append] at hu
   have hu2 := hu.take ys.length
   rw [List.take_left' (by simp)] at hu2
   refine ⟨_, _, rfl, by omega, h2, by simp, .inr ⟨b, 0, rfl, hb, us.take ys.length, All2.mono (fun _ _ => rfl) hnew _ _ hu2, fun j u hj => ?_⟩⟩
   rw [Nat.zero_add]
   have hj2 : j < ys.length := by
    rcases Nat.lt_or_ge j ys.length with h | h
    ·exact h
    ·rw [List.getElem?_take_eq_none h] at hj; cases hj
   rw [List.getElem?_take_of_lt hj2] at hj
   simp [World.cell?, g4, hj])⟩
end
theorem rtXND {E : Env} {P : Program} {Γ : Ctx} {M M' : Mem} {fn : Func} {rs : List ResultVar} {Rs : List VP} {R : VP → Mem → Prop} {W : List Nat} {e : Exit} (hs : M'.Sublist M) (he : e = .ret ∨ e = .normal) (hr : fn.results = rs.toArray) (hn : Nat.beq rs.length 1 = false) (hw : E.W = W) (h : ResL E P Γ M rs Rs) (hR : R (isTup Rs) M') : At E Γ M (bodyPost P fn (RetX E.w0 E.F0 W R)) e := by
 intro a w F s
 obtain ⟨vs, h1, h2⟩ := run_results hr h s
 have hl : Rs.length = rs.length := by
  clear h1 h2 s a w F vs hR
  clear hn hr
  induction h with
  | nil => rfl
  | tmp _ _ ih => simp [ih]
  | cell _ _ _ _ _ _ ih => simp [ih]
  | cell1 _ _ _ _ _ ih => simp [ih]
 have hne : vs.length ≠ 1 := by rw [← h2.len, hl]; exact Nat.ne_of_beq_eq_false hn
 rw [dif_neg hne] at h1
 exact fin_retXD (S := isTup Rs) hs he s hw h1 ⟨vs, rfl, h2⟩ hR
def fltn : List (List Int) → List Int
 | [] => []
 | r :: l => r ++ fltn l
theorem fltn_snoc {rs : List (List Int)} {i : Nat} {r : List Int} (h : rs[i]? = some r) : fltn (rs.take (i + 1)) = fltn (rs.take i) ++ r := by
 rw [List.take_add_one, h]
 have : ∀ l : List (List Int), fltn (l ++ [r]) = fltn l ++ r := fun l => by
  induction l with
  | nil => show r ++ [] = [] ++ r; rw [List.append_nil, List.nil_append]
  | cons a l ih => show a ++ fltn (l ++ [r]) = (a ++ fltn l) ++ r; rw [ih, List.append_assoc]
 exact this _
theorem fltn_len {W : Nat} : ∀ {rs : List (List Int)}, (∀ r ∈ rs, r.length ≤ W) → (fltn rs).length ≤ rs.length * W
  | [], _ => by simp [fltn]
  | r :: l, h => by
    have := fltn_len (rs := l) fun x hx => h x (List.mem_cons_of_mem _ hx)
    have := h r List.mem_cons_self
    show (r ++ fltn l).length ≤ _
    rw [List.length_append, List.length_cons, Nat.succ_mul]; omega
theorem run_pivs {R C K : Nat} {L : List Int} {rs : List Row} {ps : List Nat} {last : Int} {odd : Bool} (h : RunI ⟨rowsOf R C L, [], 1, false⟩ C K R C rs ps last odd) : ps = Go.Dt.pivs (mf C L) R C :=
 BI.pivs (BI.start (mf C L) (R := R) (C := C) (L := L) fun _ _ _ _ => rfl) rfl h.run (Nat.le_refl _)
end Go.En
namespace Go.Ch
open Go.Dt Go.Dt.RowF
/-! ### polynomials as functions -/
def pe (c : Nat → Int) (d : Nat) (x : Int) : Int := sm d fun i => c i * x ^ i
theorem pe_left (c : Nat → Int) (d : Nat) (x : Int) : pe c (d + 1) x = c 0 + x * pe (fun i => c (i + 1)) d x := by
 unfold pe
 rw [sm_left, Int.pow_zero, Int.mul_one, ← sm_smul]
 congr 1
 exact sm_congr fun i _ => by rw [Int.pow_succ]; grind
theorem pe_lin (x y : Int) (c e : Nat → Int) (d : Nat) (z : Int) : pe (fun i => x * c i + y * e i) d z = x * pe c d z + y * pe e d z := by
 unfold pe
 rw [← sm_lin]
 exact sm_congr fun i _ => by grind
theorem pe_succ (c : Nat → Int) (d : Nat) (x : Int) : pe c (d + 1) x = pe c d x + c d * x ^ d := rfl
theorem pe_congr {c e : Nat → Int} {d : Nat} (h : ∀ i, i < d → c i = e i) (x : Int) : pe c d x = pe e d x := sm_congr fun i hi => by rw [h i hi]
def PL (n : Nat) (f : Int → Int) (t : Int) : Prop := ∃ c : Nat → Int, (∀ x, f x = pe c (n + 1) x) ∧ c n = t
theorem PL.const (a : Int) : PL 0 (fun _ => a) a := ⟨fun _ => a, fun x => by show a = 0 + a * x ^ 0; rw [Int.pow_zero]; omega, rfl⟩
theorem PL.up {n : Nat} {f : Int → Int} {t : Int} (h : PL n f t) : PL (n + 1) f 0 := by
 obtain ⟨c, hc, _⟩ := h
 refine ⟨fun i => if i ≤ n then c i else 0, fun x => ?_, if_neg (by omega)⟩
 rw [pe_succ, if_neg (by omega), Int.zero_mul, Int.add_zero, hc]
 exact pe_congr (fun i hi => (if_pos (by omega)).symm) x
theorem PL.lin {n : Nat} {f g : Int → Int} {s t : Int} (a b : Int) (hf : PL n f s) (hg : PL n g t) : PL n (fun x => a * f x + b * g x) (a * s + b * t) := by
 obtain ⟨c, hc, rfl⟩ := hf
 obtain ⟨e, he, rfl⟩ := hg
 exact ⟨fun i => a * c i + b * e i, fun x => by dsimp only; rw [pe_lin, hc, he], rfl⟩
theorem PL.shift {n : Nat} {f : Int → Int} {t : Int} (h : PL n f t) : PL (n + 1) (fun x => x * f x) t := by
 obtain ⟨c, hc, rfl⟩ := h
 refine ⟨fun i => if i = 0 then 0 else c (i - 1), fun x => ?_, by dsimp only; rw [if_neg (by omega)]; rfl⟩
 dsimp only
 rw [pe_left, if_pos rfl, Int.zero_add, hc]
 congr 1
theorem PL.mul {n : Nat} {g : Int → Int} {t : Int} (a b : Int) (h : PL n g t) : PL (n + 1) (fun x => (a * x + b) * g x) (a * t) := by
 have := PL.lin a b h.shift h.up
 rw [Int.mul_zero, Int.add_zero] at this
 obtain ⟨c, hc, ht⟩ := this
 exact ⟨c, fun x => by rw [← hc]; dsimp only; grind, ht⟩
theorem PL.zero (n : Nat) : PL n (fun _ => 0) 0 := ⟨fun _ => 0, fun x => by unfold pe; rw [sm_zero fun i _ => Int.zero_mul _], rfl⟩
theorem PL.sum {n : Nat} {f : Nat → Int → Int} {t : Nat → Int} : ∀ {m : Nat}, (∀ k, k < m → PL n (f k) (t k)) → PL n (fun x => sm m fun k => f k x) (sm m t)
  | 0, _ => PL.zero n
  | m + 1, h => by
    have h1 := PL.sum (m := m) fun k hk => h k (by omega)
    have h2 := PL.lin 1 1 h1 (h m (by omega))
    obtain ⟨c, hc, ht⟩ := h2
    exact ⟨c, fun x => by rw [← hc]; dsimp only; show sm m (fun k => f k x) + f m x = _; omega, by rw [ht]; show _ = sm m t + t m; omega⟩
theorem PL.det : ∀ (n : Nat) (a b : MatF), PL n (fun x => Go.Dt.det n fun i j => a i j * x + b i j) (Go.Dt.det n a)
  | 0, a, b => PL.const 1
  | n + 1, a, b => by
    have h : PL (n + 1) (fun x => sm (n + 1) fun k => sg k * ((a 0 k * x + b 0 k) * Go.Dt.det n fun i j => a (i + 1) (skip k j) * x + b (i + 1) (skip k j))) (sm (n + 1) fun k => sg k * (a 0 k * Go.Dt.det n fun i j => a (i + 1) (skip k j))) :=
      PL.sum (f := fun k x => sg k * ((a 0 k * x + b 0 k) * Go.Dt.det n fun i j => a (i + 1) (skip k j) * x + b (i + 1) (skip k j))) (t := fun k => sg k * (a 0 k * Go.Dt.det n fun i j => a (i + 1) (skip k j))) fun k _ => by
        have h1 := PL.lin (sg k) 0 (PL.mul (a 0 k) (b 0 k) (PL.det n (fun i j => a (i + 1) (skip k j)) fun i j => b (i + 1) (skip k j))) (PL.zero (n + 1))
        obtain ⟨c, hc, ht⟩ := h1
        exact ⟨c, fun x => by rw [← hc]; dsimp only; omega, by rw [ht]; omega⟩
    exact h
/-! ### the characteristic polynomial -/
def xm (A : MatF) (x : Int) : MatF := fun i j => one i j * x + -(A i j)
theorem cp_ex (n : Nat) (A : MatF) : ∃ c : Nat → Int, (∀ x, det n (xm A x) = pe c (n + 1) x) ∧ c n = 1 := by
 have := PL.det n one fun i j => -(A i j)
 rw [det_one] at this
 exact this
noncomputable def cp (n : Nat) (A : MatF) : Nat → Int := Classical.choose (cp_ex n A)
theorem adj_mul (n : Nat) (B : MatF) {k i : Nat} (hk : k < n) (hi : i < n) : (sm n fun j => B k j * det n (setr B i (one j))) = if k = i then det n B else 0 := by
 rw [← (det_rowF n).sum B hi (B k) one n]
 have e : det n (setr B i fun j => sm n fun k' => B k k' * one k' j) = det n (setr B i (B k)) := det_congr fun r c _ hc => by
  unfold setr
  split
  ·dsimp only
   rw [sm_one (c := c) hc fun m _ hne => by unfold one; rw [if_neg hne, Int.mul_zero]]
   unfold one; rw [if_pos rfl, Int.mul_one]
  ·rfl
 rw [e]
 by_cases h : k = i
 ·subst h; rw [if_pos rfl, set_self]
 ·rw [if_neg h]
  exact (det_rowF n).eqr hi hk (fun e => h e.symm) fun c _ => by rw [set_at, set_ne _ h]
/-! ### the trace -/
end Go.Ch
namespace Go.Tr
open Go.Nt Go.Pz Go.Mz Go.En Go.Hn Go.Hp Go.Dt Go.Br Go.Ch
theorem run_last {s0 : BS} (h0 : s0.ps = []) : ∀ {c : Nat} {s : BS}, BRun s0 c s → s.ps.length ≤ c ∧ (c ≤ s.ps.length → 0 < c → ∃ r, s.rows[c - 1]? = some r ∧ cf r (c - 1) = s.last) := by
  intro c s h
  induction h with
  | zero => exact ⟨by rw [h0]; exact Nat.le_refl _, fun _ h => absurd h (Nat.lt_irrefl _)⟩
  | @step c s s' h hs ih =>
    rcases hs with ⟨rfl, _⟩ | ⟨i, r, t, sw, hti, hi, ht, hne, hsw, k1, k2, k3, k4, k5⟩
    · exact ⟨Nat.le_succ_of_le ih.1, fun h => by have := ih.1; omega⟩
    · refine ⟨by rw [k3, List.length_append]; have := ih.1; show _ + 1 ≤ _; omega, fun hc _ => ?_⟩
      rw [k3, List.length_append] at hc
      change c + 1 ≤ s.ps.length + 1 at hc
      have e : s.ps.length = c := by have := ih.1; omega
      refine ⟨r, ?_, by rw [k4]; rfl⟩
      rw [Nat.add_sub_cancel, k2 c, if_neg (by omega), hsw]
      have hil : i < s.rows.length := Go.Hn.lt_of_some hi
      have htl : s.ps.length < s.rows.length := Go.Hn.lt_of_some ht
      split
      · next h => rw [← e, ← h]; exact hi
      · rw [← e]; exact List.getElem?_set_self (by rw [List.length_set]; exact htl)
def MulB (R C K : Nat) (L : List Int) (b : Int) : Prop := 0 < b ∧ (List.length (words b.natAbs)) ≤ (K + 1) * 2 ^ R ∧ C ≤ R ∧ ∃ q : List Nat, q.length = C ∧ (∀ x ∈ q, x < R) ∧ q.Nodup ∧ b = ((mn (mf C L) q (List.range C).reverse).natAbs : Int)
theorem run_mul {R C K : Nat} {L : List Int} {rs : List Row} {ps : List Nat} {last : Int} {odd : Bool} (h : RunI ⟨rowsOf R C L, [], 1, false⟩ C K R C rs ps last odd) (hp : ps.length = C) : MulB R C K L ((last.natAbs : Nat) : Int) ∧ (0 < C → ∃ r, rs[C - 1]? = some r ∧ cf r.2 (C - 1) = last) := by
  obtain ⟨q, hq⟩ := BI.all (BI.start (mf C L) (R := R) (C := C) (L := L) fun _ _ _ _ => rfl) h.run (Nat.le_refl _)
  have hps : ps = List.range C := hq.psl.eq_of_length_le (by rw [List.length_range]; exact Nat.le_of_eq hp.symm)
  have hl := hq.hl
  have h0 := hq.h0
  change last = mn (mf C L) (q.take ps.length).reverse ps.reverse at hl
  change last ≠ 0 at h0
  have hR : ps.length ≤ R := hq.hps
  refine ⟨⟨by omega, ?_, by omega, (q.take ps.length).reverse, ?_, fun x hx => hq.lt x (List.mem_of_mem_take (List.mem_reverse.1 hx)), (List.reverse_perm _).nodup_iff.2 (hq.nd.sublist (List.take_sublist _ _)), ?_⟩, fun hC => ?_⟩
  · rw [Int.natAbs_natCast]
    have h1 := h.hl
    have h2 : (K + 1) * 2 ^ ps.length ≤ (K + 1) * 2 ^ R := Nat.mul_le_mul_left _ (Nat.pow_le_pow_right (by decide) hR)
    omega
  · rw [List.length_reverse, List.length_take, hq.hq]; omega
  · rw [← hps, ← hl]
  · obtain ⟨r, hr, e⟩ := (run_last (s0 := ⟨rowsOf R C L, [], 1, false⟩) rfl h.run).2 (Nat.le_of_eq hp.symm) hC
    change (rs.map Prod.snd)[C - 1]? = some r at hr
    rw [List.getElem?_map] at hr
    cases h1 : rs[C - 1]? with
    | none => rw [h1] at hr; cases hr
    | some r1 =>
      rw [h1] at hr
      obtain rfl := Option.some.inj hr
      exact ⟨r1, rfl, e⟩
theorem fltn_flat {C : Nat} : ∀ {rs : List (List Int)}, (∀ r ∈ rs, r.length = C) → fltn rs = flatP 0 C rs
  | [], _ => rfl
  | r :: rs, h => by
    show r ++ fltn rs = (r.take C).drop 0 ++ flatP 0 C rs
    rw [fltn_flat fun x hx => h x (List.mem_cons_of_mem _ hx), List.drop_zero, List.take_of_length_le (Nat.le_of_eq (h r List.mem_cons_self))]
theorem fltn_tab {C : Nat} {rs : List (List Int)} (h : ∀ r ∈ rs, r.length = C) : fltn rs = tab (rs.length * C) C fun i k => cf (rs.getD i []) k := by
 rw [fltn_flat h, flatP_tab (Nat.zero_le _) (Nat.le_refl _) h, Nat.sub_zero]
 simp only [Nat.zero_add]
theorem fltn_bd {C K : Nat} {rs : List (List Int)} (h : ∀ r ∈ rs, r.length = C) (hb : ∀ r ∈ rs, Bd r K) : Bd (fltn rs) K := by
 rw [fltn_tab h]; exact Bd_tab fun i k => getD_bd hb i k
theorem fltn_at {C : Nat} {rs : List (List Int)} (h : ∀ r ∈ rs, r.length = C) {i k : Nat} {r : List Int} (hr : rs[i]? = some r) (hk : k < C) : cf (fltn rs) (i * C + k) = cf r k := by
 rw [fltn_tab h, cf_tab' _ hk (place_lt (Go.Hn.lt_of_some hr) hk), Go.Hn.getD_of hr]
theorem mul_span {R C : Nat} {A : MatF} {q : List Nat} (hq : q.length = C) (hR : ∀ x ∈ q, x < R) {k0 : Nat} (hk : k0 < C) : SpZ R C A fun k => if k = k0 then ((mn A q (List.range C).reverse).natAbs : Int) else 0 := by
 have hcs : ∀ i, i < C → ((List.range C).reverse).getD i 0 = C - 1 - i := fun i hi => by
  rw [List.getD, List.getElem?_reverse (by rw [List.length_range]; exact hi), List.length_range, List.getElem?_range (by omega)]; rfl
 obtain ⟨B, hB⟩ : ∃ B, B = sub A q (List.range C).reverse := ⟨_, rfl⟩
 have hBij : ∀ i j, j < C → B i j = A (q.getD i 0) (C - 1 - j) := fun i j hj => by rw [hB]; show A _ (((List.range C).reverse).getD j 0) = _; rw [hcs j hj]
 have hd : mn A q (List.range C).reverse = det C B := by unfold mn; rw [hq, hB]
 have h1 : SpZ R C A fun k => if k = k0 then det C B else 0 := by
  refine (SpZ.sum (fun j => det C (setr (tr B) (C - 1 - k0) (one j))) (fun j => A (q.getD j 0)) C fun j hj => SpZ.row A (hR _ (getD_mem (by omega)))).congr fun k hkC => ?_
  have h2 := adj_mul C (tr B) (k := C - 1 - k) (i := C - 1 - k0) (by omega) (by omega)
  rw [det_tr] at h2
  have h3 : (if C - 1 - k = C - 1 - k0 then det C B else 0) = if k = k0 then det C B else 0 := by
   by_cases e : k = k0
   ·rw [if_pos e, if_pos (by omega)]
   ·rw [if_neg e, if_neg (by omega)]
  rw [← h3, ← h2]
  refine sm_congr fun j hj => ?_
  show B j (C - 1 - k) * _ = _
  rw [hBij _ _ (by omega), show C - 1 - (C - 1 - k) = k by omega, Int.mul_comm]
 rw [hd]
 rcases Int.natAbs_eq (det C B) with e | e
 ·exact h1.congr fun k _ => by rw [← e]
 ·exact (h1.comb (-1) 0 h1).congr fun k _ => by
   by_cases h : k = k0
   ·rw [if_pos h, if_pos h]; omega
   ·rw [if_neg h, if_neg h]; omega
end Go.Tr
namespace Go.Proofs.YthkdmhaafanjlaaGreat
open Go.En Go.RowKit
set_option maxRecDepth 10000
set_option maxHeartbeats 4000000
open Go.Nt
open Go.Pz
open Go.Mz
theorem bareiss_begun {R C K : Nat} {xs : List (Bool × List Nat)} (hx : Bd (vals xs) K) (hK : K ≤ 4000000000) (hR : R ≤ 64) (hC : C ≤ 64) (hl : xs.length = R * C) : CtrX Tryz.prog 192 [isM (R : Int) (C : Int) xs] ([]) (fun S M => ∃ bw gt rs, S = isPtr bw 0 ∧ M = wkM bw Gr.nil gt rs C [] 1 false ∧ rs.map Prod.snd = rowsOf R C (vals xs)) := by
 refine CtrX.intro Tryz.func192 rfl (by kernel_rfl) Tryz.ntmps192 rfl fun w0 F0 => .cv (Cv.wk (.l [0] rfl)) (.seq fun _ k1 => .region (.box (.t rfl) rfl fun b1 => st (.as Has.cP) rfl (nl (.thn (k1 _ _ (.seq fun _ k2 => .dr (.s [] rfl rfl rfl (.o rfl (.fieldAddr (.t rfl) fld24_1 ty3)) (.s [7] rfl rfl rfl (.o rfl (.load1 (.t rfl) (i := 0) rfl ty3 rfl)) (.s [] rfl rfl rfl (.o rfl (.call (zint_Of) (.cons (.cI 1 rfl) .nil))) (.fin (n := 3) mixed (by kernel_rfl) (by kernel_rfl) (by kernel_rfl) (.cv (Cv.wk (.l [1, 2, 8, 9] rfl)) (st (.build [nilS, isI 0, nilS, isB false, SlM isU [], isB false] pl153 zero153 (fun _ _ => ⟨rfl, ⟨rfl, by decide, by decide⟩, rfl, rfl, nilM _ _, rfl, trivial⟩) (.cons (.t rfl) rfl rfl rfl (.cons (.t rfl) rfl rfl rfl .nil)) (Z'' := [_, _, _, _, _, _]) rfl) rfl (.box (.t rfl) rfl fun b2 => st (.as (.t rfl)) rfl (nl (.thn (k2 _ _ (.seq fun _ k3 => .seq fun _ k4 => .cv (Cv.growF (Row) (i := 0) (o := 0) rfl rfl rfl) (.memEq (M' := [grM rowV Gr.nil [], _, _]) rfl (.region (st (.fieldAddr (.t rfl) fld24_0 ty3) rfl (st (.load1 (.t rfl) (i := 2) rfl ty3 rfl) rfl (st (.mv (.cI 0 rfl)) rfl (nl (.thn (k4 _ _ (.cv (Cv.wk (.l [1, 2, 3, 13, 14] rfl)) (.block ?_)))))))))))))))))))))))))))
 refine .memEq (M' := (_ :: _ :: _ :: ([] : List Row).map rowM)) rfl (.loopF [1, 2, 3, 13] (fun (z : { z : Nat × Gr Row × List Row // z.1 ≤ R ∧ z.2.2.map Prod.snd = rowsOf z.1 C (vals xs) }) => match z with | ⟨(i, gt, rs), hI⟩ => [(14, isI (i : Int))]) (fun M => fun (z : { z : Nat × Gr Row × List Row // z.1 ≤ R ∧ z.2.2.map Prod.snd = rowsOf z.1 C (vals xs) }) => match z with | ⟨(i, gt, rs), hI⟩ => (grM rowV gt rs :: (some b2, cellM [isGr gt rs.length, isI (C : Int), nilS, isB (decide ((1 : Int) < 0)), SlM isU (words (1 : Int).natAbs), isB false]) :: (some b1, cellM [isI (R : Int), isI (C : Int), SlK 2 zc xs]) :: rs.map rowM)) (fun (z : { z : Nat × Gr Row × List Row // z.1 ≤ R ∧ z.2.2.map Prod.snd = rowsOf z.1 C (vals xs) }) => match z with | ⟨(i, gt, rs), hI⟩ => R - i) (⟨(0, Gr.nil, []), Nat.zero_le _, rfl⟩) (Cv.mem (.c 14 rfl ?_ (.l [1, 2, 3, 13] rfl)) ?_) ?_)
 ·rfl
 ·rfl
 rintro ⟨⟨i, gt, rs⟩, hI⟩ K5 hK5
 refine .cv (Cv.wk (.l [14, 1, 2, 3, 13] rfl)) (.memEq (M' := (grM rowV gt rs :: (some b2, cellM [isGr gt rs.length, isI (C : Int), nilS, isB (decide ((1 : Int) < 0)), SlM isU (words (1 : Int).natAbs), isB false]) :: (some b1, cellM [isI (R : Int), isI (C : Int), SlK 2 zc xs]) :: rs.map rowM)) rfl ?_)
 simp only [] at hI
 obtain ⟨hi, hrs⟩ := hI
 have hrl : rs.length = i := by have := congrArg List.length hrs; rwa [List.length_map, rowsOf_len] at this
 refine .seq fun _ k6 => .region (st (.ltI (.t rfl) (.t rfl)) rfl (nl (.thn (k6 _ _ (.seq fun _ k7 => .cond (.t rfl) (fun hc1 => ?_) (fun hc1 => ?_))))))
 ·have hc1 := BP.t hc1
  refine .skip (.thn (k7 _ _ (.seq fun _ k8 => .block (.seq fun _ k9 => .region (st (.mv (.t rfl)) rfl (st (.as (.t rfl)) rfl (nl (.thn (k9 _ _ (.seq fun _ k10 => .region (.cv (Cv.grow0K (α := Bool × List Nat) zc) (st (.as (Has.cGr (α := Bool × List Nat))) rfl (nl (.thn (k10 _ _ (.seq fun _ k11 => .seq fun _ k12 => .region (st (.fieldAddr (.t rfl) fld24_1 ty3) rfl (st (.load1 (.t rfl) (i := 3) rfl ty3 rfl) rfl (st (.mv (.cI 0 rfl)) rfl (nl (.thn (k12 _ _ (.block (.loopF [1, 2, 3, 13, 14, 15, 16, 4, 17, 18] (fun (z : { z : Nat × Gr (Bool × List Nat) // z.1 ≤ C }) => match z with | ⟨(k, g), hK2⟩ => [(19, isI (k : Int)), (5, isGr g (((List.range k).map fun k => cf (vals xs) (i * C + k)).map nz).length)]) (fun M => fun (z : { z : Nat × Gr (Bool × List Nat) // z.1 ≤ C }) => match z with | ⟨(k, g), hK2⟩ => (grMK zc g (((List.range k).map fun k => cf (vals xs) (i * C + k)).map nz) :: grM rowV gt rs :: (some b2, cellM [isGr gt rs.length, isI (C : Int), nilS, isB (decide ((1 : Int) < 0)), SlM isU (words (1 : Int).natAbs), isB false]) :: (some b1, cellM [isI (R : Int), isI (C : Int), SlK 2 zc xs]) :: rs.map rowM)) (fun (z : { z : Nat × Gr (Bool × List Nat) // z.1 ≤ C }) => match z with | ⟨(k, g), hK2⟩ => C - k) (⟨(0, Gr.nil), Nat.zero_le _⟩) (Cv.mem (.c 19 rfl ?_ (.c 5 rfl ?_ (.l [1, 2, 3, 13, 14, 15, 16, 4, 17, 18] rfl))) ?_) ?_))))))))))))))))))))))))
  ·rfl
  ·rfl
  ·rfl
  rintro ⟨⟨k, g⟩, hK2⟩ K13 hK13
  refine .cv (Cv.wk (.l [19, 5, 1, 2, 3, 13, 14, 15, 16, 4, 17, 18] rfl)) (.memEq (M' := (grMK zc g (((List.range k).map fun k => cf (vals xs) (i * C + k)).map nz) :: grM rowV gt rs :: (some b2, cellM [isGr gt rs.length, isI (C : Int), nilS, isB (decide ((1 : Int) < 0)), SlM isU (words (1 : Int).natAbs), isB false]) :: (some b1, cellM [isI (R : Int), isI (C : Int), SlK 2 zc xs]) :: rs.map rowM)) rfl ?_)
  simp only [] at hK2
  refine .seq fun _ k14 => .region (st (.ltI (.t rfl) (.t rfl)) rfl (nl (.thn (k14 _ _ (.seq fun _ k15 => .cond (.t rfl) (fun hc2 => ?_) (fun hc2 => ?_))))))
  ·have hc2 := BP.t hc2
   refine .skip (.thn (k15 _ _ (.seq fun _ k16 => .block (.seq fun _ k17 => .region (st (.mv (.t rfl)) rfl (st (.as (.t rfl)) rfl (nl (.thn (k17 _ _ (.region (st (.mv (.t rfl)) rfl (st (.load (.t rfl) (i := 3) rfl ty24 rfl (Ss' := [_, _, _]) rfl) rfl (st (.mv (.t rfl)) rfl (st (.mv (.t rfl)) rfl (st (.call (zmat_At hx hK hR hC hl (i := i) (k := k) (by omega) (by omega)) (.cons (.t rfl) (.cons (.t rfl) (.cons (.t rfl) .nil)))) rfl (st (.buildS [isB false, SlM isU []] sl22 ty31 zero31 (fun _ _ => ⟨rfl, nilM _ _, trivial⟩) rfl rfl (.cons (.t rfl) rfl rfl rfl .nil) rfl (S := SlK 2 zc [nz (cf (vals xs) (i * C + k))]) rfl) rfl (.appendGK (fk := zc) (u := (false, [])) zc_len (by decide) (fun _ => inferInstance) sl22 ty31 zero31 (fun _ _ => ⟨rfl, nilM _ _, trivial⟩) by31 (.t rfl) (i := 0) rfl (.t rfl) (by rw [List.length_map, List.length_map, List.length_range]; show k + 1 ≤ _; omega) (by simp) rfl fun gr1 => ?_)))))))))))))))))
   refine .memEq (M' := (grMK _ _ _ :: _ :: _ :: _ :: _)) rfl (st (.as (.t rfl)) rfl (nl (.bln (.thn (k16 _ _ (.region (st (.addI (.t rfl) (.cI 1 rfl) (by first | omega | assumption) (by first | omega | assumption)) rfl (st (.mv (.t rfl)) rfl (nl (.thn ?_))))))))))
   refine hK13 (⟨(k + 1, gr1), by show k + 1 ≤ C; omega⟩) _ _ ?_ (Cv.mem (.c 19 rfl ?_ (.c 5 rfl ?_ (.l [1, 2, 3, 13, 14, 15, 16, 4, 17, 18] rfl))) ?_)
   ·show C - (k + 1) < C - k; omega
   ·exact isI_eq (by omega)
   ·exact isGr_eq (by rw [range_succ_nz, List.length_append])
   ·exact grMK_eq (range_succ_nz _ _).symm
  ·have hc2 := BP.f hc2
   refine .exit (.the (.the (.blh (.thn (k11 _ _ (.region (st (.mv (.t rfl)) rfl (st (.mv (.t rfl)) rfl (st (.nilc (.t rfl)) rfl (st (.fieldAddr (.t rfl) fld153_0 ty151) rfl (st (.load1 (.t rfl) (i := 2) rfl ty151 rfl) rfl (st (.mv (.t rfl)) rfl (st (.buildS [nilS] sl151 ty22 zero22 (fun _ _ => ⟨rfl, trivial⟩) rfl rfl (.cons (.t rfl) rfl rfl rfl .nil) rfl (S := SlM rowV [(g, ((List.range k).map fun k => cf (vals xs) (i * C + k)))]) rfl) rfl (.appendG (f := rowV) (u := (Gr.nil, [])) sl151 ty22 zero22 (fun _ _ => ⟨gr0, trivial⟩) (fun _ => inferInstance) by22 (.t rfl) (i := 1) rfl (.t rfl) (by rw [hrl]; show i + 1 ≤ _; omega) (by simp) rfl fun gr1 => ?_))))))))))))))
   refine .memEq (M' := (_ :: grM _ _ _ :: _ :: _ :: _)) rfl (st (.nilc (.t rfl)) rfl (st (.fieldAddr (.t rfl) fld153_0 ty151) rfl (.store (.t rfl) (.t rfl) (i := 2) rfl ty151 rfl rfl (Ss' := [_, _, _, _, _, _]) rfl (M' := (_ :: _ :: (some _, cellM [_, _, _, _, _, _]) :: _ :: _)) rfl (nl (.bln (.thn (k8 _ _ (.region (st (.addI (.t rfl) (.cI 1 rfl) (by first | omega | assumption) (by first | omega | assumption)) rfl (st (.mv (.t rfl)) rfl (nl (.thn ?_))))))))))))
   have hkC : C = k := by omega
   subst hkC
   refine hK5 (⟨(i + 1, gr1, rs ++ [(g, ((List.range C).map fun k => cf (vals xs) (i * C + k)))]), by show i + 1 ≤ R; omega, by show (rs ++ [(g, ((List.range C).map fun k => cf (vals xs) (i * C + k)))]).map Prod.snd = _; rw [List.map_append, hrs, rowsOf_succ]; rfl⟩) _ _ ?_ (Cv.trans (Cv.perm perm_end) (Cv.mem (.c 14 rfl ?_ (.l [1, 2, 3, 13] rfl)) ?_))
   ·show R - (i + 1) < R - i; omega
   ·exact isI_eq (by omega)
   ·show _ = grM rowV gr1 (rs ++ [_]) :: (some b2, cellM [isGr gr1 (rs ++ [_]).length, _, _, _, _, _]) :: _ :: (rs ++ [_]).map rowM; rw [List.map_append, List.length_append]; rfl
 ·have hc1 := BP.f hc1
  refine .exit (.the (.the (.blh (.thn (k3 _ _ (.seq fun _ k18 => .cv (Cv.growF (Int) (i := 1) (o := 2) rfl rfl rfl) (.memEq (M' := (grM isI Gr.nil [] :: _ :: _ :: _ :: _)) rfl (.cv (Cv.drop ((.cons_cons _ (.cons_cons _ (.cons_cons _ (.cons _ (List.Sublist.refl _))))))) (.cv (Cv.wk (.l [2, 3, 13, 14, 15] rfl)) (.cv (Cv.perm perm_rot) (.region (st (.mv (.t rfl)) rfl (st (.as (.t rfl)) rfl (nl (.thn (k18 _ _ (.cv (Cv.wk (.l [2] rfl)) (.ret (rtX1 (.inl rfl) Tryz.results192 rfl (.tmp (.t rfl) .nil) ?_)))))))))))))))))))
  exact ⟨b2, gt, rs, rfl, rfl, by obtain rfl : i = R := (by omega); exact hrs⟩
end Go.Proofs.YthkdmhaafanjlaaGreat
