/- Rules and contracts, part 2 of 6. -/
import Derived.Test.YtcfobalbkhgdmaaGreatQZcharMins1
import Derived.Laws.MathBits
import Derived.Laws.AppendOwn
import Derived.Laws.Small
namespace Go.Proofs.YtcfobalbkhgdmaaGreat
open Go.En Go.RowKit
set_option maxRecDepth 10000
set_option maxHeartbeats 4000000
open Go.Nt
theorem nat_Add {xs ys : List Nat} (hx : (List.length (words (val xs))) < 4294967296) (hy : (List.length (words (val ys))) < 4294967296) : Ctr Tryz.prog 88 [isWords xs, isWords ys] (isWords (words (val xs + val ys))) := by
 refine Ctr.intro Tryz.func88 rfl (by kernel_rfl) Tryz.ntmps88 rfl fun w0 F0 => .cv (Cv.wk (.l [0, 1] rfl)) (.fact (Has.lenLt (Has.t (t := 0) rfl)) fun lt0 => .fact (Has.okW (Has.t (t := 0) rfl)) fun ok0 => .fact (Has.lenLt (Has.t (t := 1) rfl)) fun lt1 => .fact (Has.okW (Has.t (t := 1) rfl)) fun ok1 => .seq fun _ k1 => .region (st (.as (.cW (f := isU))) rfl (nl (.thn (k1 _ _ (.seq fun _ k2 => .region (st (.mv (.t rfl)) rfl (st (.call (nat_trim) (.cons (.t rfl) .nil)) rfl (st (.mv (.t rfl)) rfl (st (.call (nat_trim) (.cons (.t rfl) .nil)) rfl (st (.as (.t rfl)) rfl (st (.as (.t rfl)) rfl (nl (.thn (k2 _ _ (.cutF [4] (fun (z : { z : Nat × Nat // z.1 + z.2 = val xs + val ys ∧ (List.length (words z.2)) ≤ (List.length (words z.1)) ∧ (List.length (words z.1)) < 4294967296 }) => match z with | ⟨(p, q), hI⟩ => [(0, isWords (words p)), (1, isWords (words q))]) (fun M => fun (z : { z : Nat × Nat // z.1 + z.2 = val xs + val ys ∧ (List.length (words z.2)) ≤ (List.length (words z.1)) ∧ (List.length (words z.1)) < 4294967296 }) => match z with | ⟨(p, q), hI⟩ => M) (fun K3 hK3 => ?_) ?_))))))))))))))))
 ·skip
  refine .seq fun _ k4 => .region (st (.mv (.t rfl)) rfl (st (.len sl34 (.t rfl)) rfl (st (.mv (.t rfl)) rfl (st (.len sl34 (.t rfl)) rfl (st (.ltI (.t rfl) (.t rfl)) rfl (nl (.thn (k4 _ _ (.cv (Cv.wk (.l [0, 1, 4, 17] rfl)) (.cond (.t rfl) (fun hc1 => ?_) (fun hc1 => ?_)))))))))))
  ·have hc1 := BP.t hc1
   refine .region (st (.mv (.t rfl)) rfl (st (.mv (.t rfl)) rfl (st (.as (.t rfl)) rfl (st (.as (.t rfl)) rfl (nl (.thn ?_))))))
   refine hK3 (⟨(val ys, val xs), Nat.add_comm _ _, by simp only []; omega, hy⟩) _ _ (Cv.mem (.c 0 rfl ?_ (.c 1 rfl ?_ (.l [4] rfl))) ?_)
   ·rfl
   ·rfl
   ·rfl
  ·have hc1 := BP.f hc1
   refine .skip (.thn ?_)
   refine hK3 (⟨(val xs, val ys), rfl, by simp only []; omega, hx⟩) _ _ (Cv.mem (.c 0 rfl ?_ (.c 1 rfl ?_ (.l [4] rfl))) ?_)
   ·rfl
   ·rfl
   ·rfl
 rintro ⟨⟨p, q⟩, hI1, hI2, hI3⟩
 refine .cv (Cv.wk (.l [0, 1, 4] rfl)) ?_
 simp only [] at hI1 hI2 hI3
 refine .seq fun _ k5 => .region (st (.mv (.t rfl)) rfl (st (.len sl34 (.t rfl)) rfl (st (.addI (.t rfl) (.cI 1 rfl) (by omega) (by omega)) rfl (.make (f := isU) (u := 0) (n := (List.length (words p)) + 1) (c := (List.length (words p)) + 1) sl34 ty62 zero62 (fun _ _ => ⟨⟨rfl, by decide⟩, trivial⟩) by62 (Has.t' rfl rfl) (Has.t' rfl rfl) ⟨by omega, by omega⟩ rfl fun b1 => st (.as (.t rfl)) rfl (nl (.thn (k5 _ _ (.seq fun _ k6 => .region (st (.as (.cU 0 rfl)) rfl (nl (.thn (k6 _ _ (.seq fun _ k7 => .seq fun _ k8 => .region (st (.mv (.t rfl)) rfl (st (.len sl34 (.t rfl)) rfl (st (.mv (.cI 0 rfl)) rfl (nl (.thn (k8 _ _ (.cv (Cv.wk (.l [4, 0, 1, 5, 6, 25, 26] rfl)) (.block (.loopF [4, 0, 1, 5, 25] (fun (z : { i : Nat // i ≤ (List.length (words p)) }) => match z with | ⟨i, hI⟩ => [(26, isI (i : Int)), (6, isU (car p q i))]) (fun M => fun (z : { i : Nat // i ≤ (List.length (words p)) }) => match z with | ⟨i, hI⟩ => [(some b1, cellM (List.map isU (wpart (p + q) i ((List.length (words p)) + 1))))]) (fun (z : { i : Nat // i ≤ (List.length (words p)) }) => match z with | ⟨i, hI⟩ => (List.length (words p)) - i) (⟨0, Nat.zero_le _⟩) (Cv.mem (.c 26 rfl ?_ (.c 6 rfl ?_ (.l [4, 0, 1, 5, 25] rfl))) ?_) ?_))))))))))))))))))))))
 ·rfl
 ·exact isU_eq (car_zero _ _)
 ·exact memL_eq (wpart_zero _ _)
 rintro ⟨i, hI⟩ K9 hK9
 refine .cv (Cv.wk (.l [26, 6, 4, 0, 1, 5, 25] rfl)) (.memEq (M' := [(some b1, cellM (List.map isU (wpart (p + q) i ((List.length (words p)) + 1))))]) rfl ?_)
 have wl : (wpart (p + q) i ((List.length (words p)) + 1)).length = (List.length (words p)) + 1 := wpart_len (by omega)
 refine .seq fun _ k10 => .region (st (.ltI (.t rfl) (.t rfl)) rfl (nl (.thn (k10 _ _ (.seq fun _ k11 => .cond (.t rfl) (fun hc2 => ?_) (fun hc2 => ?_))))))
 ·have hc2 := BP.t hc2
  refine .skip (.thn (k11 _ _ (.seq fun _ k12 => .block (.seq fun _ k13 => .region (st (.mv (.t rfl)) rfl (st (.as (.t rfl)) rfl (nl (.thn (k13 _ _ (.seq fun _ k14 => .region (st (.as (.cU 0 rfl)) rfl (nl (.thn (k14 _ _ (.cutF [4, 0, 1, 5, 25, 26, 6, 27, 28, 7] (fun (_ : Unit) => [(8, isU (dig q i))]) (fun M => fun (_ : Unit) => M) (fun K15 hK15 => ?_) ?_)))))))))))))))
  ·skip
   refine .seq fun _ k16 => .region (st (.mv (.t rfl)) rfl (st (.mv (.t rfl)) rfl (st (.len sl34 (.t rfl)) rfl (st (.ltI (.t rfl) (.t rfl)) rfl (nl (.thn (k16 _ _ (.cond (.t rfl) (fun hc3 => ?_) (fun hc3 => ?_)))))))))
   ·have hc3 := BP.t hc3
    refine .region (st (.mv (.t rfl)) rfl (st (.mv (.t rfl)) rfl (st (.ixP sl34 ty62 (.t rfl) (.t rfl) ⟨by omega, by omega⟩ (getD_some (d := 0) (by omega))) rfl (st (.loadP1 (.t rfl) ty62) rfl (st (.as (.t rfl)) rfl (nl (.thn (hK15 (()) _ _ (Cv.mem (.c 8 rfl ?_ (.l [4, 0, 1, 5, 25, 26, 6, 27, 28, 7] rfl)) ?_)))))))))
    ·first | exact isU_eq (getD_words _ _) | exact isU_eq (dig_zero (by omega)).symm
    ·rfl
   ·have hc3 := BP.f hc3
    refine .skip (.thn (hK15 (()) _ _ (Cv.mem (.c 8 rfl ?_ (.l [4, 0, 1, 5, 25, 26, 6, 27, 28, 7] rfl)) ?_)))
    ·first | exact isU_eq (getD_words _ _) | exact isU_eq (dig_zero (by omega)).symm
    ·rfl
  rintro _
  refine .cv (Cv.wk (.l [8, 4, 0, 1, 5, 25, 26, 6, 27, 28, 7] rfl)) (.region (st (.mv (.t rfl)) rfl (st (.mv (.t rfl)) rfl (st (.mv (.t rfl)) rfl (st (.mv (.t rfl)) rfl (st (.ixP sl34 ty62 (.t rfl) (.t rfl) ⟨by omega, by omega⟩ (getD_some (d := 0) (by omega))) rfl (st (.eq (.loadP1 (.t rfl) ty62) (isU_eq (getD_words _ i))) rfl (st (.mv (.t rfl)) rfl (st (.mv (.t rfl)) rfl (st (.add64 ext_add64 (.t rfl) (.t rfl) (.t rfl) (by exact car_le _ _ _) ⟨(by exact dig_lt _ _), (by exact dig_lt _ _)⟩) rfl (st (.mv (.t rfl)) rfl (st (.ext (.t rfl) rfl) rfl (st (.ext (.t rfl) rfl) rfl (st (.eq (.ixWin sl34 ty62 (.t rfl) (.t rfl) ⟨by omega, by omega⟩) (isPtr_eq (by exact ixo0))) rfl (.storeM (.t rfl) (.t rfl) (i := 0) rfl ty62 (by omega) (M' := [(_, _)]) rfl (st (.as (.t rfl)) rfl (nl (.bln (.thn (k12 _ _ (.region (st (.addI (.t rfl) (.cI 1 rfl) (by omega) (by omega)) rfl (st (.mv (.t rfl)) rfl (nl (.thn (hK9 (⟨i + 1, by omega⟩) _ _ ?_ (Cv.mem (.c 26 rfl ?_ (.c 6 rfl ?_ (.l [4, 0, 1, 5, 25] rfl))) ?_)))))))))))))))))))))))))))
  ·show (List.length (words p)) - (i + 1) < (List.length (words p)) - i; omega
  ·rfl
  ·exact isU_eq (add_car _ _ _)
  ·exact memL_eq (wpart_set (by omega) (add_dig _ _ _))
 ·have hc2 := BP.f hc2
  refine .exit (.the (.the (.blh (.thn (k7 _ _ (.seq fun _ k17 => .region (st (.mv (.t rfl)) rfl (st (.mv (.t rfl)) rfl (st (.len sl34 (.t rfl)) rfl (st (.mv (.t rfl)) rfl (st (.eq (.ixWin sl34 ty62 (.t rfl) (.t rfl) ⟨by omega, by omega⟩) (isPtr_eq (by exact ixo0))) rfl (.storeM (.t rfl) (.t rfl) (i := 0) rfl ty62 (by omega) (M' := [(_, _)]) rfl (nl (.thn (k17 _ _ (.cv (Cv.wk (.l [4, 5] rfl)) (.seq fun _ k18 => .cv (Cv.freeze' (t := 5) (i := 0) (ys := wordsN ((List.length (words p)) + 1) (p + q)) rfl rfl rfl (by simp; omega) (fz_wpart (by omega) (by omega) (add_top (lt_pow_of (by omega)) (lt_pow_of (by omega))))) ?_)))))))))))))))))
  refine .memEq (M' := []) rfl (.cv (Cv.wk (.l [4, 5] rfl)) (.region (st (.mv (.t rfl)) rfl (st (.call (nat_normal) (.cons (.t rfl) .nil)) rfl (st (.as (.t rfl)) rfl (nl (.thn (k18 _ _ (.ret (rt1 (.inl rfl) Tryz.results88 rfl (.tmp (Has.t' rfl ?_) .nil)))))))))))
  all_goals (exact SlM_eq (by rw [words_val_wordsN (add_lt (nw_lt p) (lt_pow_of hI2)), hI1]))
theorem nat_Sub {xs ys : List Nat} (hx : (List.length (words (val xs))) < 4294967296) : Ctr Tryz.prog 89 [isWords xs, isWords ys] (isTup [isWords (words (val xs - val ys)), isB (decide (val ys ≤ val xs))]) := by
 refine Ctr.intro Tryz.func89 rfl (by kernel_rfl) Tryz.ntmps89 rfl fun w0 F0 => .cv (Cv.wk (.l [0, 1] rfl)) (.fact (Has.lenLt (Has.t (t := 0) rfl)) fun lt0 => .fact (Has.okW (Has.t (t := 0) rfl)) fun ok0 => .fact (Has.lenLt (Has.t (t := 1) rfl)) fun lt1 => .fact (Has.okW (Has.t (t := 1) rfl)) fun ok1 => .seq fun _ k1 => .region (st (.as (.cW (f := isU))) rfl (st (.as (.cB false)) rfl (nl (.thn (k1 _ _ (.seq fun _ k2 => .seq fun _ k3 => .region (st (.mv (.t rfl)) rfl (st (.mv (.t rfl)) rfl (st (.call (nat_Cmp) (.cons (.t rfl) (.cons (.t rfl) .nil))) rfl (st (.ltI (.t rfl) (.cI 0 rfl)) rfl (nl (.thn (k3 _ _ (.cond (.t rfl) (fun hc1 => ?_) (fun hc1 => ?_))))))))))))))))
 ·have hc1 := BP.t hc1
  have hlt := cmpN_neg.1 hc1
  refine .seq fun _ k4 => .region (st (.as (.cW (f := isU))) rfl (st (.as (.cB false)) rfl (nl (.thn (k4 _ _ (.ret (.thr (rtN (.inl rfl) Tryz.results89 rfl rfl (.tmp (Has.t' rfl ?_) (.tmp (Has.t' rfl ?_) .nil))))))))))
  ·exact SlM_eq (by rw [Nat.sub_eq_zero_of_le (Nat.le_of_lt hlt), words_zero])
  ·exact isB_eq (by simp; omega)
 ·have hc1 := BP.f hc1
  have hle : val ys ≤ val xs := Nat.le_of_not_lt (fun h => by have := cmpN_neg.2 h; omega)
  have hnw := nw_mono hle
  refine .skip (.thn (k2 _ _ (.seq fun _ k5 => .region (st (.mv (.t rfl)) rfl (st (.call (nat_trim) (.cons (.t rfl) .nil)) rfl (st (.mv (.t rfl)) rfl (st (.call (nat_trim) (.cons (.t rfl) .nil)) rfl (st (.as (.t rfl)) rfl (st (.as (.t rfl)) rfl (nl (.thn (k5 _ _ (.cv (Cv.wk (.l [0, 1, 4, 5] rfl)) (.seq fun _ k6 => .region (st (.mv (.t rfl)) rfl (st (.len sl34 (.t rfl)) rfl (.make (f := isU) (u := 0) (n := (List.length (words (val xs)))) (c := (List.length (words (val xs)))) sl34 ty62 zero62 (fun _ _ => ⟨⟨rfl, by decide⟩, trivial⟩) by62 (Has.t' rfl rfl) (Has.t' rfl rfl) ⟨by omega, by omega⟩ rfl fun b1 => st (.as (.t rfl)) rfl (nl (.thn (k6 _ _ (.seq fun _ k7 => .region (st (.as (.cU 0 rfl)) rfl (nl (.thn (k7 _ _ (.seq fun _ k8 => .seq fun _ k9 => .region (st (.mv (.t rfl)) rfl (st (.len sl34 (.t rfl)) rfl (st (.mv (.cI 0 rfl)) rfl (nl (.thn (k9 _ _ (.block (.loopF [0, 1, 4, 5, 6, 22] (fun (z : { i : Nat // i ≤ (List.length (words (val xs))) }) => match z with | ⟨i, hI⟩ => [(23, isI (i : Int)), (7, isU (bor (val xs) (val ys) i))]) (fun M => fun (z : { i : Nat // i ≤ (List.length (words (val xs))) }) => match z with | ⟨i, hI⟩ => [(some b1, cellM (List.map isU (wpart (val xs - val ys) i ((List.length (words (val xs)))))))]) (fun (z : { i : Nat // i ≤ (List.length (words (val xs))) }) => match z with | ⟨i, hI⟩ => (List.length (words (val xs))) - i) (⟨0, Nat.zero_le _⟩) (Cv.mem (.c 23 rfl ?_ (.c 7 rfl ?_ (.l [0, 1, 4, 5, 6, 22] rfl))) ?_) ?_))))))))))))))))))))))))))))))))))
  ·rfl
  ·exact isU_eq (bor_zero _ _)
  ·exact memL_eq (wpart_zero _ _)
  rintro ⟨i, hI⟩ K10 hK10
  refine .cv (Cv.wk (.l [23, 7, 0, 1, 4, 5, 6, 22] rfl)) (.memEq (M' := [(some b1, cellM (List.map isU (wpart (val xs - val ys) i ((List.length (words (val xs)))))))]) rfl ?_)
  have wl : (wpart (val xs - val ys) i ((List.length (words (val xs))))).length = (List.length (words (val xs))) := wpart_len (by omega)
  refine .seq fun _ k11 => .region (st (.ltI (.t rfl) (.t rfl)) rfl (nl (.thn (k11 _ _ (.seq fun _ k12 => .cond (.t rfl) (fun hc2 => ?_) (fun hc2 => ?_))))))
  ·have hc2 := BP.t hc2
   refine .skip (.thn (k12 _ _ (.seq fun _ k13 => .block (.seq fun _ k14 => .region (st (.mv (.t rfl)) rfl (st (.as (.t rfl)) rfl (nl (.thn (k14 _ _ (.seq fun _ k15 => .region (st (.as (.cU 0 rfl)) rfl (nl (.thn (k15 _ _ (.cutF [0, 1, 4, 5, 6, 22, 23, 7, 24, 25, 8] (fun (_ : Unit) => [(9, isU (dig (val ys) i))]) (fun M => fun (_ : Unit) => M) (fun K16 hK16 => ?_) ?_)))))))))))))))
   ·skip
    refine .seq fun _ k17 => .region (st (.mv (.t rfl)) rfl (st (.mv (.t rfl)) rfl (st (.len sl34 (.t rfl)) rfl (st (.ltI (.t rfl) (.t rfl)) rfl (nl (.thn (k17 _ _ (.cond (.t rfl) (fun hc3 => ?_) (fun hc3 => ?_)))))))))
    ·have hc3 := BP.t hc3
     refine .region (st (.mv (.t rfl)) rfl (st (.mv (.t rfl)) rfl (st (.ixP sl34 ty62 (.t rfl) (.t rfl) ⟨by omega, by omega⟩ (getD_some (d := 0) (by omega))) rfl (st (.loadP1 (.t rfl) ty62) rfl (st (.as (.t rfl)) rfl (nl (.thn (hK16 (()) _ _ (Cv.mem (.c 9 rfl ?_ (.l [0, 1, 4, 5, 6, 22, 23, 7, 24, 25, 8] rfl)) ?_)))))))))
     ·first | exact isU_eq (getD_words _ _) | exact isU_eq (dig_zero (by omega)).symm
     ·rfl
    ·have hc3 := BP.f hc3
     refine .skip (.thn (hK16 (()) _ _ (Cv.mem (.c 9 rfl ?_ (.l [0, 1, 4, 5, 6, 22, 23, 7, 24, 25, 8] rfl)) ?_)))
     ·first | exact isU_eq (getD_words _ _) | exact isU_eq (dig_zero (by omega)).symm
     ·rfl
   rintro _
   refine .cv (Cv.wk (.l [9, 0, 1, 4, 5, 6, 22, 23, 7, 24, 25, 8] rfl)) (.region (st (.mv (.t rfl)) rfl (st (.mv (.t rfl)) rfl (st (.mv (.t rfl)) rfl (st (.mv (.t rfl)) rfl (st (.ixP sl34 ty62 (.t rfl) (.t rfl) ⟨by omega, by omega⟩ (getD_some (d := 0) (by omega))) rfl (st (.eq (.loadP1 (.t rfl) ty62) (isU_eq (getD_words _ i))) rfl (st (.mv (.t rfl)) rfl (st (.mv (.t rfl)) rfl (st (.sub64 ext_sub64 (.t rfl) (.t rfl) (.t rfl) (by exact bor_le _ _ _) ⟨(by exact dig_lt _ _), (by exact dig_lt _ _)⟩) rfl (st (.mv (.t rfl)) rfl (st (.ext (.t rfl) rfl) rfl (st (.ext (.t rfl) rfl) rfl (st (.eq (.ixWin sl34 ty62 (.t rfl) (.t rfl) ⟨by omega, by omega⟩) (isPtr_eq (by exact ixo0))) rfl (.storeM (.t rfl) (.t rfl) (i := 0) rfl ty62 (by omega) (M' := [(_, _)]) rfl (st (.as (.t rfl)) rfl (nl (.bln (.thn (k13 _ _ (.region (st (.addI (.t rfl) (.cI 1 rfl) (by omega) (by omega)) rfl (st (.mv (.t rfl)) rfl (nl (.thn (hK10 (⟨i + 1, by omega⟩) _ _ ?_ (Cv.mem (.c 23 rfl ?_ (.c 7 rfl ?_ (.l [0, 1, 4, 5, 6, 22] rfl))) ?_)))))))))))))))))))))))))))
   ·show (List.length (words (val xs))) - (i + 1) < (List.length (words (val xs))) - i; omega
   ·rfl
   ·exact isU_eq (bor_succ _ _ _)
   ·exact memL_eq (wpart_set (by omega) (sub_dig hle _))
  ·have hc2 := BP.f hc2
   refine .exit (.the (.the (.blh (.thn (k8 _ _ (.cv (Cv.wk (.l [4, 5, 6] rfl)) (.seq fun _ k18 => .cv (Cv.freeze' (t := 6) (i := 0) (ys := wordsN ((List.length (words (val xs)))) (val xs - val ys)) rfl rfl rfl (by simp; omega) (fz_wpart' (by omega))) ?_)))))))
   refine .memEq (M' := []) rfl (.cv (Cv.wk (.l [4, 5, 6] rfl)) (.region (st (.mv (.t rfl)) rfl (st (.call (nat_normal) (.cons (.t rfl) .nil)) rfl (st (.as (.t rfl)) rfl (st (.as (.cB true)) rfl (nl (.thn (k18 _ _ (.ret (rtN (.inl rfl) Tryz.results89 rfl rfl (.tmp (Has.t' rfl ?_) (.tmp (Has.t' rfl ?_) .nil)))))))))))))
   ·exact SlM_eq (by rw [words_val_wordsN (sub_lt' (nw_lt _))])
   ·exact isB_eq (by simp; omega)
set_option maxHeartbeats 2000000 in
theorem nat_row {N A x o n c m : Nat} (h1 : (List.length (words A)) + 1 ≤ n) (h2 : o + n ≤ m) (h3 : N / W ^ o < W ^ (List.length (words A))) : CtrM Tryz.prog 132 (fun b0 => [isWin b0 o n c, isWords (words A), isU x]) (cellM (List.map isU (wordsN m N))) (cellM (List.map isU (wordsN m (N + W ^ o * (A * x))))) (fun b0 => isTup []) := by
 refine CtrM.intro Tryz.func132 rfl (by kernel_rfl) Tryz.ntmps132 (fun _ => rfl) fun w0 F0 b0 => .cv (Cv.wk (.l [0, 1, 2] rfl)) (.fact (Has.lenLt (Has.t (t := 0) rfl)) fun lt0 => .fact (Has.winLe (Has.t (t := 0) rfl)) fun lw0 => .fact (Has.lenLt (Has.t (t := 1) rfl)) fun lt1 => .fact (Has.okW (Has.t (t := 1) rfl)) fun ok1 => .fact (Has.ltU (Has.t (t := 2) rfl)) fun lt2 => .seq fun _ k1 => .region (st (.as (.cU 0 rfl)) rfl (nl (.thn (k1 _ _ (.seq fun _ k2 => .seq fun _ k3 => .region (st (.mv (.t rfl)) rfl (st (.len sl34 (.t rfl)) rfl (st (.mv (.cI 0 rfl)) rfl (nl (.thn (k3 _ _ (.block (.loopF [0, 1, 2, 12, 13] (fun (z : { i : Nat // i ≤ (List.length (words A)) }) => match z with | ⟨i, hI⟩ => [(14, isI (i : Int)), (6, isU (mcar (N / W ^ o) A x i))]) (fun M => fun (z : { i : Nat // i ≤ (List.length (words A)) }) => match z with | ⟨i, hI⟩ => [(some b0, cellM (List.map isU (mix (o + i) (N + W ^ o * (A * x)) N m)))]) (fun (z : { i : Nat // i ≤ (List.length (words A)) }) => match z with | ⟨i, hI⟩ => (List.length (words A)) - i) (⟨0, Nat.zero_le _⟩) (Cv.mem (.c 14 rfl ?_ (.c 6 rfl ?_ (.l [0, 1, 2, 12, 13] rfl))) ?_) ?_))))))))))))))
 ·rfl
 ·exact isU_eq (mcar_zero _ _ _)
 ·exact memL_eq (mix_start (by omega) (shifted_mod _ _ _))
 rintro ⟨i, hI⟩ K4 hK4
 refine .cv (Cv.wk (.l [14, 6, 0, 1, 2, 12, 13] rfl)) (.memEq (M' := [(some b0, cellM (List.map isU (mix (o + i) (N + W ^ o * (A * x)) N m)))]) rfl ?_)
 have wl : (mix (o + i) (N + W ^ o * (A * x)) N m).length = m := mix_len (by omega)
 have hrow := row_word lt2 (dig_lt A i) (dig_lt (N / W ^ o) i) (Nat.lt_of_le_of_lt (mcar_le (N / W ^ o) A x i) lt2) (dig_lt _ _) (mul_step_eq (N / W ^ o) A x i)
 have hcl := Nat.lt_of_le_of_lt (mcar_le (N / W ^ o) A x i) lt2
 refine .seq fun _ k5 => .region (st (.ltI (.t rfl) (.t rfl)) rfl (nl (.thn (k5 _ _ (.seq fun _ k6 => .cond (.t rfl) (fun hc1 => ?_) (fun hc1 => ?_))))))
 ·have hc1 := BP.t hc1
  refine .skip (.thn (k6 _ _ (.seq fun _ k7 => .block (.seq fun _ k8 => .region (st (.mv (.t rfl)) rfl (st (.ixP sl34 ty62 (.t rfl) (.t rfl) ⟨by omega, by omega⟩ (getD_some (d := 0) (by omega))) rfl (st (.eq (.loadP1 (.t rfl) ty62) (isU_eq (getD_words _ i))) rfl (st (.as (.t rfl)) rfl (st (.as (.t rfl)) rfl (nl (.thn (k8 _ _ (.seq fun _ k9 => .region (st (.mv (.t rfl)) rfl (st (.mv (.t rfl)) rfl (st (.call (bits_Mul64) (.cons (.t rfl) (.cons (.t rfl) .nil))) rfl (st (.mv (.t rfl)) rfl (st (.ext (.t rfl) rfl) rfl (st (.ext (.t rfl) rfl) rfl (st (.as (.t rfl)) rfl (st (.as (.t rfl)) rfl (nl (.thn (k9 _ _ (.seq fun _ k10 => .region (st (.as (.cU 0 rfl)) rfl (nl (.thn (k10 _ _ (.seq fun _ k11 => .region (st (.mv (.t rfl)) rfl (st (.mv (.t rfl)) rfl (st (.mv (.t rfl)) rfl (st (.eq (.ixWin sl34 ty62 (.t rfl) (.t rfl) ⟨by omega, by omega⟩) (isPtr_eq (by exact ixo1))) rfl (st (.eq (.load1 (.t rfl) (i := 0) rfl ty62 (map_some (getD_some (d := 0) (by omega)))) (isU_eq (rowGet (by omega)))) rfl (st (.add64 ext_add64 (.t rfl) (.t rfl) (.cU 0 rfl) (by omega) ⟨(by omega), (by exact dig_lt _ _)⟩) rfl (st (.mv (.t rfl)) rfl (st (.ext (.t rfl) rfl) rfl (st (.ext (.t rfl) rfl) rfl (st (.as (.t rfl)) rfl (st (.as (.t rfl)) rfl ?_)))))))))))))))))))))))))))))))))))))))))
  refine nl (.thn (k11 _ _ (.seq fun _ k12 => .region (st (.mv (.t rfl)) rfl (st (.mv (.t rfl)) rfl (st (.addU' (.t rfl) (.t rfl) (by omega)) rfl (st (.as (.t rfl)) rfl (nl (.thn (k12 _ _ (.seq fun _ k13 => .region (st (.mv (.t rfl)) rfl (st (.mv (.t rfl)) rfl (st (.add64 ext_add64 (.t rfl) (.t rfl) (.cU 0 rfl) (by omega) ⟨(by omega), (by omega)⟩) rfl (st (.mv (.t rfl)) rfl (st (.ext (.t rfl) rfl) rfl (st (.ext (.t rfl) rfl) rfl (st (.as (.t rfl)) rfl (st (.as (.t rfl)) rfl (nl (.thn (k13 _ _ (.region (st (.mv (.t rfl)) rfl (st (.mv (.t rfl)) rfl (st (.mv (.t rfl)) rfl (st (.mv (.t rfl)) rfl (st (.mv (.t rfl)) rfl (st (.addU' (.t rfl) (.t rfl) (by omega)) rfl (st (.eq (.ixWin sl34 ty62 (.t rfl) (.t rfl) ⟨by omega, by omega⟩) (isPtr_eq (by exact ixo1))) rfl (.storeM (.t rfl) (.t rfl) (i := 0) rfl ty62 (by omega) (M' := [(_, _)]) rfl (st (.as (.t rfl)) rfl (nl (.bln (.thn (k7 _ _ (.region (st (.addI (.t rfl) (.cI 1 rfl) (by omega) (by omega)) rfl (st (.mv (.t rfl)) rfl (nl (.thn ?_)))))))))))))))))))))))))))))))))))))))))
  refine hK4 (⟨i + 1, by omega⟩) _ _ ?_ (Cv.mem (.c 14 rfl ?_ (.c 6 rfl ?_ (.l [0, 1, 2, 12, 13] rfl))) ?_)
  ·show (List.length (words A)) - (i + 1) < (List.length (words A)) - i; omega
  ·rfl
  ·exact isU_eq hrow.2.1
  ·exact memL_eq (rowPut (by omega) hrow.1)
 ·have hc1 := BP.f hc1
  refine .exit (.the (.the (.blh (.thn (k2 _ _ (.cv (Cv.wk (.l [0, 1, 6] rfl)) (.region (st (.mv (.t rfl)) rfl (st (.mv (.t rfl)) rfl (st (.len sl34 (.t rfl)) rfl (st (.mv (.t rfl)) rfl (st (.eq (.ixWin sl34 ty62 (.t rfl) (.t rfl) ⟨by omega, by omega⟩) (isPtr_eq (by exact ixo1))) rfl (.storeM (.t rfl) (.t rfl) (i := 0) rfl ty62 (by omega) (M' := [(_, _)]) rfl (nl (rtM0 (.inr rfl) Tryz.results132 rfl (i := 0) ?_)))))))))))))))
  all_goals (obtain rfl : i = (List.length (words A)) := (by omega); exact memU_eq (rowEnd rfl (by omega) h3 (nw_lt A) lt2))
theorem nat_Mul {xs ys : List Nat} (hx : (List.length (words (val xs))) + (List.length (words (val ys))) < 4294967296) : Ctr Tryz.prog 114 [isWords xs, isWords ys] (isWords (words (val xs * val ys))) := by
 refine Ctr.intro Tryz.func114 rfl (by kernel_rfl) Tryz.ntmps114 rfl fun w0 F0 => .cv (Cv.wk (.l [0, 1] rfl)) (.fact (Has.lenLt (Has.t (t := 0) rfl)) fun lt0 => .fact (Has.okW (Has.t (t := 0) rfl)) fun ok0 => .fact (Has.lenLt (Has.t (t := 1) rfl)) fun lt1 => .fact (Has.okW (Has.t (t := 1) rfl)) fun ok1 => .seq fun _ k1 => .region (st (.as (.cW (f := isU))) rfl (nl (.thn (k1 _ _ (.seq fun _ k2 => .region (st (.mv (.t rfl)) rfl (st (.call (nat_trim) (.cons (.t rfl) .nil)) rfl (st (.mv (.t rfl)) rfl (st (.call (nat_trim) (.cons (.t rfl) .nil)) rfl (st (.as (.t rfl)) rfl (st (.as (.t rfl)) rfl (nl (.thn (k2 _ _ (.seq fun _ k3 => .region (st (.mv (.t rfl)) rfl (st (.len sl34 (.t rfl)) rfl (st (.mv (.t rfl)) rfl (st (.len sl34 (.t rfl)) rfl (st (.addI (.t rfl) (.t rfl) (by omega) (by omega)) rfl (st (.addI (.t rfl) (.cI 1 rfl) (by omega) (by omega)) rfl (.make (f := isU) (u := 0) (n := (List.length (words (val xs))) + (List.length (words (val ys))) + 1) (c := (List.length (words (val xs))) + (List.length (words (val ys))) + 1) sl34 ty62 zero62 (fun _ _ => ⟨⟨rfl, by decide⟩, trivial⟩) by62 (Has.t' rfl rfl) (Has.t' rfl rfl) ⟨by omega, by omega⟩ rfl fun b1 => st (.as (.t rfl)) rfl (nl (.thn (k3 _ _ (.cv (Cv.wk (.l [0, 1, 4, 5] rfl)) (.seq fun _ k4 => .seq fun _ k5 => .region (st (.mv (.t rfl)) rfl (st (.len sl34 (.t rfl)) rfl (st (.mv (.cI 0 rfl)) rfl ?_)))))))))))))))))))))))))))))))
 refine nl (.thn (k5 _ _ (.block (.loopF [0, 4, 5, 19, 20] (fun (z : { i : Nat // i ≤ (List.length (words (val ys))) }) => match z with | ⟨i, hI⟩ => [(21, isI (i : Int))]) (fun M => fun (z : { i : Nat // i ≤ (List.length (words (val ys))) }) => match z with | ⟨i, hI⟩ => [(some b1, cellM (List.map isU (wordsN ((List.length (words (val xs))) + (List.length (words (val ys))) + 1) (val xs * (val ys % W ^ i)))))]) (fun (z : { i : Nat // i ≤ (List.length (words (val ys))) }) => match z with | ⟨i, hI⟩ => (List.length (words (val ys))) - i) (⟨0, Nat.zero_le _⟩) (Cv.mem (.c 21 rfl ?_ (.l [0, 4, 5, 19, 20] rfl)) ?_) ?_))))
 ·rfl
 ·exact memL_eq (mulStart' _ _ _)
 rintro ⟨i, hI⟩ K6 hK6
 refine .cv (Cv.wk (.l [21, 0, 4, 5, 19, 20] rfl)) (.memEq (M' := [(some b1, cellM (List.map isU (wordsN ((List.length (words (val xs))) + (List.length (words (val ys))) + 1) (val xs * (val ys % W ^ i)))))]) rfl ?_)
 have wl : (wordsN ((List.length (words (val xs))) + (List.length (words (val ys))) + 1) (val xs * (val ys % W ^ i))).length = (List.length (words (val xs))) + (List.length (words (val ys))) + 1 := wordsN_len _ _
 refine .seq fun _ k7 => .region (st (.ltI (.t rfl) (.t rfl)) rfl (nl (.thn (k7 _ _ (.seq fun _ k8 => .cond (.t rfl) (fun hc1 => ?_) (fun hc1 => ?_))))))
 ·have hc1 := BP.t hc1
  refine .skip (.thn (k8 _ _ (.seq fun _ k9 => .block (.seq fun _ k10 => .region (st (.mv (.t rfl)) rfl (st (.ixP sl34 ty62 (.t rfl) (.t rfl) ⟨by omega, by omega⟩ (getD_some (d := 0) (by omega))) rfl (st (.eq (.loadP1 (.t rfl) ty62) (isU_eq (getD_words _ i))) rfl (st (.as (.t rfl)) rfl (st (.as (.t rfl)) rfl (nl (.thn (k10 _ _ (.region (st (.mv (.t rfl)) rfl (st (.mv (.t rfl)) rfl (st (.eq (.slLWin sl34 ty62 (.t rfl) (.t rfl) ⟨by omega, by omega, by omega⟩) (isWin_eq (by exact ixo0) rfl rfl)) rfl (st (.mv (.t rfl)) rfl (st (.mv (.t rfl)) rfl (.callM (nat_row (m := (List.length (words (val xs))) + (List.length (words (val ys))) + 1) (N := val xs * (val ys % W ^ i)) (by simp only [Int.toNat_natCast]; omega) (by simp only [Int.toNat_natCast]; omega) (mulDiv (nw_lt _))) (i := 0) rfl (.cons (.t rfl) (.cons (.t rfl) (.cons (.t rfl) .nil))) rfl (M' := [(_, _)]) rfl ?_)))))))))))))))))))
  refine nl (.bln (.thn (k9 _ _ (.region (st (.addI (.t rfl) (.cI 1 rfl) (by omega) (by omega)) rfl (st (.mv (.t rfl)) rfl (nl (.thn (hK6 (⟨i + 1, by omega⟩) _ _ ?_ (Cv.mem (.c 21 rfl ?_ (.l [0, 4, 5, 19, 20] rfl)) ?_))))))))))
  ·show (List.length (words (val ys))) - (i + 1) < (List.length (words (val ys))) - i; omega
  ·rfl
  ·exact memL_eq (by rw [mod_pow_succ_mul])
 ·have hc1 := BP.f hc1
  refine .exit (.the (.the (.blh (.thn (k4 _ _ (.cv (Cv.wk (.l [4, 5] rfl)) (.seq fun _ k11 => .cv (Cv.freeze' (t := 5) (i := 0) (ys := wordsN ((List.length (words (val xs))) + (List.length (words (val ys))) + 1) (val xs * (val ys % W ^ i))) rfl rfl rfl (by simp; omega) (freeze_all (wordsN_len _ _).symm)) ?_)))))))
  refine .memEq (M' := []) rfl (.cv (Cv.wk (.l [4, 5] rfl)) (.region (st (.mv (.t rfl)) rfl (st (.call (nat_normal) (.cons (.t rfl) .nil)) rfl (st (.as (.t rfl)) rfl (nl (.thn (k11 _ _ (.ret (rt1 (.inl rfl) Tryz.results114 rfl (.tmp (Has.t' rfl ?_) .nil)))))))))))
  all_goals (obtain rfl : i = (List.length (words (val ys))) := (by omega); exact SlM_eq (mulEnd rfl))
end Go.Proofs.YtcfobalbkhgdmaaGreat
namespace Go.Nt
theorem or_add {a b r : Nat} (h : a < 2 ^ r) : a ||| 2 ^ r * b = a + 2 ^ r * b := by
 rw [Nat.or_comm, ← Nat.two_pow_add_eq_or_of_lt h, Nat.add_comm]
theorem add_or {a b r : Nat} (h : b < 2 ^ r) : b ||| a * 2 ^ r = b + a * 2 ^ r := by rw [Nat.mul_comm a]; exact or_add h
theorem two64 {r : Nat} (h : r ≤ 64) : 2 ^ (64 - r) * 2 ^ r = W := by
 rw [← Nat.pow_add, Nat.sub_add_cancel h]
theorem pow_split (k : Nat) : 2 ^ k = W ^ (k / 64) * 2 ^ (k % 64) := by
 have : W = 2 ^ 64 := rfl
 rw [this, ← Nat.pow_mul, ← Nat.pow_add]; congr 1; omega
theorem mul_mod_W {d r : Nat} (h : r ≤ 64) : d * 2 ^ r % W = d % 2 ^ (64 - r) * 2 ^ r := by
 rw [← two64 h, Nat.mul_mod_mul_right]
theorem mod_mul_lt {d r : Nat} (h : r ≤ 64) : d % 2 ^ (64 - r) * 2 ^ r + 2 ^ r ≤ W := by
 have : d % 2 ^ (64 - r) + 1 ≤ 2 ^ (64 - r) := Nat.mod_lt _ (Nat.pow_pos (by decide))
 rw [← two64 h, ← Nat.succ_mul]; exact Nat.mul_le_mul_right _ this
theorem shl_word {n d r : Nat} (hr : r ≤ 64) (hn : n < 2 ^ r) : n ||| d * 2 ^ r % W = (n + d * 2 ^ r) % W ∧ (n + d * 2 ^ r) / W = d / 2 ^ (64 - r) := by
 have h1 := mul_mod_W (d := d) hr
 have h2 := mod_mul_lt (d := d) hr
 have h3 : d * 2 ^ r / W = d / 2 ^ (64 - r) := by rw [← two64 hr, Nat.mul_div_mul_right _ _ (Nat.pow_pos (by decide))]
 rw [h1, add_or hn]
 rw [← h1] at h2 ⊢
 generalize d * 2 ^ r = D at *
 generalize 2 ^ r = p at *
 rw [← h3]
 clear h1 h3
 unfold W at *
 constructor <;> omega
theorem shl_next (A k i : Nat) : A % W ^ (i + 1) * 2 ^ k = A % W ^ i * 2 ^ k + W ^ (k / 64 + i) * (dig A i * 2 ^ (k % 64)) := by
 rw [mod_succ, Nat.add_mul]
 congr 1
 rw [pow_split k, Nat.pow_add]
 generalize 2 ^ (k % 64) = r
 generalize W ^ (k / 64) = w
 grind
theorem shl_low (A k i : Nat) : A % W ^ i * 2 ^ k / W ^ (k / 64 + i) < 2 ^ (k % 64) := by
 have h := Nat.mod_lt A (pow_pos' i)
 rw [Nat.div_lt_iff_lt_mul (pow_pos' _), pow_split k, Nat.pow_add]
 have hw := pow_pos' (k / 64)
 have hr : 0 < 2 ^ (k % 64) := Nat.pow_pos (by decide)
 generalize 2 ^ (k % 64) = r at *
 generalize W ^ (k / 64) = w at *
 have : A % W ^ i * (w * r) < W ^ i * (w * r) := Nat.mul_lt_mul_of_pos_right h (Nat.mul_pos hw hr)
 have e : r * (w * W ^ i) = W ^ i * (w * r) := by grind
 rw [e]; exact this
theorem shl_low_W {A k i : Nat} : A % W ^ i * 2 ^ k / W ^ (k / 64 + i) < W :=
 Nat.lt_of_lt_of_le (shl_low A k i) (by have := Nat.pow_le_pow_right (n := 2) (by decide) (by omega : k % 64 ≤ 64); simpa [W] using this)
theorem shl_get {A k i m : Nat} (h : k / 64 + i < m) : (wordsN m (A % W ^ i * 2 ^ k)).getD (k / 64 + i) 0 = A % W ^ i * 2 ^ k / W ^ (k / 64 + i) := by
 rw [wordsN_getD h, dig, Nat.mod_eq_of_lt shl_low_W]
theorem div_succ' (N k : Nat) : N / W ^ (k + 1) = N / W ^ k / W := by rw [Nat.pow_succ, Nat.div_div_eq_div_mul]
theorem dig_def (n i : Nat) : dig n i = n / W ^ i % W := rfl
theorem shl_hi {A k i : Nat} : (A % W ^ (i + 1) * 2 ^ k) / W ^ (k / 64 + i + 1) = dig A i / 2 ^ (64 - k % 64) := by
 rw [div_succ', shl_next, shifted, (shl_word (by omega) (shl_low A k i)).2]
theorem shl_set1 {A k i m v : Nat} (h : k / 64 + i < m) (hv : v = A % W ^ i * 2 ^ k / W ^ (k / 64 + i) ||| dig A i * 2 ^ (k % 64) % W) :
  (wordsN m (A % W ^ i * 2 ^ k)).set (k / 64 + i) v = mix (k / 64 + i + 1) (A % W ^ (i + 1) * 2 ^ k) (A % W ^ i * 2 ^ k) m := by
 rw [mix_start (Nat.le_of_lt h) (N' := A % W ^ (i + 1) * 2 ^ k) (by rw [shl_next, shifted_mod]), mix_set h rfl]
 rw [hv, (shl_word (by omega) (shl_low A k i)).1, dig_def (A % W ^ (i + 1) * 2 ^ k), shl_next, shifted]
theorem shl_end0 {A k i m : Nat} (h : k / 64 + i < m) (hk : k % 64 = 0) : mix (k / 64 + i + 1) (A % W ^ (i + 1) * 2 ^ k) (A % W ^ i * 2 ^ k) m = wordsN m (A % W ^ (i + 1) * 2 ^ k) := by
 refine mix_end h ?_
 rw [shl_hi, div_succ', Nat.div_eq_of_lt shl_low_W, hk, Nat.div_eq_of_lt]
 have := dig_lt A i
 simpa [W] using this
theorem shl_set2 {A k i m v j : Nat} (h : k / 64 + i + 1 < m) (hj : j = k / 64 + i + 1) (hk : 0 < k % 64) (hv : v = dig A i / 2 ^ (64 - k % 64)) :
  (mix (k / 64 + i + 1) (A % W ^ (i + 1) * 2 ^ k) (A % W ^ i * 2 ^ k) m).set j v = wordsN m (A % W ^ (i + 1) * 2 ^ k) := by
 have h1 : dig A i / 2 ^ (64 - k % 64) < W := Nat.lt_of_le_of_lt (Nat.div_le_self _ _) (dig_lt A i)
 rw [mix_set h hj (by rw [hv, dig_def (A % W ^ (i + 1) * 2 ^ k), shl_hi, Nat.mod_eq_of_lt h1])]
 refine mix_end h ?_
 rw [div_succ' _ (k / 64 + i + 1), div_succ' _ (k / 64 + i + 1), shl_hi, Nat.div_eq_of_lt h1, div_succ', Nat.div_eq_of_lt shl_low_W, Nat.zero_div]
theorem shlStart (A k m : Nat) : List.replicate m 0 = wordsN m (A % W ^ 0 * 2 ^ k) := by
 rw [Nat.pow_zero, Nat.mod_one, Nat.zero_mul]
 exact eq_wordsN (fun x hx => by rw [List.mem_replicate] at hx; rw [hx.2]; decide) (by simp) (by rw [val_replicate]; simp)
theorem pow2_le (k : Nat) : 2 ^ k ≤ W ^ (k / 64 + 1) := by
 rw [pow_split, Nat.pow_succ]
 refine Nat.mul_le_mul_left _ ?_
 have := Nat.pow_le_pow_right (n := 2) (by decide) (by omega : k % 64 ≤ 64); simpa [W] using this
theorem shlEnd {A k m : Nat} (h : (List.length (words A)) + k / 64 + 1 = m) : words (val (wordsN m (A % W ^ (List.length (words A)) * 2 ^ k))) = words (A * 2 ^ k) := by
 rw [Nat.mod_eq_of_lt (nw_lt A), words_val_wordsN]
 rw [← h, Nat.add_assoc, Nat.pow_add]
 have h1 := nw_lt A
 exact Nat.lt_of_lt_of_le (Nat.mul_lt_mul_of_pos_right h1 (Nat.pow_pos (by decide))) (Nat.mul_le_mul_left _ (pow2_le k))
theorem shr_dig (X i : Nat) {r : Nat} (hr : r ≤ 64) : dig X i / 2 ^ r ||| dig X (i + 1) * 2 ^ (64 - r) % W = dig (X / 2 ^ r) i := by
 have e1 : X / 2 ^ r / W ^ i = X / W ^ i / 2 ^ r := by rw [Nat.div_div_eq_div_mul, Nat.mul_comm, ← Nat.div_div_eq_div_mul]
 have h0 := dig_lt X i
 have e2 := div_succ X i
 have e3 := div_succ X (i + 1)
 have e4 := two64 hr
 have h4 : 64 - (64 - r) = r := by omega
 have h5 := mul_mod_W (d := dig X (i + 1)) (r := 64 - r) (by omega)
 rw [show dig (X / 2 ^ r) i = X / 2 ^ r / W ^ i % W from rfl, e1, e2, e3]
 have hp : 0 < 2 ^ r := Nat.pow_pos (by decide)
 have h6 : dig X i / 2 ^ r < 2 ^ (64 - r) := by rw [Nat.div_lt_iff_lt_mul hp, e4]; exact h0
 have h7 := mod_mul_lt (d := dig X (i + 1)) (r := 64 - r) (by omega)
 rw [h5, add_or h6, ← h5]
 rw [← h5] at h7
 have e5 : (W * (W * (X / W ^ (i + 1 + 1)) + dig X (i + 1)) + dig X i) / 2 ^ r = dig X i / 2 ^ r + dig X (i + 1) * 2 ^ (64 - r) + W * (X / W ^ (i + 1 + 1) * 2 ^ (64 - r)) := by
  have : W * (W * (X / W ^ (i + 1 + 1)) + dig X (i + 1)) + dig X i = dig X i + 2 ^ r * (2 ^ (64 - r) * (W * (X / W ^ (i + 1 + 1)) + dig X (i + 1))) := by
   rw [← Nat.mul_assoc, Nat.mul_comm (2 ^ r), e4]; omega
  rw [this, Nat.add_mul_div_left _ _ hp]
  generalize 2 ^ (64 - r) = q at *
  generalize X / W ^ (i + 1 + 1) = y
  generalize dig X (i + 1) = z
  generalize dig X i / 2 ^ r = t
  grind
 rw [e5, Nat.add_mul_mod_self_left]
 generalize dig X (i + 1) * 2 ^ (64 - r) = D at *
 generalize dig X i / 2 ^ r = t at *
 generalize 2 ^ (64 - r) = q at *
 clear e1 e2 e3 e4 e5 h5
 unfold W at *
 omega
theorem drop_words (A w : Nat) : (words A).drop w = words (A / W ^ w) := by
  induction w generalizing A with
  | zero => simp
  | succ w ih =>
    by_cases h : A = 0
    · subst h; rw [words_zero]; simp [words_zero]
    · rw [words_pos h, List.drop_succ_cons, ih, Nat.div_div_eq_div_mul, Nat.pow_succ, Nat.mul_comm W]
theorem nw_div (A w : Nat) : (List.length (words (A / W ^ w))) = (List.length (words A)) - w := by rw [← drop_words]; simp
theorem div_split (A k : Nat) : A / W ^ (k / 64) / 2 ^ (k % 64) = A / 2 ^ k := by rw [pow_split k, Nat.div_div_eq_div_mul]
theorem shr_set2 {N i m v e : Nat} (h : i < m) (hv : v ||| e = dig N i) : ((wpart N i m).set i v).set i ((((wpart N i m).set i v).getD i 0) ||| e) = wpart N (i + 1) m := by
 have hl : (wpart N i m).length = m := wpart_len (by omega)
 have e1 : ((wpart N i m).set i v).getD i 0 = v := by
  rw [List.getD_eq_getElem?_getD, List.getElem?_set_self (by rw [hl]; exact h)]; rfl
 rw [e1, List.set_set, wpart_set h hv]
theorem shr_step2 {X i m r : Nat} (hr : r < 64) (h : i < m) : ((wpart (X / 2 ^ r) i m).set i (dig X i / 2 ^ r)).set i ((((wpart (X / 2 ^ r) i m).set i (dig X i / 2 ^ r)).getD i 0) ||| dig X (i + 1) * 2 ^ (64 - r) % W) = wpart (X / 2 ^ r) (i + 1) m :=
 shr_set2 h (shr_dig X i (by omega))
theorem shr_step1 {X i m r : Nat} (hr : r < 64) (h : i < m) (hm : m = (List.length (words X))) (h0 : 0 < r → m ≤ i + 1) : (wpart (X / 2 ^ r) i m).set i (dig X i / 2 ^ r) = wpart (X / 2 ^ r) (i + 1) m := by
 refine wpart_set h ?_
 rw [← shr_dig X i (Nat.le_of_lt hr)]
 rcases Nat.eq_zero_or_pos r with h1 | h1
 ·subst h1
  have : dig X (i + 1) * 2 ^ (64 - 0) % W = 0 := by show _ * W % W = 0; exact Nat.mul_mod_left _ _
  rw [this, Nat.or_zero]
 ·rw [dig_zero (n := X) (i := i + 1) (by rw [← hm]; exact h0 h1)]; simp
theorem shr_none {A k : Nat} (h : (List.length (words A)) ≤ k / 64) : [] = words (A / 2 ^ k) := by
 rw [← div_split, Nat.div_eq_of_lt (lt_pow_of h), Nat.zero_div, words_zero]
theorem shr_end {A k m : Nat} (h : m = (List.length (words (A / W ^ (k / 64))))) : words (val (wordsN m (A / W ^ (k / 64) / 2 ^ (k % 64)))) = words (A / 2 ^ k) := by
 rw [words_val_wordsN, div_split]
 exact Nat.lt_of_le_of_lt (Nat.div_le_self _ _) (h ▸ nw_lt _)
theorem topW {A k : Nat} (hA : A ≠ 0) : ¬ (words A ++ List.replicate k 0).getD ((((List.length (words A)) : Nat) : Int) - 1).toNat 0 = 0 := by
 intro h
 have n1 := nw_pos hA
 have e : ((((List.length (words A)) : Nat) : Int) - 1).toNat = (List.length (words A)) - 1 := by omega
 rw [e, List.getD_eq_getElem?_getD, List.getElem?_append_left (by omega), ← List.getD_eq_getElem?_getD, getD_words] at h
 exact dig_top hA h
theorem words_ne {A : Nat} (h : words A ≠ []) : A ≠ 0 := fun e => h (by rw [e, words_zero])
end Go.Nt
namespace Go.Proofs.YtcfobalbkhgdmaaGreat
open Go.En Go.RowKit
set_option maxRecDepth 10000
set_option maxHeartbeats 4000000
open Go.Nt
theorem nat_Shl {xs : List Nat} {k : Nat} (hk : k ≤ 1048576) (hx : (List.length (words (val xs))) < 4294900000) : Ctr Tryz.prog 136 [isWords xs, isI (k : Int)] (isTup [isWords (words (val xs * 2 ^ k)), isB true]) := by
 refine Ctr.intro Tryz.func136 rfl (by kernel_rfl) Tryz.ntmps136 rfl fun w0 F0 => .cv (Cv.wk (.l [0, 1] rfl)) (.fact (Has.lenLt (Has.t (t := 0) rfl)) fun lt0 => .fact (Has.okW (Has.t (t := 0) rfl)) fun ok0 => .fact (Has.rngI (Has.t (t := 1) rfl)) fun lt1 => ?_)
 have e1 : ((k : Int) / 64) = ((k / 64 : Nat) : Int) := by omega
 have e2 : ((k : Int) % 64).toNat = k % 64 := by omega
 refine .seq fun _ k1 => .region (st (.as (.cW (f := isU))) rfl (st (.as (.cB false)) rfl (nl (.thn (k1 _ _ (.seq fun _ k2 => .seq fun _ k3 => .region (st (.mv (.t rfl)) rfl (st (.ltI (.t rfl) (.cI 0 rfl)) rfl (st (.mv (.t rfl)) rfl (stF rfl rfl (fun hg => .mv (.t rfl)) rfl (stF rfl rfl (fun hg => .gtI (Has.g rfl hg) (.cI 1048576 rfl)) rfl (st (.pickOr (.t rfl) (fun h => Has.g rfl (ng h))) rfl (nl (.thn (k3 _ _ (.cv (Cv.wk (.l [0, 1, 4, 5, 16] rfl)) (.cond (.t rfl) (fun hc1 => ?_) (fun hc1 => ?_))))))))))))))))))
 ·have hc1 := BP.t hc1
  exfalso; first | omega | contradiction | (revert hc1; simp)
 ·have hc1 := BP.f hc1
  refine .skip (.thn (k2 _ _ (.seq fun _ k4 => .region (st (.mv (.t rfl)) rfl (st (.call (nat_trim) (.cons (.t rfl) .nil)) rfl (st (.as (.t rfl)) rfl (nl (.thn (k4 _ _ (.seq fun _ k5 => .region (st (.mv (.t rfl)) rfl (st (.eq (.quoI (.t rfl) (.cI 64 rfl) (by omega) (by omega) (by omega)) (isI_eq e1)) rfl (st (.mv (.t rfl)) rfl (st (.remI (.t rfl) (.cI 64 rfl) (by omega) (by omega) (by omega)) rfl (st (.eq (.convIU un3 un148 (.t rfl) (by omega) (by omega)) (isU_eq e2)) rfl (st (.as (.t rfl)) rfl (st (.as (.t rfl)) rfl (nl (.thn (k5 _ _ (.cv (Cv.wk (.l [0, 4, 5, 6, 7] rfl)) (.seq fun _ k6 => .region (st (.mv (.t rfl)) rfl (st (.len sl34 (.t rfl)) rfl (st (.mv (.t rfl)) rfl (st (.addI (.t rfl) (.t rfl) (by omega) (by omega)) rfl (st (.addI (.t rfl) (.cI 1 rfl) (by omega) (by omega)) rfl (.make (f := isU) (u := 0) (n := (List.length (words (val xs))) + k / 64 + 1) (c := (List.length (words (val xs))) + k / 64 + 1) sl34 ty62 zero62 (fun _ _ => ⟨⟨rfl, by decide⟩, trivial⟩) by62 (Has.t' rfl rfl) (Has.t' rfl rfl) ⟨by omega, by omega⟩ rfl fun b1 => st (.as (.t rfl)) rfl (nl (.thn (k6 _ _ (.cv (Cv.wk (.l [0, 4, 5, 6, 7, 8] rfl)) (.seq fun _ k7 => .seq fun _ k8 => .region (st (.mv (.t rfl)) rfl (st (.len sl34 (.t rfl)) rfl (st (.mv (.cI 0 rfl)) rfl (nl (.thn (k8 _ _ ?_)))))))))))))))))))))))))))))))))))))))
  refine .block (.loopF [4, 5, 6, 7, 8, 30, 31] (fun (z : { i : Nat // i ≤ (List.length (words (val xs))) }) => match z with | ⟨i, hI⟩ => [(32, isI (i : Int))]) (fun M => fun (z : { i : Nat // i ≤ (List.length (words (val xs))) }) => match z with | ⟨i, hI⟩ => [(some b1, cellM (List.map isU (wordsN ((List.length (words (val xs))) + k / 64 + 1) (val xs % W ^ i * 2 ^ k))))]) (fun (z : { i : Nat // i ≤ (List.length (words (val xs))) }) => match z with | ⟨i, hI⟩ => (List.length (words (val xs))) - i) (⟨0, Nat.zero_le _⟩) (Cv.mem (.c 32 rfl ?_ (.l [4, 5, 6, 7, 8, 30, 31] rfl)) ?_) ?_)
  ·rfl
  ·exact memL_eq (shlStart _ _ _)
  rintro ⟨i, hI⟩ K9 hK9
  refine .cv (Cv.wk (.l [32, 4, 5, 6, 7, 8, 30, 31] rfl)) (.memEq (M' := [(some b1, cellM (List.map isU (wordsN ((List.length (words (val xs))) + k / 64 + 1) (val xs % W ^ i * 2 ^ k))))]) rfl ?_)
  have wl : (wordsN ((List.length (words (val xs))) + k / 64 + 1) (val xs % W ^ i * 2 ^ k)).length = (List.length (words (val xs))) + k / 64 + 1 := wordsN_len _ _
  have ek : (((k / 64 : Nat) : Int) + (i : Int)).toNat = k / 64 + i := by omega
  refine .seq fun _ k10 => .region (st (.ltI (.t rfl) (.t rfl)) rfl (nl (.thn (k10 _ _ (.seq fun _ k11 => .cond (.t rfl) (fun hc2 => ?_) (fun hc2 => ?_))))))
  ·have hc2 := BP.t hc2
   refine .skip (.thn (k11 _ _ (.seq fun _ k12 => .block (.seq fun _ k13 => .region (st (.mv (.t rfl)) rfl (st (.ixP sl34 ty62 (.t rfl) (.t rfl) ⟨by omega, by omega⟩ (getD_some (d := 0) (by omega))) rfl (st (.eq (.loadP1 (.t rfl) ty62) (isU_eq (getD_words _ i))) rfl (st (.as (.t rfl)) rfl (st (.as (.t rfl)) rfl (nl (.thn (k13 _ _ (.seq fun _ k14 => .region (st (.mv (.t rfl)) rfl (st (.mv (.t rfl)) rfl (st (.mv (.t rfl)) rfl (st (.addI (.t rfl) (.t rfl) (by omega) (by omega)) rfl (st (.eq (.ixWin sl34 ty62 (.t rfl) (.t rfl) ⟨by omega, by omega⟩) (isPtr_eq (by exact ixo0))) rfl (st (.eq (.load1 (.t rfl) (i := 0) rfl ty62 (map_some (getD_some (d := 0) (by omega)))) ((show isU _ = isU (val xs % W ^ i * 2 ^ k / W ^ (k / 64 + i)) from isU_eq (by rw [ek]; exact shl_get (by omega))))) rfl ?_)))))))))))))))))))
   refine st (.mv (.t rfl)) rfl (st (.mv (.t rfl)) rfl (st (.shlUU (.t rfl) (.t rfl) (by exact True.intro)) rfl (st (.orU (.t rfl) (.t rfl)) rfl (st (.eq (.ixWin sl34 ty62 (.t rfl) (.t rfl) ⟨by omega, by omega⟩) (isPtr_eq (by exact ixo0))) rfl (.storeM (.t rfl) (.t rfl) (i := 0) rfl ty62 (by omega) (M' := [(_, _)]) rfl (nl (.thn (k14 _ _ (.seq fun _ k15 => .region (st (.mv (.t rfl)) rfl (st (.gtU (.t rfl) (.cU 0 rfl)) rfl (nl (.thn (k15 _ _ (.cond (.t rfl) (fun hc3 => ?_) (fun hc3 => ?_))))))))))))))))
   ·have hc3 := BP.t hc3
    refine .region (st (.mv (.t rfl)) rfl (st (.mv (.t rfl)) rfl (st (.mv (.t rfl)) rfl (st (.addI (.t rfl) (.t rfl) (by omega) (by omega)) rfl (st (.addI (.t rfl) (.cI 1 rfl) (by omega) (by omega)) rfl (st (.mv (.t rfl)) rfl (st (.mv (.t rfl)) rfl (st (.subU' (.cU 64 rfl) (.t rfl) (by omega) (by omega)) rfl (st (.shrUU (.t rfl) (.t rfl) (by exact dig_lt _ _)) rfl (st (.eq (.ixWin sl34 ty62 (.t rfl) (.t rfl) ⟨by omega, by omega⟩) (isPtr_eq (by exact ixo0))) rfl (.storeM (.t rfl) (.t rfl) (i := 0) rfl ty62 (by simp only [Int.toNat_natCast, List.length_set, List.length_replicate]; omega) (M' := [(_, _)]) rfl ?_)))))))))))
    refine nl (.bln (.thn (k12 _ _ (.region (st (.addI (.t rfl) (.cI 1 rfl) (by omega) (by omega)) rfl (st (.mv (.t rfl)) rfl (nl (.thn (hK9 (⟨i + 1, by omega⟩) _ _ ?_ (Cv.mem (.c 32 rfl ?_ (.l [4, 5, 6, 7, 8, 30, 31] rfl)) ?_))))))))))
    ·show (List.length (words (val xs))) - (i + 1) < (List.length (words (val xs))) - i; omega
    ·rfl
    ·exact memL_eq (by rw [ek, shl_set1 (by omega) rfl]; exact shl_set2 (by omega) (by omega) (by omega) rfl)
   ·have hc3 := BP.f hc3
    refine .skip (.bln (.thn (k12 _ _ (.region (st (.addI (.t rfl) (.cI 1 rfl) (by omega) (by omega)) rfl (st (.mv (.t rfl)) rfl (nl (.thn (hK9 (⟨i + 1, by omega⟩) _ _ ?_ (Cv.mem (.c 32 rfl ?_ (.l [4, 5, 6, 7, 8, 30, 31] rfl)) ?_))))))))))
    ·show (List.length (words (val xs))) - (i + 1) < (List.length (words (val xs))) - i; omega
    ·rfl
    ·exact memL_eq (by rw [ek, shl_set1 (by omega) rfl]; exact shl_end0 (by omega) (by omega))
  ·have hc2 := BP.f hc2
   refine .exit (.the (.the (.blh (.thn (k7 _ _ (.cv (Cv.wk (.l [4, 5, 8] rfl)) (.seq fun _ k16 => .cv (Cv.freeze' (t := 8) (i := 0) (ys := wordsN ((List.length (words (val xs))) + k / 64 + 1) (val xs % W ^ i * 2 ^ k)) rfl rfl rfl (by simp; omega) (freeze_all (by rw [wl]))) ?_)))))))
   refine .memEq (M' := []) rfl (.cv (Cv.wk (.l [4, 5, 8] rfl)) (.region (st (.mv (.t rfl)) rfl (st (.call (nat_normal) (.cons (.t rfl) .nil)) rfl (st (.as (.t rfl)) rfl (st (.as (.cB true)) rfl (nl (.thn (k16 _ _ (.ret (rtN (.inl rfl) Tryz.results136 rfl rfl (.tmp (Has.t' rfl ?_) (.tmp (Has.t' rfl ?_) .nil)))))))))))))
   ·obtain rfl : i = (List.length (words (val xs))) := (by omega); exact SlM_eq (shlEnd rfl)
   ·rfl
theorem nat_Shr {xs : List Nat} {k : Nat} (hk : k < 9223372036854775808) (hx : (List.length (words (val xs))) < 4294900000) : Ctr Tryz.prog 138 [isWords xs, isI (k : Int)] (isTup [isWords (words (val xs / 2 ^ k)), isB true]) := by
 refine Ctr.intro Tryz.func138 rfl (by kernel_rfl) Tryz.ntmps138 rfl fun w0 F0 => .cv (Cv.wk (.l [0, 1] rfl)) (.fact (Has.lenLt (Has.t (t := 0) rfl)) fun lt0 => .fact (Has.okW (Has.t (t := 0) rfl)) fun ok0 => .fact (Has.rngI (Has.t (t := 1) rfl)) fun lt1 => ?_)
 have e1 : ((k : Int) / 64) = ((k / 64 : Nat) : Int) := by omega
 have e2 : ((k : Int) % 64).toNat = k % 64 := by omega
 have nX := nw_div (val xs) (k / 64)
 refine .seq fun _ k1 => .region (st (.as (.cW (f := isU))) rfl (st (.as (.cB false)) rfl (nl (.thn (k1 _ _ (.seq fun _ k2 => .seq fun _ k3 => .region (st (.mv (.t rfl)) rfl (st (.ltI (.t rfl) (.cI 0 rfl)) rfl (nl (.thn (k3 _ _ (.cond (.t rfl) (fun hc1 => ?_) (fun hc1 => ?_)))))))))))))
 ·have hc1 := BP.t hc1
  exfalso; first | omega | contradiction | (revert hc1; simp)
 ·have hc1 := BP.f hc1
  refine .skip (.thn (k2 _ _ (.seq fun _ k4 => .region (st (.mv (.t rfl)) rfl (st (.call (nat_trim) (.cons (.t rfl) .nil)) rfl (st (.as (.t rfl)) rfl (nl (.thn (k4 _ _ (.seq fun _ k5 => .region (st (.mv (.t rfl)) rfl (st (.eq (.quoI (.t rfl) (.cI 64 rfl) (by omega) (by omega) (by omega)) (isI_eq e1)) rfl (st (.mv (.t rfl)) rfl (st (.remI (.t rfl) (.cI 64 rfl) (by omega) (by omega) (by omega)) rfl (st (.eq (.convIU un3 un148 (.t rfl) (by omega) (by omega)) (isU_eq e2)) rfl (st (.as (.t rfl)) rfl (st (.as (.t rfl)) rfl (nl (.thn (k5 _ _ (.cv (Cv.wk (.l [0, 4, 5, 6, 7] rfl)) (.seq fun _ k6 => .seq fun _ k7 => .region (st (.mv (.t rfl)) rfl (st (.mv (.t rfl)) rfl (st (.len sl34 (.t rfl)) rfl (st (.geI (.t rfl) (.t rfl)) rfl (nl (.thn (k7 _ _ (.cond (.t rfl) (fun hc2 => ?_) (fun hc2 => ?_)))))))))))))))))))))))))))))))
  ·have hc2 := BP.t hc2
   refine .seq fun _ k8 => .region (st (.as (.cW (f := isU))) rfl (st (.as (.cB true)) rfl (nl (.thn (k8 _ _ (.ret (.thr (rtN (.inl rfl) Tryz.results138 rfl rfl (.tmp (Has.t' rfl ?_) (.tmp (Has.t' rfl ?_) .nil))))))))))
   ·exact SlM_eq (shr_none (by omega))
   ·rfl
  ·have hc2 := BP.f hc2
   refine .skip (.thn (k6 _ _ (.seq fun _ k9 => .region (st (.mv (.t rfl)) rfl (st (.mv (.t rfl)) rfl (st (.eq (.slLM sl34 ty62 (.t rfl) (.t rfl) ⟨by omega, by omega⟩) (SlM_eq (drop_words (val xs) (k / 64)))) rfl (st (.as (.t rfl)) rfl (nl (.thn (k9 _ _ (.cv (Cv.wk (.l [0, 4, 5, 7] rfl)) (.seq fun _ k10 => .region (st (.mv (.t rfl)) rfl (st (.len sl34 (.t rfl)) rfl (.make (f := isU) (u := 0) (n := (List.length (words (val xs / W ^ (k / 64))))) (c := (List.length (words (val xs / W ^ (k / 64))))) sl34 ty62 zero62 (fun _ _ => ⟨⟨rfl, by decide⟩, trivial⟩) by62 (Has.t' rfl rfl) (Has.t' rfl rfl) ⟨by omega, by omega⟩ rfl fun b1 => st (.as (.t rfl)) rfl (nl (.thn (k10 _ _ (.seq fun _ k11 => .seq fun _ k12 => .region (st (.mv (.t rfl)) rfl (st (.len sl34 (.t rfl)) rfl (st (.mv (.cI 0 rfl)) rfl (nl (.thn (k12 _ _ (.block (.loopF [0, 4, 5, 7, 8, 30, 31] (fun (z : { i : Nat // i ≤ (List.length (words (val xs / W ^ (k / 64)))) }) => match z with | ⟨i, hI⟩ => [(32, isI (i : Int))]) (fun M => fun (z : { i : Nat // i ≤ (List.length (words (val xs / W ^ (k / 64)))) }) => match z with | ⟨i, hI⟩ => [(some b1, cellM (List.map isU (wpart ((val xs / W ^ (k / 64)) / 2 ^ (k % 64)) i ((List.length (words (val xs / W ^ (k / 64))))))))]) (fun (z : { i : Nat // i ≤ (List.length (words (val xs / W ^ (k / 64)))) }) => match z with | ⟨i, hI⟩ => (List.length (words (val xs / W ^ (k / 64)))) - i) (⟨0, Nat.zero_le _⟩) (Cv.mem (.c 32 rfl ?_ (.l [0, 4, 5, 7, 8, 30, 31] rfl)) ?_) ?_)))))))))))))))))))))))))))
   ·rfl
   ·exact memL_eq (wpart_zero _ _)
   rintro ⟨i, hI⟩ K13 hK13
   refine .cv (Cv.wk (.l [32, 0, 4, 5, 7, 8, 30, 31] rfl)) (.memEq (M' := [(some b1, cellM (List.map isU (wpart ((val xs / W ^ (k / 64)) / 2 ^ (k % 64)) i ((List.length (words (val xs / W ^ (k / 64))))))))]) rfl ?_)
   have wl : (wpart ((val xs / W ^ (k / 64)) / 2 ^ (k % 64)) i ((List.length (words (val xs / W ^ (k / 64)))))).length = (List.length (words (val xs / W ^ (k / 64)))) := wpart_len (by omega)
   refine .seq fun _ k14 => .region (st (.ltI (.t rfl) (.t rfl)) rfl (nl (.thn (k14 _ _ (.seq fun _ k15 => .cond (.t rfl) (fun hc3 => ?_) (fun hc3 => ?_))))))
   ·have hc3 := BP.t hc3
    refine .skip (.thn (k15 _ _ (.seq fun _ k16 => .block (.seq fun _ k17 => .region (st (.mv (.t rfl)) rfl (st (.ixP sl34 ty62 (.t rfl) (.t rfl) ⟨by omega, by omega⟩ (getD_some (d := 0) (by omega))) rfl (st (.eq (.loadP1 (.t rfl) ty62) (isU_eq (getD_words _ i))) rfl (st (.as (.t rfl)) rfl (st (.as (.t rfl)) rfl (nl (.thn (k17 _ _ (.seq fun _ k18 => .region (st (.mv (.t rfl)) rfl (st (.mv (.t rfl)) rfl (st (.mv (.t rfl)) rfl (st (.mv (.t rfl)) rfl (st (.shrUU (.t rfl) (.t rfl) (by exact dig_lt _ _)) rfl (st (.eq (.ixWin sl34 ty62 (.t rfl) (.t rfl) ⟨by omega, by omega⟩) (isPtr_eq (by exact ixo0))) rfl (.storeM (.t rfl) (.t rfl) (i := 0) rfl ty62 (by omega) (M' := [(_, _)]) rfl (nl (.thn (k18 _ _ (.seq fun _ k19 => .region (st (.mv (.t rfl)) rfl (st (.gtU (.t rfl) (.cU 0 rfl)) rfl (st (.mv (.t rfl)) rfl (stT rfl rfl (fun hg => .mv (.t rfl)) rfl ?_))))))))))))))))))))))))))))
    refine stT rfl rfl (fun hg => have hg' := BP.t hg; OK1.addI (Has.g rfl hg) (.cI 1 rfl) (by omega) (by omega)) rfl ?_
    refine stT rfl rfl (fun hg => .mv (.t rfl)) rfl (stT rfl rfl (fun hg => .len sl34 (Has.g rfl hg)) rfl (stT rfl rfl (fun hg => .ltI (Has.g rfl hg) (Has.g rfl hg)) rfl (st (.pickAnd (.t rfl) (fun h => Has.g rfl h)) rfl (nl (.thn (k19 _ _ (.cond (.t rfl) (fun hc4 => ?_) (fun hc4 => ?_))))))))
    ·have hc4 := BP.t hc4
     refine .dr (.s [] rfl rfl rfl (.o rfl (.mv (.t rfl))) (.s [] rfl rfl rfl (.o rfl (.mv (.t rfl))) (.s [52, 53] rfl rfl rfl (.o rfl (.eq (.ixWin sl34 ty62 (.t rfl) (.t rfl) ⟨by omega, by omega⟩) (isPtr_eq (by exact ixo0)))) (.s [54] rfl rfl rfl (.o rfl (.load1 (.t rfl) (i := 0) rfl ty62 (map_some (getD_some (d := 0) (by simp only [Int.toNat_natCast, List.length_set]; omega))))) ?_))))
     refine .s [] rfl rfl rfl (.o rfl (.mv (.t rfl))) (.s [] rfl rfl rfl (.o rfl (.mv (.t rfl))) (.s [57] rfl rfl rfl (.o rfl (.addI (.t rfl) (.cI 1 rfl) (by omega) (by omega))) ?_))
     refine .s [56, 58] rfl rfl rfl (.o rfl (.ixP sl34 ty62 (.t rfl) (.t rfl) ⟨by omega, by omega⟩ (getD_some (d := 0) (by omega)))) (.s [59] rfl rfl rfl (.o rfl (.eq (.loadP1 (.t rfl) ty62) ((show isU _ = isU (dig (val xs / W ^ (k / 64)) (i + 1)) from isU_eq (getD_words _ (i + 1)))))) (.s [] rfl rfl rfl (.o rfl (.mv (.t rfl))) (.s [61] rfl rfl rfl (.o rfl (.subU' (.cU 64 rfl) (.t rfl) (by omega) (by omega))) ?_)))
     refine .s [60, 62] rfl rfl rfl (.o rfl (.shlUU (.t rfl) (.t rfl) (by exact True.intro))) (.fin (n := 12) mixed (by kernel_rfl) (by kernel_rfl) (by kernel_rfl) (.cv (Cv.wk (.l [0, 4, 5, 7, 8, 30, 31, 32, 33, 34, 35, 36, 9, 10, 37, 38, 39, 40, 41, 42, 43, 44, 45, 46, 47, 48, 49, 50, 51, 52, 53, 54, 55, 56, 57, 58, 59, 60, 61, 62, 63] rfl)) (st (.orU (.t rfl) (.t rfl)) rfl (st (.eq (.ixWin sl34 ty62 (.t rfl) (.t rfl) ⟨by omega, by omega⟩) (isPtr_eq (by exact ixo0))) rfl (.storeM (.t rfl) (.t rfl) (i := 0) rfl ty62 (by simp only [Int.toNat_natCast, List.length_set, List.length_replicate]; omega) (M' := [(_, _)]) rfl ?_)))))
     refine nl (.bln (.thn (k16 _ _ (.region (st (.addI (.t rfl) (.cI 1 rfl) (by omega) (by omega)) rfl (st (.mv (.t rfl)) rfl (nl (.thn (hK13 (⟨i + 1, by omega⟩) _ _ ?_ (Cv.mem (.c 32 rfl ?_ (.l [0, 4, 5, 7, 8, 30, 31] rfl)) ?_))))))))))
     ·show (List.length (words (val xs / W ^ (k / 64)))) - (i + 1) < (List.length (words (val xs / W ^ (k / 64)))) - i; omega
     ·rfl
     ·exact memL_eq (shr_step2 (by omega) (by omega))
    ·have hc4 := BP.f hc4
     refine .skip (.bln (.thn (k16 _ _ (.region (st (.addI (.t rfl) (.cI 1 rfl) (by omega) (by omega)) rfl (st (.mv (.t rfl)) rfl (nl (.thn (hK13 (⟨i + 1, by omega⟩) _ _ ?_ (Cv.mem (.c 32 rfl ?_ (.l [0, 4, 5, 7, 8, 30, 31] rfl)) ?_))))))))))
     ·show (List.length (words (val xs / W ^ (k / 64)))) - (i + 1) < (List.length (words (val xs / W ^ (k / 64)))) - i; omega
     ·rfl
     ·exact memL_eq (shr_step1 (by omega) (by omega) rfl (by omega))
   ·have hc3 := BP.f hc3
    refine .exit (.the (.the (.blh (.thn (k11 _ _ (.cv (Cv.wk (.l [4, 5, 8] rfl)) (.seq fun _ k20 => .cv (Cv.freeze' (t := 8) (i := 0) (ys := wordsN ((List.length (words (val xs / W ^ (k / 64))))) ((val xs / W ^ (k / 64)) / 2 ^ (k % 64))) rfl rfl rfl (by simp; omega) (fz_wpart' (by omega))) ?_)))))))
    refine .memEq (M' := []) rfl (.cv (Cv.wk (.l [4, 5, 8] rfl)) (.region (st (.mv (.t rfl)) rfl (st (.call (nat_normal) (.cons (.t rfl) .nil)) rfl (st (.as (.t rfl)) rfl (st (.as (.cB true)) rfl (nl (.thn (k20 _ _ (.ret (rtN (.inl rfl) Tryz.results138 rfl rfl (.tmp (Has.t' rfl ?_) (.tmp (Has.t' rfl ?_) .nil)))))))))))))
    ·exact SlM_eq (shr_end rfl)
    ·rfl
theorem clone_NatO {xs : List Nat} (hx : xs.length ≤ 4294967296) : CtrO Tryz.prog 97 [isWords xs] isU 0 xs := by
 refine CtrO.intro Tryz.func97 rfl (by kernel_rfl) Tryz.ntmps97 rfl fun w0 F0 => .cv (Cv.wk (.l [0] rfl)) (.fact (Has.lenLt (Has.t (t := 0) rfl)) fun lt0 => .fact (Has.okW (Has.t (t := 0) rfl)) fun ok0 => .seq fun _ k1 => .region (st (.as (.cW (f := isU))) rfl (nl (.thn (k1 _ _ (.seq fun _ k2 => .seq fun _ k3 => .region (st (.mv (.t rfl)) rfl (.eqNil sl34 (.t rfl) rfl fun bn1 hn1 => nl (.thn (k3 _ _ (.cond (.t rfl) (fun hc2 => ?_) (fun hc2 => ?_))))))))))))
 ·have hc2 := BP.t hc2
  refine .seq fun _ k4 => .region (st (.as (.cW (f := isU))) rfl (nl (.thn (k4 _ _ (.ret (.thr (rtO0 (.inl rfl) Tryz.results97 rfl ?_ (.tmp (Has.t' rfl ?_) .nil))))))))
  ·exact hn1 hc2
  ·rfl
 ·have hc2 := BP.f hc2
  refine .skip (.thn (k2 _ _ (.seq fun _ k5 => .region (.buildS0 sl34 ty62 rfl (st (.mv (.t rfl)) rfl (.appendO (f := isU) (u := 0) sl34 ty62 zero62 (fun _ _ => ⟨⟨rfl, by decide⟩, trivial⟩) by62 (.t rfl) (.t rfl) (by omega) rfl (fun hO3 => ?_) (fun hO3 b1 cb1 jb1 => ?_)))))))
  ·skip
   refine st (.as (.t rfl)) rfl (nl (.thn (k5 _ _ (.cv (Cv.wk (.l [2] rfl)) (.ret (rtO0 (.inl rfl) Tryz.results97 rfl ?_ (.tmp (Has.t' rfl ?_) .nil)))))))
   ·exact hO3
   ·rfl
  ·skip
   refine st (.as (.t rfl)) rfl (nl (.thn (k5 _ _ (.cv (Cv.wk (.l [2] rfl)) (.ret (rtO1 (.inl rfl) Tryz.results97 rfl ?_ (b := b1) (c := cb1) (k := jb1) (i := 0) ?_ (.tmp (Has.t' rfl ?_) .nil)))))))
   ·exact hO3
   ·rfl
   ·rfl
theorem nat_trimW {A k c : Nat} (hA : A ≠ 0) : CtrM Tryz.prog 95 (fun b0 => [isWin b0 0 ((List.length (words A))) c]) (cellM (List.map isU (words A ++ List.replicate k 0))) (cellM (List.map isU (words A ++ List.replicate k 0))) (fun b0 => isWin b0 0 ((List.length (words A))) c) := by
 refine CtrM.intro Tryz.func95 rfl (by kernel_rfl) Tryz.ntmps95 (fun _ => rfl) fun w0 F0 b0 => .cv (Cv.wk (.l [0] rfl)) (.fact (Has.lenLt (Has.t (t := 0) rfl)) fun lt0 => .fact (Has.winLe (Has.t (t := 0) rfl)) fun lw0 => ?_)
 have nA := nw_pos hA
 refine .seq fun _ k1 => .region (st (.as (.cW (f := isU))) rfl (nl (.thn (k1 _ _ (.seq fun _ k2 => .region (st (.mv (.t rfl)) rfl (st (.len sl34 (.t rfl)) rfl (st (.as (.t rfl)) rfl (nl (.thn (k2 _ _ (.seq fun _ k3 => .block (.loopF [0, 2] (fun (_ : Unit) => [(3, isI ((List.length (words A)) : Int))]) (fun M => fun (_ : Unit) => M) (fun (_ : Unit) => 0) (()) (Cv.mem (.c 3 rfl ?_ (.l [0, 2] rfl)) ?_) ?_)))))))))))))
 ·rfl
 ·rfl
 rintro _ K4 hK4
 refine .cv (Cv.wk (.l [3, 0, 2] rfl)) (.seq fun _ k5 => .seq fun _ k6 => .region (st (.mv (.t rfl)) rfl (st (.gtI (.t rfl) (.cI 0 rfl)) rfl (st (.mv (.t rfl)) rfl (stT rfl rfl (fun hg => .mv (.t rfl)) rfl (stT rfl rfl (fun hg => .mv (.t rfl)) rfl ?_))))))
 refine stT rfl rfl (fun hg => have hg' := BP.t hg; OK1.subI (Has.g rfl hg) (.cI 1 rfl) (by omega) (by omega)) rfl ?_
 refine stT rfl rfl (fun hg => have hg' := BP.t hg; OK1.eq (.ixWin sl34 ty62 (Has.g rfl hg) (Has.g rfl hg) ⟨by omega, by omega⟩) (isPtr_eq (by exact ixo0))) rfl ?_
 refine stT rfl rfl (fun hg => have hg' := BP.t hg; OK1.load1 (Has.g rfl hg) (i := 0) rfl ty62 (map_some (getD_some (d := 0) (by simp only [List.length_append]; omega)))) rfl ?_
 refine stT rfl rfl (fun hg => .eqU (Has.g rfl hg) (.cU 0 rfl)) rfl (st (.pickAnd (.t rfl) (fun h => Has.g rfl h)) rfl (nl (.thn (k6 _ _ (.cond (.t rfl) (fun hc1 => ?_) (fun hc1 => ?_))))))
 ·have hc1 := BP.t hc1
  exact absurd hc1.2 (topW hA)
 ·have hc1 := BP.f hc1
  refine .exit (.the (.the (.blh (.thn (k3 _ _ (.cv (Cv.wk (.l [0, 2, 3] rfl)) (.seq fun _ k7 => .region (st (.mv (.t rfl)) rfl (st (.mv (.t rfl)) rfl (st (.slHWin sl34 ty62 (.t rfl) (.t rfl) ⟨by omega, by omega, by omega⟩) rfl (st (.as (.t rfl)) rfl (nl (.thn (k7 _ _ (.cv (Cv.wk (.l [2] rfl)) (.ret (rtM1 (.inl rfl) Tryz.results95 rfl (i := 0) ?_ (.tmp (Has.t' rfl ?_) .nil))))))))))))))))))
  all_goals (rfl)
theorem nat_normalW {A k c : Nat} (hA : A ≠ 0) : CtrM Tryz.prog 96 (fun b0 => [isWin b0 0 ((List.length (words A))) c]) (cellM (List.map isU (words A ++ List.replicate k 0))) (cellM (List.map isU (words A ++ List.replicate k 0))) (fun b0 => isWin b0 0 ((List.length (words A))) c) := by
 refine CtrM.intro Tryz.func96 rfl (by kernel_rfl) Tryz.ntmps96 (fun _ => rfl) fun w0 F0 b0 => .cv (Cv.wk (.l [0] rfl)) (.fact (Has.lenLt (Has.t (t := 0) rfl)) fun lt0 => .fact (Has.winLe (Has.t (t := 0) rfl)) fun lw0 => ?_)
 have nA := nw_pos hA
 refine .seq fun _ k1 => .region (st (.as (.cW (f := isU))) rfl (nl (.thn (k1 _ _ (.seq fun _ k2 => .region (st (.mv (.t rfl)) rfl (.callM (nat_trimW hA) (i := 0) rfl (.cons (.t rfl) .nil) rfl (M' := [(_, _)]) rfl (st (.as (.t rfl)) rfl (nl (.thn (k2 _ _ (.seq fun _ k3 => .seq fun _ k4 => .region (st (.mv (.t rfl)) rfl (st (.len sl34 (.t rfl)) rfl (st (.eqI (.t rfl) (.cI 0 rfl)) rfl (nl (.thn (k4 _ _ (.cond (.t rfl) (fun hc1 => ?_) (fun hc1 => ?_))))))))))))))))))))
 ·have hc1 := BP.t hc1
  exfalso; first | omega | contradiction | (revert hc1; simp)
 ·have hc1 := BP.f hc1
  refine .skip (.thn (k3 _ _ (.cv (Cv.wk (.l [0, 2] rfl)) (.seq fun _ k5 => .region (st (.mv (.t rfl)) rfl (st (.as (.t rfl)) rfl (nl (.thn (k5 _ _ (.ret (rtM1 (.inl rfl) Tryz.results96 rfl (i := 0) ?_ (.tmp (Has.t' rfl ?_) .nil))))))))))))
  all_goals (rfl)
theorem nat_NormO {xs : List Nat} (hx : (List.length (words (val xs))) ≤ 4294967296) : CtrO Tryz.prog 64 [isWords xs] isU 0 (words (val xs)) := by
 refine CtrO.intro Tryz.func64 rfl (by kernel_rfl) Tryz.ntmps64 rfl fun w0 F0 => .cv (Cv.wk (.l [0] rfl)) (.fact (Has.lenLt (Has.t (t := 0) rfl)) fun lt0 => .fact (Has.okW (Has.t (t := 0) rfl)) fun ok0 => .seq fun _ k1 => .region (st (.as (.cW (f := isU))) rfl (nl (.thn (k1 _ _ (.seq fun _ k2 => .region (st (.mv (.t rfl)) rfl (st (.call (nat_trim) (.cons (.t rfl) .nil)) rfl (.callO (clone_NatO hx) (.cons (.t rfl) .nil) rfl (fun hO1 => ?_) (fun hO1 b1 cb1 jb1 => ?_))))))))))
 ·skip
  refine st (.call (nat_normal (xs := [])) (.cons (.t rfl) .nil)) rfl (st (.as (.t rfl)) rfl (nl (.thn (k2 _ _ (.cv (Cv.wk (.l [2] rfl)) (.ret (rtO0 (.inl rfl) Tryz.results64 rfl ?_ (.tmp (Has.t' rfl ?_) .nil))))))))
  ·exact hO1
  ·exact SlM_eq words_zero
 ·skip
  refine .callM (nat_normalW (words_ne hO1)) (i := 0) rfl (.cons (.t rfl) .nil) rfl (M' := [(_, _)]) rfl (st (.as (.t rfl)) rfl (nl (.thn (k2 _ _ (.cv (Cv.wk (.l [2] rfl)) (.ret (rtO1 (.inl rfl) Tryz.results64 rfl ?_ (b := b1) (c := cb1) (k := jb1) (i := 0) ?_ (.tmp (Has.t' rfl ?_) .nil))))))))
  ·exact hO1
  ·rfl
  ·rfl
end Go.Proofs.YtcfobalbkhgdmaaGreat
namespace Go.Nt
theorem bitLen_le64 {x : Nat} (h : x < 18446744073709551616) : bitLen x ≤ 64 := by
 have h1 := (bitLen_spec x).2
 rcases Nat.lt_or_ge 64 (bitLen x) with h2 | h2
 ·have h3 : x ≠ 0 := by intro e; subst e; simp [bitLen] at h2
  have h4 := h1 h3
  have h5 : 2 ^ 64 ≤ 2 ^ (bitLen x - 1) := Nat.pow_le_pow_right (by decide) (by omega)
  omega
 ·exact h2
theorem bitLen_pos {x : Nat} (h : x ≠ 0) : 0 < bitLen x := by unfold bitLen; rw [if_neg h]; omega
theorem lead {y s : Nat} (hy : y < 18446744073709551616) (h0 : y ≠ 0) (hs : s = 64 - bitLen y) : 9223372036854775808 ≤ y * 2 ^ s ∧ y * 2 ^ s < 18446744073709551616 := by
 have h1 := bitLen_spec y
 have h2 := bitLen_le64 hy
 have h3 := bitLen_pos h0
 have h4 := h1.2 h0
 constructor
 ·have : 2 ^ (bitLen y - 1) * 2 ^ s ≤ y * 2 ^ s := Nat.mul_le_mul_right _ h4
  rw [← Nat.pow_add, show bitLen y - 1 + s = 63 by omega] at this
  exact this
 ·have : y * 2 ^ s < 2 ^ bitLen y * 2 ^ s := Nat.mul_lt_mul_of_pos_right h1.1 (Nat.pow_pos (by decide))
  rw [← Nat.pow_add, show bitLen y + s = 64 by omega] at this
  exact this
structure Gs (u u1 v1 v0 q r : Nat) : Prop where
 e : u = q * v1 + r
 le : (u * 4294967296 + u1) / (v1 * 4294967296 + v0) ≤ q
 q : q ≤ 4294967297
 r : r < 4294967296
structure Hv (u u1 v1 v0 : Nat) : Prop where
 a : 2147483648 ≤ v1
 b : v1 < 4294967296
 c : v0 < 4294967296
 d : u < v1 * 4294967296 + v0
 f : u1 < 4294967296
theorem Gs.start {u u1 v1 v0 : Nat} (h : Hv u u1 v1 v0) : Gs u u1 v1 v0 (u / v1) (u - u / v1 * v1) := by
 obtain ⟨h1, h2, h3, h4, h5⟩ := h
 have e1 := Nat.div_add_mod u v1
 have e2 := Nat.mod_lt u (show 0 < v1 by omega)
 rw [Nat.mul_comm] at e1
 refine ⟨by omega, ?_, ?_, by omega⟩
 ·rw [Nat.le_div_iff_mul_le (by omega)]
  have h6 := Nat.div_mul_le_self (u * 4294967296 + u1) (v1 * 4294967296 + v0)
  generalize (u * 4294967296 + u1) / (v1 * 4294967296 + v0) = Q at *
  rw [Nat.mul_add, ← Nat.mul_assoc] at h6
  generalize Q * v1 = p at *
  generalize Q * v0 = p' at *
  omega
 ·rcases Nat.lt_or_ge 4294967297 (u / v1) with h6 | h6
  ·have : 4294967298 * v1 ≤ u / v1 * v1 := Nat.mul_le_mul_right _ h6
   omega
  ·exact h6
theorem Gs.next {u u1 v1 v0 q r : Nat} (h : Hv u u1 v1 v0) (g : Gs u u1 v1 v0 q r) (hc : 4294967296 ≤ q ∨ 4294967296 * r + u1 < q * v0) :
  u = (q - 1) * v1 + (r + v1) ∧ (u * 4294967296 + u1) / (v1 * 4294967296 + v0) ≤ q - 1 ∧ q - 1 ≤ 4294967296 ∧ 1 ≤ q := by
 obtain ⟨h1, h2, h3, h4, h5⟩ := h
 obtain ⟨g1, g2, g3, g4⟩ := g
 have hq : 1 ≤ q := by
  rcases hc with hc | hc
  ·omega
  ·rcases Nat.eq_zero_or_pos q with h | h
   ·subst h; omega
   ·exact h
 have hlt : (u * 4294967296 + u1) / (v1 * 4294967296 + v0) < q := by
  rw [Nat.div_lt_iff_lt_mul (by omega), Nat.mul_add, ← Nat.mul_assoc]
  rcases hc with hc | hc
  ·have h6 : 4294967296 * (v1 * 4294967296 + v0) ≤ q * (v1 * 4294967296 + v0) := Nat.mul_le_mul_right _ hc
   rw [Nat.mul_add q, ← Nat.mul_assoc] at h6
   omega
  ·omega
 refine ⟨?_, by omega, by omega, hq⟩
 obtain ⟨k, rfl⟩ : ∃ k, q = k + 1 := ⟨q - 1, by omega⟩
 rw [Nat.succ_mul] at g1
 simp only [Nat.add_sub_cancel]
 omega
theorem Gs.exit {u u1 v1 v0 q r : Nat} (h : Hv u u1 v1 v0) (g : Gs u u1 v1 v0 q r) (hc : q * v0 ≤ 4294967296 * r + u1) : q = (u * 4294967296 + u1) / (v1 * 4294967296 + v0) := by
 obtain ⟨h1, h2, h3, h4, h5⟩ := h
 obtain ⟨g1, g2, g3, g4⟩ := g
 refine Nat.le_antisymm ?_ g2
 rw [Nat.le_div_iff_mul_le (by omega), Nat.mul_add, ← Nat.mul_assoc]
 omega
theorem Gs.exit2 {u u1 v1 v0 q r : Nat} (h : Hv u u1 v1 v0) (g1 : u = q * v1 + r) (g2 : (u * 4294967296 + u1) / (v1 * 4294967296 + v0) ≤ q) (g3 : q ≤ 4294967296) (hr : 4294967296 ≤ r) :
  q = (u * 4294967296 + u1) / (v1 * 4294967296 + v0) := by
 obtain ⟨h1, h2, h3, h4, h5⟩ := h
 refine Nat.le_antisymm ?_ g2
 rw [Nat.le_div_iff_mul_le (by omega), Nat.mul_add, ← Nat.mul_assoc]
 have : q * v0 ≤ 4294967296 * 4294967295 := Nat.mul_le_mul g3 (by omega)
 omega
theorem mul_bb {q v : Nat} (h1 : q < 4294967296) (h2 : v < 4294967296) : q * v < 18446744073709551616 := Nat.mul_lt_mul'' h1 h2
theorem wrapSub {a u p r : Nat} (h : a * 4294967296 + u = p + r) (hr : r < 18446744073709551616) (hp : u < 4294967296) :
  ((a * 4294967296 % 18446744073709551616 + u) % 18446744073709551616 + (18446744073709551616 - p % 18446744073709551616)) % 18446744073709551616 = r := by omega
theorem wrapAdd {q1 q0 : Nat} (h1 : q1 < 4294967296) (h0 : q0 < 4294967296) : (q1 * 4294967296 % 18446744073709551616 + q0) % 18446744073709551616 = q1 * 4294967296 + q0 := by omega
theorem divMul (t y : Nat) : t = t / y * y + t % y := by have := Nat.div_add_mod t y; rw [Nat.mul_comm] at this; omega
structure D64 (hi lo y s Y A U1 U0 v1 v0 : Nat) : Prop where
 ks : s ≤ 64
 yl : Y < 18446744073709551616
 un32 : hi * 2 ^ s % 18446744073709551616 ||| lo / 2 ^ (64 - s) = A
 al : A < 18446744073709551616
 kv1 : Y / 4294967296 = v1
 kv0 : Y % 4294967296 = v0
 u1 : lo * 2 ^ s % 18446744073709551616 / 4294967296 = U1
 u0 : lo * 2 ^ s % 18446744073709551616 % 4294967296 = U0
 hv : Hv A U1 v1 v0
 kY : v1 * 4294967296 + v0 = Y
 hv2 : Hv ((A * 4294967296 + U1) % Y) U0 v1 v0
 q1 : (A * 4294967296 + U1) / Y < 4294967296
 q0 : ((A * 4294967296 + U1) % Y * 4294967296 + U0) / Y < 4294967296
 r1 : (A * 4294967296 + U1) % Y < 18446744073709551616
 r0 : ((A * 4294967296 + U1) % Y * 4294967296 + U0) % Y < 18446744073709551616
 quo : (A * 4294967296 + U1) / Y * 4294967296 + ((A * 4294967296 + U1) % Y * 4294967296 + U0) / Y = (hi * 18446744073709551616 + lo) / y
 rem : ((A * 4294967296 + U1) % Y * 4294967296 + U0) % Y / 2 ^ s = (hi * 18446744073709551616 + lo) % y
theorem mkHv {u Y n : Nat} (h : u < Y) (h1 : 9223372036854775808 ≤ Y) (h2 : Y < 18446744073709551616) (h3 : n < 4294967296) : Hv u n (Y / 4294967296) (Y % 4294967296) :=
 ⟨by omega, by omega, by omega, by omega, h3⟩
theorem splitY (Y : Nat) : Y / 4294967296 * 4294967296 + Y % 4294967296 = Y := by omega
theorem d64 {hi lo y : Nat} (hlo : lo < 18446744073709551616) (hy : y < 18446744073709551616) (h : hi < y) :
  ∃ s Y A U1 U0 v1 v0, s = 64 - bitLen y ∧ Y = y * 2 ^ s ∧ D64 hi lo y s Y A U1 U0 v1 v0 := by
 obtain ⟨s, hs⟩ : ∃ s, s = 64 - bitLen y := ⟨_, rfl⟩
 have hl := lead hy (by omega) hs
 have hs64 : s ≤ 64 := by omega
 have hp : 0 < 2 ^ s := Nat.pow_pos (by decide)
 have hd : lo / 2 ^ (64 - s) < 2 ^ s := by
  rw [Nat.div_lt_iff_lt_mul (Nat.pow_pos (by decide)), Nat.mul_comm, two64 hs64]; exact hlo
 have hsw := shl_word (d := hi) hs64 hd
 have h1 : hi * 2 ^ s + 2 ^ s ≤ y * 2 ^ s := by rw [← Nat.succ_mul]; exact Nat.mul_le_mul_right _ h
 have h32 : hi * 2 ^ s % 18446744073709551616 ||| lo / 2 ^ (64 - s) = lo / 2 ^ (64 - s) + hi * 2 ^ s := by
  rw [Nat.or_comm]
  refine hsw.1.trans (Nat.mod_eq_of_lt ?_)
  unfold W; omega
 obtain ⟨Y, hY⟩ : ∃ Y, Y = y * 2 ^ s := ⟨_, rfl⟩
 have hlo2 : lo * 2 ^ s / 18446744073709551616 = lo / 2 ^ (64 - s) := by
  have := two64 hs64
  rw [show (18446744073709551616 : Nat) = W from rfl, ← this, Nat.mul_div_mul_right _ _ hp]
 have eN : (hi * 18446744073709551616 + lo) * 2 ^ s = (lo / 2 ^ (64 - s) + hi * 2 ^ s) * 18446744073709551616 + lo * 2 ^ s % 18446744073709551616 := by
  have := Nat.div_add_mod (lo * 2 ^ s) 18446744073709551616
  rw [hlo2] at this
  rw [Nat.add_mul, Nat.mul_right_comm, Nat.add_mul]; omega
 have eq1 : (hi * 18446744073709551616 + lo) * 2 ^ s / Y = (hi * 18446744073709551616 + lo) / y := by rw [hY, Nat.mul_div_mul_right _ _ hp]
 have er1 : (hi * 18446744073709551616 + lo) * 2 ^ s % Y = (hi * 18446744073709551616 + lo) % y * 2 ^ s := by rw [hY, Nat.mul_mod_mul_right]
 rw [eN] at eq1 er1
 rw [← hY] at hl h1
 obtain ⟨A, hA⟩ : ∃ A, A = lo / 2 ^ (64 - s) + hi * 2 ^ s := ⟨_, rfl⟩
 rw [← hA] at h32 eq1 er1
 have hAY : A < Y := by omega
 have hn0 : lo * 2 ^ s % 18446744073709551616 < 18446744073709551616 := Nat.mod_lt _ (by decide)
 obtain ⟨n0, hn⟩ : ∃ n0, n0 = lo * 2 ^ s % 18446744073709551616 := ⟨_, rfl⟩
 rw [← hn] at eq1 er1 hn0
 have hT : (A * 4294967296 + n0 / 4294967296) % Y < Y := Nat.mod_lt _ (by omega)
 have eT := Nat.div_add_mod (A * 4294967296 + n0 / 4294967296) Y
 have e3 : A * 18446744073709551616 + n0 = (A * 4294967296 + n0 / 4294967296) % Y * 4294967296 + n0 % 4294967296 + Y * ((A * 4294967296 + n0 / 4294967296) / Y * 4294967296) := by
  rw [← Nat.mul_assoc]; omega
 rw [e3, Nat.add_mul_div_left _ _ (by omega)] at eq1
 rw [e3, Nat.add_mul_mod_self_left] at er1
 have hq1 : (A * 4294967296 + n0 / 4294967296) / Y < 4294967296 := by
  rw [Nat.div_lt_iff_lt_mul (by omega)]; omega
 have hq0 : ((A * 4294967296 + n0 / 4294967296) % Y * 4294967296 + n0 % 4294967296) / Y < 4294967296 := by
  rw [Nat.div_lt_iff_lt_mul (by omega)]; omega
 have hr0 := Nat.mod_lt ((A * 4294967296 + n0 / 4294967296) % Y * 4294967296 + n0 % 4294967296) (by omega : Y > 0)
 have b0 : n0 % 4294967296 < 4294967296 := Nat.mod_lt _ (by decide)
 have b1 : n0 / 4294967296 < 4294967296 := by rw [Nat.div_lt_iff_lt_mul (by decide)]; exact hn0
 refine ⟨s, Y, A, n0 / 4294967296, n0 % 4294967296, Y / 4294967296, Y % 4294967296, hs, hY, ⟨hs64, hl.2, h32, Nat.lt_trans hAY hl.2, rfl, rfl, by rw [hn], by rw [hn], mkHv hAY hl.1 hl.2 b1, splitY Y, mkHv hT hl.1 hl.2 b0, hq1, hq0, Nat.lt_trans hT hl.2, Nat.lt_trans hr0 hl.2, ?_, ?_⟩⟩
 ·rw [← eq1, Nat.add_comm]
 ·rw [er1, Nat.mul_div_cancel _ hp]
/-! ### division by a word -/
theorem smallStart (A Q j : Nat) : words A ++ List.replicate j 0 = mix ((List.length (words A))) A Q ((List.length (words A))) ++ List.replicate j 0 := by
 congr 1
 unfold mix
 rw [Nat.sub_self]
 conv => lhs; rw [words_wordsN]
 simp [wordsN]
theorem getD_app {xs ys : List Nat} {i : Nat} (h : i < xs.length) : (xs ++ ys).getD i 0 = xs.getD i 0 := by
 rw [List.getD_eq_getElem?_getD, List.getElem?_append_left h, ← List.getD_eq_getElem?_getD]
theorem mix_low {k N' N m j : Nat} (h : j < k) : (mix k N' N m).getD j 0 = dig N' j := by
 unfold mix; rw [getD_app (by rw [wordsN_len]; exact h), wordsN_getD h]
theorem mix_down {A Q m j k d : Nat} (hk : 0 < k) (hm : k ≤ m) (hd : d = dig Q (k - 1)) : (mix k A Q m ++ List.replicate j 0).set (k - 1) d = mix (k - 1) A Q m ++ List.replicate j 0 := by
 obtain ⟨i, rfl⟩ : ∃ i, k = i + 1 := ⟨k - 1, by omega⟩
 simp only [Nat.add_sub_cancel] at *
 rw [List.set_append_left _ _ (by rw [mix_len hm]; omega)]
 congr 1
 unfold mix
 rw [List.set_append_left _ _ (by rw [wordsN_len]; omega), wordsN_succ, List.set_append_right _ _ (by rw [wordsN_len]; exact Nat.le_refl _), wordsN_len, Nat.sub_self, List.set_cons_zero, hd]
 have : m - i = (m - (i + 1)) + 1 := by omega
 rw [this, wordsN, Nat.div_div_eq_div_mul, ← Nat.pow_succ]
 simp [dig]
theorem quo_word {r d x : Nat} (hx : 0 < x) (h : r < x) (hd : d < 18446744073709551616) : (r * 18446744073709551616 + d) / x < 18446744073709551616 := by
 rw [Nat.div_lt_iff_lt_mul hx]; omega
theorem small_step {A x k : Nat} (hx : 0 < x) (hk : 0 < k) : (A / W ^ k % x * 18446744073709551616 + dig A (k - 1)) / x = dig (A / x) (k - 1) ∧ (A / W ^ k % x * 18446744073709551616 + dig A (k - 1)) % x = A / W ^ (k - 1) % x := by
 have e := div_pow_succ A k hk
 have hd := dig_lt A (k - 1)
 have h1 := Nat.div_add_mod (A / W ^ k) x
 have h2 := Nat.mod_lt (A / W ^ k) hx
 have e2 : A / W ^ (k - 1) = (A / W ^ k % x * 18446744073709551616 + dig A (k - 1)) + x * (18446744073709551616 * (A / W ^ k / x)) := by
  rw [e, Nat.mul_left_comm]
  generalize x * (A / W ^ k / x) = p at *
  unfold W at *
  omega
 constructor
 ·rw [dig_def (A / x), Nat.div_div_eq_div_mul, Nat.mul_comm x, ← Nat.div_div_eq_div_mul, e2, Nat.add_mul_div_left _ _ hx, show W = 18446744073709551616 from rfl, Nat.add_mul_mod_self_left]
  symm
  apply Nat.mod_eq_of_lt
  exact quo_word hx h2 hd
 ·rw [e2, Nat.add_mul_mod_self_left]
theorem smallEnd {A x j n : Nat} (hn : n = (List.length (words A))) : ((mix 0 A (A / x) ((List.length (words A))) ++ List.replicate j 0).drop 0).take n = wordsN ((List.length (words A))) (A / x) := by
 subst hn
 rw [List.drop_zero, List.take_left' (by rw [mix_len (Nat.zero_le _)])]
 simp [mix, wordsN]
theorem words_quo (A x : Nat) : words (val (wordsN ((List.length (words A))) (A / x))) = words (A / x) := words_val_wordsN (Nat.lt_of_le_of_lt (Nat.div_le_self _ _) (nw_lt A))
theorem normLe {A x B : Nat} (h : (List.length (words A)) ≤ B) : (List.length (words (A / x % W ^ (List.length (words A))))) ≤ B := Nat.le_trans (nw_mono (Nat.le_trans (Nat.mod_le _ _) (Nat.div_le_self _ _))) h
theorem of_words_nil {A : Nat} (h : words A = []) : A = 0 := by rw [← val_words A, h]; rfl
end Go.Nt
namespace Go.Proofs.YtcfobalbkhgdmaaGreat
open Go.En Go.RowKit
set_option maxRecDepth 10000
set_option maxHeartbeats 4000000
open Go.Nt
theorem bits_Len64 {x : Nat} : Ctr Tryz.prog 110 [isU x] (isI (bitLen x : Int)) := by
 refine Ctr.intro Tryz.func110 rfl (by kernel_rfl) Tryz.ntmps110 rfl fun w0 F0 => .cv (Cv.wk (.l [0] rfl)) (.fact (Has.ltU (Has.t (t := 0) rfl)) fun lt0 => .seq fun _ k1 => .region (st (.as (.cI 0 rfl)) rfl (nl (.thn (k1 _ _ (.cutF [] (fun (z : { z : Nat × Nat // bitLen x = z.2 + bitLen z.1 ∧ z.1 < 4294967296 ∧ z.2 ≤ 32 }) => match z with | ⟨(y, n), hI⟩ => [(0, isU y), (2, isI (n : Int))]) (fun M => fun (z : { z : Nat × Nat // bitLen x = z.2 + bitLen z.1 ∧ z.1 < 4294967296 ∧ z.2 ≤ 32 }) => match z with | ⟨(y, n), hI⟩ => M) (fun K2 hK2 => ?_) ?_))))))
 ·skip
  refine .seq fun _ k3 => .region (st (.mv (.t rfl)) rfl (st (.geU (.t rfl) (.cU 4294967296 rfl)) rfl (nl (.thn (k3 _ _ (.cond (.t rfl) (fun hc1 => ?_) (fun hc1 => ?_)))))))
  ·have hc1 := BP.t hc1
   refine .seq fun _ k4 => .region (st (.mv (.t rfl)) rfl (st (.shrUU (.t rfl) (.cU 32 rfl) (by omega)) rfl (st (.as (.t rfl)) rfl (nl (.thn (k4 _ _ (.region (st (.as (.cI 32 rfl)) rfl (nl (.thn ?_))))))))))
   refine hK2 (⟨(x / 2 ^ 32, 32), by have := bitLen_shift x 32 (by omega); exact this, by show x / 2 ^ 32 < _; omega, Nat.le_refl _⟩) _ _ (Cv.mem (.c 0 rfl ?_ (.c 2 rfl ?_ .nil)) ?_)
   ·rfl
   ·rfl
   ·rfl
  ·have hc1 := BP.f hc1
   refine .skip (.thn ?_)
   refine hK2 (⟨(x, 0), (Nat.zero_add _).symm, by show x < _; omega, Nat.zero_le _⟩) _ _ (Cv.mem (.c 0 rfl ?_ (.c 2 rfl ?_ .nil)) ?_)
   ·rfl
   ·rfl
   ·rfl
 rintro ⟨⟨y, n⟩, h1, h2, h3⟩
 refine .cv (Cv.wk (.l [0, 2] rfl)) ?_
 simp only [] at h1 h2 h3
 refine .cutF [] (fun (z : { z : Nat × Nat // bitLen x = z.2 + bitLen z.1 ∧ z.1 < 65536 ∧ z.2 ≤ 48 }) => match z with | ⟨(y, n), hI⟩ => [(0, isU y), (2, isI (n : Int))]) (fun M => fun (z : { z : Nat × Nat // bitLen x = z.2 + bitLen z.1 ∧ z.1 < 65536 ∧ z.2 ≤ 48 }) => match z with | ⟨(y, n), hI⟩ => M) (fun K5 hK5 => ?_) ?_
 ·skip
  refine .seq fun _ k6 => .region (st (.mv (.t rfl)) rfl (st (.geU (.t rfl) (.cU 65536 rfl)) rfl (nl (.thn (k6 _ _ (.cond (.t rfl) (fun hc2 => ?_) (fun hc2 => ?_)))))))
  ·have hc2 := BP.t hc2
   refine .seq fun _ k7 => .region (st (.mv (.t rfl)) rfl (st (.shrUU (.t rfl) (.cU 16 rfl) (by omega)) rfl (st (.as (.t rfl)) rfl (nl (.thn (k7 _ _ (.region (st (.mv (.t rfl)) rfl (st (.addI (.t rfl) (.cI 16 rfl) (by omega) (by omega)) rfl (st (.as (.t rfl)) rfl (nl (.thn ?_))))))))))))
   refine hK5 (⟨(y / 2 ^ 16, n + 16), by have := bitLen_shift y 16 (by omega); show bitLen x = n + 16 + bitLen (y / 2 ^ 16); omega, by show y / 2 ^ 16 < _; omega, by show n + 16 ≤ _; omega⟩) _ _ (Cv.mem (.c 0 rfl ?_ (.c 2 rfl ?_ .nil)) ?_)
   ·rfl
   ·rfl
   ·rfl
  ·have hc2 := BP.f hc2
   refine .skip (.thn ?_)
   refine hK5 (⟨(y, n), h1, by show y < _; omega, by show n ≤ _; omega⟩) _ _ (Cv.mem (.c 0 rfl ?_ (.c 2 rfl ?_ .nil)) ?_)
   ·rfl
   ·rfl
   ·rfl
 rintro ⟨⟨y, n⟩, h1, h2, h3⟩
 refine .cv (Cv.wk (.l [0, 2] rfl)) ?_
 simp only [] at h1 h2 h3
 refine .cutF [] (fun (z : { z : Nat × Nat // bitLen x = z.2 + bitLen z.1 ∧ z.1 < 256 ∧ z.2 ≤ 56 }) => match z with | ⟨(y, n), hI⟩ => [(0, isU y), (2, isI (n : Int))]) (fun M => fun (z : { z : Nat × Nat // bitLen x = z.2 + bitLen z.1 ∧ z.1 < 256 ∧ z.2 ≤ 56 }) => match z with | ⟨(y, n), hI⟩ => M) (fun K8 hK8 => ?_) ?_
 ·skip
  refine .seq fun _ k9 => .region (st (.mv (.t rfl)) rfl (st (.geU (.t rfl) (.cU 256 rfl)) rfl (nl (.thn (k9 _ _ (.cond (.t rfl) (fun hc3 => ?_) (fun hc3 => ?_)))))))
  ·have hc3 := BP.t hc3
   refine .seq fun _ k10 => .region (st (.mv (.t rfl)) rfl (st (.shrUU (.t rfl) (.cU 8 rfl) (by omega)) rfl (st (.as (.t rfl)) rfl (nl (.thn (k10 _ _ (.region (st (.mv (.t rfl)) rfl (st (.addI (.t rfl) (.cI 8 rfl) (by omega) (by omega)) rfl (st (.as (.t rfl)) rfl (nl (.thn ?_))))))))))))
   refine hK8 (⟨(y / 2 ^ 8, n + 8), by have := bitLen_shift y 8 (by omega); show bitLen x = n + 8 + bitLen (y / 2 ^ 8); omega, by show y / 2 ^ 8 < _; omega, by show n + 8 ≤ _; omega⟩) _ _ (Cv.mem (.c 0 rfl ?_ (.c 2 rfl ?_ .nil)) ?_)
   ·rfl
   ·rfl
   ·rfl
  ·have hc3 := BP.f hc3
   refine .skip (.thn ?_)
   refine hK8 (⟨(y, n), h1, by show y < _; omega, by show n ≤ _; omega⟩) _ _ (Cv.mem (.c 0 rfl ?_ (.c 2 rfl ?_ .nil)) ?_)
   ·rfl
   ·rfl
   ·rfl
 rintro ⟨⟨y, n⟩, h1, h2, h3⟩
 refine .cv (Cv.wk (.l [0, 2] rfl)) ?_
 simp only [] at h1 h2 h3
 have h8 := bitLen_le8 y h2
 have hy : Int.toNat (y : Int) = y := rfl
 refine .seq fun _ k11 => .region (st (.mv (.t rfl)) rfl (st (.mv (.t rfl)) rfl (st (.convUu8 un62 un5 (.t rfl) (by omega)) rfl (st (.eq (.idxStr un9 (.t rfl) (by omega) ⟨(show Int.toNat (y : Int) < 256 by omega), len8tab_get _ _⟩) ((show isK .u8 _ = isK .u8 ((bitLen y : Nat) : Int) from rfl))) rfl (st (.convKI un5 un3 (.t rfl) (by omega) (by omega)) rfl (st (.addI (.t rfl) (.t rfl) (by omega) (by omega)) rfl (st (.as (.t rfl)) rfl (nl (.thn (k11 _ _ (.cv (Cv.wk (.l [2] rfl)) (.ret (rt1 (.inl rfl) Tryz.results110 rfl (.tmp (Has.t' rfl ?_) .nil))))))))))))))
 all_goals (exact isI_eq (by omega))
theorem bits_LZ64 {x : Nat} : Ctr Tryz.prog 135 [isU x] (isI ((64 - bitLen x : Nat) : Int)) := by
 refine Ctr.intro Tryz.func135 rfl (by kernel_rfl) Tryz.ntmps135 rfl fun w0 F0 => .cv (Cv.wk (.l [0] rfl)) (.fact (Has.ltU (Has.t (t := 0) rfl)) fun lt0 => ?_)
 have h64 := bitLen_le64 lt0
 refine .seq fun _ k1 => .region (st (.as (.cI 0 rfl)) rfl (nl (.thn (k1 _ _ (.seq fun _ k2 => .region (st (.mv (.t rfl)) rfl (st (.call (bits_Len64) (.cons (.t rfl) .nil)) rfl (st (.subI (.cI 64 rfl) (.t rfl) (by omega) (by omega)) rfl (st (.as (.t rfl)) rfl (nl (.thn (k2 _ _ (.ret (rt1 (.inl rfl) Tryz.results135 rfl (.tmp (Has.t' rfl ?_) .nil)))))))))))))))
 all_goals (exact isI_eq (by omega))
theorem bits_Div64 {hi lo y : Nat} (h : hi < y) : Ctr Tryz.prog 143 [isU hi, isU lo, isU y] (isTup [isU ((hi * 18446744073709551616 + lo) / y), isU ((hi * 18446744073709551616 + lo) % y)]) := by
 refine Ctr.intro Tryz.func143 rfl (by kernel_rfl) Tryz.ntmps143 rfl fun w0 F0 => .cv (Cv.wk (.l [0, 1, 2] rfl)) (.fact (Has.ltU (Has.t (t := 0) rfl)) fun lt0 => .fact (Has.ltU (Has.t (t := 1) rfl)) fun lt1 => .fact (Has.ltU (Has.t (t := 2) rfl)) fun lt2 => ?_)
 obtain ⟨s, Y, A, U1, U0, v1, v0, hs, hY, D⟩ := d64 lt1 lt2 h
 have hs64 := D.ks
 have hYl := D.yl
 have hAl := D.al
 have hV1 := D.hv.a
 have hV1' := D.hv.b
 have hV0 := D.hv.c
 have hU1 := D.hv.f
 have hU0 := D.hv2.f
 have hR1 := D.r1
 have hR0 := D.r0
 have hQ1 := D.q1
 have hQ0 := D.q0
 have dv := Nat.div_mul_le_self A v1
 have dv2 := Nat.div_mul_le_self ((A * 4294967296 + U1) % Y) v1
 refine .seq fun _ k1 => .region (st (.as (.cU 0 rfl)) rfl (st (.as (.cU 0 rfl)) rfl (nl (.thn (k1 _ _ (.seq fun _ k2 => .seq fun _ k3 => .region (st (.mv (.t rfl)) rfl (st (.eqU (.t rfl) (.cU 0 rfl)) rfl (nl (.thn (k3 _ _ (.cond (.t rfl) (fun hc1 => ?_) (fun hc1 => ?_)))))))))))))
 ·have hc1 := BP.t hc1
  exfalso; first | omega | contradiction | (revert hc1; simp)
 ·have hc1 := BP.f hc1
  refine .skip (.thn (k2 _ _ (.seq fun _ k4 => .seq fun _ k5 => .region (st (.mv (.t rfl)) rfl (st (.mv (.t rfl)) rfl (st (.leU (.t rfl) (.t rfl)) rfl (nl (.thn (k5 _ _ (.cond (.t rfl) (fun hc2 => ?_) (fun hc2 => ?_)))))))))))
  ·have hc2 := BP.t hc2
   exfalso; first | omega | contradiction | (revert hc2; simp)
  ·have hc2 := BP.f hc2
   refine .skip (.thn (k4 _ _ (.cv (Cv.wk (.l [0, 1, 2, 6, 7] rfl)) (.seq fun _ k6 => .seq fun _ k7 => .region (st (.mv (.t rfl)) rfl (st (.eqU (.t rfl) (.cU 0 rfl)) rfl (nl (.thn (k7 _ _ (.cond (.t rfl) (fun hc3 => ?_) (fun hc3 => ?_)))))))))))
   ·have hc3 := BP.t hc3
    refine .seq fun _ k8 => .cv (Cv.wk (.l [0, 1, 2, 7, 26, 27] rfl)) (.dr (.s [] rfl rfl rfl (.o rfl (.mv (.t rfl))) (.s [] rfl rfl rfl (.o rfl (.mv (.t rfl))) (.s [28, 29] rfl rfl rfl (.o rfl (.quoU (.t rfl) (.t rfl) (by with_reducible assumption) (by with_reducible assumption))) (.s [] rfl rfl rfl (.o rfl (.mv (.t rfl))) (.s [] rfl rfl rfl (.o rfl (.mv (.t rfl))) (.s [31, 32] rfl rfl rfl (.o rfl (.remU (.t rfl) (.t rfl) (by with_reducible assumption) (by with_reducible assumption))) (.s [30] rfl rfl rfl (.o rfl (.as (.t rfl))) (.fin (n := 7) mixed (by kernel_rfl) (by kernel_rfl) (by kernel_rfl) (.cv (Cv.wk (.l [0, 1, 2, 7, 33, 6] rfl)) (st (.as (.t rfl)) rfl (nl (.thn (k8 _ _ (.ret (.thr (rtN (.inl rfl) Tryz.results143 rfl rfl (.tmp (Has.t' rfl ?_) (.tmp (Has.t' rfl ?_) .nil)))))))))))))))))))
    ·exact isU_eq (by rw [hc3, Nat.zero_mul, Nat.zero_add])
    ·exact isU_eq (by rw [hc3, Nat.zero_mul, Nat.zero_add])
   ·have hc3 := BP.f hc3
    refine .skip (.thn (k6 _ _ (.seq fun _ k9 => .region (st (.mv (.t rfl)) rfl (st (.call (bits_LZ64) (.cons (.t rfl) .nil)) rfl (st (.eq (.convIU un3 un148 (.t rfl) (by omega) (by omega)) ((show isU _ = isU s from isU_eq (by omega)))) rfl (st (.as (.t rfl)) rfl (nl (.thn (k9 _ _ (.cv (Cv.wk (.l [0, 1, 2, 6, 7, 8] rfl)) (.seq fun _ k10 => .region (st (.mv (.t rfl)) rfl (st (.mv (.t rfl)) rfl (st (.eq (.shlUU (.t rfl) (.t rfl) (by with_reducible exact True.intro)) ((show isU _ = isU Y from isU_eq (by rw [← hY]; exact Nat.mod_eq_of_lt D.yl)))) rfl ?_)))))))))))))))
    refine st (.as (.t rfl)) rfl (nl (.thn (k10 _ _ (.seq fun _ k11 => .region (st (.mv (.t rfl)) rfl (st (.eq (.shrUU (.t rfl) (.cU 32 rfl) (by with_reducible assumption)) ((show isU _ = isU v1 from isU_eq (by have := D.kv1; omega)))) rfl ?_))))))
    refine st (.as (.t rfl)) rfl (nl (.thn (k11 _ _ (.cv (Cv.wk (.l [0, 1, 2, 6, 7, 8, 9] rfl)) (.seq fun _ k12 => .region (st (.mv (.t rfl)) rfl (st (.eq (.andU (.t rfl) (.cU 4294967295 rfl)) ((show isU _ = isU v0 from isU_eq ((Nat.and_two_pow_sub_one_eq_mod _ 32).trans (by have := D.kv0; omega))))) rfl ?_)))))))
    refine st (.as (.t rfl)) rfl (nl (.thn (k12 _ _ (.seq fun _ k13 => .region (st (.mv (.t rfl)) rfl (st (.mv (.t rfl)) rfl (st (.shlUU (.t rfl) (.t rfl) (by with_reducible exact True.intro)) rfl (st (.mv (.t rfl)) rfl (st (.mv (.t rfl)) rfl (st (.subU' (.cU 64 rfl) (.t rfl) (by with_reducible assumption) (by omega)) rfl (st (.shrUU (.t rfl) (.t rfl) (by with_reducible assumption)) rfl (st (.eq (.orU (.t rfl) (.t rfl)) ((show isU _ = isU A from isU_eq D.un32))) rfl (st (.as (.t rfl)) rfl (nl (.thn (k13 _ _ (.cv (Cv.wk (.l [1, 2, 6, 7, 8, 9, 10, 11] rfl)) (.seq fun _ k14 => .region (st (.mv (.t rfl)) rfl (st (.mv (.t rfl)) rfl (st (.shlUU (.t rfl) (.t rfl) (by with_reducible exact True.intro)) rfl (st (.as (.t rfl)) rfl (nl (.thn (k14 _ _ (.seq fun _ k15 => .region (st (.mv (.t rfl)) rfl (st (.eq (.shrUU (.t rfl) (.cU 32 rfl) (by omega)) ((show isU _ = isU U1 from isU_eq (by have := D.u1; omega)))) rfl ?_))))))))))))))))))))))))))))
    refine st (.as (.t rfl)) rfl (nl (.thn (k15 _ _ (.cv (Cv.wk (.l [2, 6, 7, 8, 9, 10, 11, 12, 13] rfl)) (.seq fun _ k16 => .region (st (.mv (.t rfl)) rfl (st (.eq (.andU (.t rfl) (.cU 4294967295 rfl)) ((show isU _ = isU U0 from isU_eq ((Nat.and_two_pow_sub_one_eq_mod _ 32).trans (by have := D.u0; omega))))) rfl ?_)))))))
    refine st (.as (.t rfl)) rfl (nl (.thn (k16 _ _ (.seq fun _ k17 => .region (st (.mv (.t rfl)) rfl (st (.mv (.t rfl)) rfl (st (.quoU (.t rfl) (.t rfl) (by omega) (by with_reducible assumption)) rfl (st (.as (.t rfl)) rfl (nl (.thn (k17 _ _ (.cv (Cv.wk (.l [2, 6, 7, 8, 9, 10, 11, 13, 14, 15] rfl)) (.seq fun _ k18 => .region (st (.mv (.t rfl)) rfl (st (.mv (.t rfl)) rfl (st (.mv (.t rfl)) rfl (st (.mulU' (.t rfl) (.t rfl) (by omega)) rfl (st (.subU' (.t rfl) (.t rfl) (by with_reducible assumption) (by with_reducible assumption)) rfl (st (.as (.t rfl)) rfl (nl (.thn (k18 _ _ (.cv (Cv.wk (.l [2, 6, 7, 8, 9, 10, 11, 13, 14, 15, 16] rfl)) (.cutF [2, 6, 7, 8, 9, 10, 11, 13, 14] (fun (_ : Unit) => [(15, isU ((A * 4294967296 + U1) / Y))]) (fun M => fun (_ : Unit) => M) (fun K19 hK19 => ?_) ?_))))))))))))))))))))))))
    ·skip
     refine .block (.loopF [2, 6, 7, 8, 9, 10, 11, 13, 14] (fun (z : { z : Nat × Nat // Gs A U1 v1 v0 z.1 z.2 }) => match z with | ⟨(q, r), hI⟩ => [(15, isU q), (16, isU r)]) (fun M => fun (z : { z : Nat × Nat // Gs A U1 v1 v0 z.1 z.2 }) => match z with | ⟨(q, r), hI⟩ => M) (fun (z : { z : Nat × Nat // Gs A U1 v1 v0 z.1 z.2 }) => match z with | ⟨(q, r), hI⟩ => q) (⟨(A / v1, A - A / v1 * v1), Gs.start D.hv⟩) (Cv.mem (.c 15 rfl ?_ (.c 16 rfl ?_ (.l [2, 6, 7, 8, 9, 10, 11, 13, 14] rfl))) ?_) ?_)
     ·rfl
     ·rfl
     ·rfl
     rintro ⟨⟨q, r⟩, g⟩ K20 hK20
     refine .cv (Cv.wk (.l [15, 16, 2, 6, 7, 8, 9, 10, 11, 13, 14] rfl)) ?_
     simp only [] at g
     have gq := g.q
     have gr := g.r
     have hv0 := D.hv.c
     have hv1 := D.hv.b
     have hu1 := D.hv.f
     refine .seq fun _ k21 => .seq fun _ k22 => .region (st (.mv (.t rfl)) rfl (st (.geU (.t rfl) (.cU 4294967296 rfl)) rfl (st (.mv (.t rfl)) rfl (stF rfl rfl (fun hg => .mv (.t rfl)) rfl (stF rfl rfl (fun hg => .mv (.t rfl)) rfl ?_)))))
     refine stF rfl rfl (fun hg => have hg' := BP.t hg; OK1.mulU' (Has.g rfl hg) (Has.g rfl hg) (by exact mul_bb (by omega) (by omega))) rfl ?_
     refine stF rfl rfl (fun hg => .mv (.t rfl)) rfl ?_
     refine stF rfl rfl (fun hg => have hg' := BP.t hg; OK1.mulU' (.cU 4294967296 rfl) (Has.g rfl hg) (by omega)) rfl ?_
     refine stF rfl rfl (fun hg => .mv (.t rfl)) rfl ?_
     refine stF rfl rfl (fun hg => have hg' := BP.t hg; OK1.addU' (Has.g rfl hg) (Has.g rfl hg) (by omega)) rfl ?_
     refine stF rfl rfl (fun hg => .gtU (Has.g rfl hg) (Has.g rfl hg)) rfl (st (.pickOr (.t rfl) (fun h => Has.g rfl (ng h))) rfl (nl (.thn (k22 _ _ (.cond (.t rfl) (fun hc4 => ?_) (fun hc4 => ?_))))))
     ·have hc4 := BP.t hc4
      have hn := Gs.next D.hv g hc4
      refine .skip (.thn (k21 _ _ (.block (.seq fun _ k23 => .region (st (.mv (.t rfl)) rfl (st (.subU' (.t rfl) (.cU 1 rfl) (by omega) (by omega)) rfl (st (.as (.t rfl)) rfl (nl (.thn (k23 _ _ (.seq fun _ k24 => .region (st (.mv (.t rfl)) rfl (st (.mv (.t rfl)) rfl (st (.addU' (.t rfl) (.t rfl) (by omega)) rfl (st (.as (.t rfl)) rfl (nl (.thn (k24 _ _ (.seq fun _ k25 => .region (st (.mv (.t rfl)) rfl (st (.geU (.t rfl) (.cU 4294967296 rfl)) rfl (nl (.thn (k25 _ _ (.cond (.t rfl) (fun hc5 => ?_) (fun hc5 => ?_))))))))))))))))))))))))))
      ·have hc5 := BP.t hc5
       refine .exit (.blm rfl (.the (.blh (.thn (hK19 (()) _ _ (Cv.mem (.c 15 rfl ?_ (.l [2, 6, 7, 8, 9, 10, 11, 13, 14] rfl)) ?_))))))
       ·exact isU_eq ((Gs.exit2 D.hv hn.1 hn.2.1 hn.2.2.1 (by omega)).trans (by rw [D.kY]))
       ·rfl
      ·have hc5 := BP.f hc5
       refine .skip (.bln (.thn ?_))
       refine hK20 (⟨(q - 1, r + v1), hn.1, hn.2.1, by show q - 1 ≤ _; omega, by show r + v1 < _; omega⟩) _ _ ?_ (Cv.mem (.c 15 rfl ?_ (.c 16 rfl ?_ (.l [2, 6, 7, 8, 9, 10, 11, 13, 14] rfl))) ?_)
       ·show q - 1 < q; omega
       ·rfl
       ·rfl
       ·rfl
     ·have hc4 := BP.f hc4
      refine .exit (.the (.the (.blh (.thn (hK19 (()) _ _ (Cv.mem (.c 15 rfl ?_ (.l [2, 6, 7, 8, 9, 10, 11, 13, 14] rfl)) ?_))))))
      ·exact isU_eq ((Gs.exit D.hv g (by omega)).trans (by rw [D.kY]))
      ·rfl
    rintro _
    refine .cv (Cv.wk (.l [15, 2, 6, 7, 8, 9, 10, 11, 13, 14] rfl)) (.seq fun _ k26 => .region (st (.mv (.t rfl)) rfl (st (.mulU (.t rfl) (.cU 4294967296 rfl)) rfl (st (.mv (.t rfl)) rfl (st (.addU (.t rfl) (.t rfl)) rfl (st (.mv (.t rfl)) rfl (st (.mv (.t rfl)) rfl (st (.mulU (.t rfl) (.t rfl)) rfl (st (.eq (.subU (.t rfl) (.t rfl) (by omega)) ((show isU _ = isU ((A * 4294967296 + U1) % Y) from isU_eq (wrapSub (divMul _ _) hR1 hU1)))) rfl (st (.as (.t rfl)) rfl (nl (.thn (k26 _ _ (.cv (Cv.wk (.l [2, 6, 7, 8, 9, 10, 14, 15, 17] rfl)) (.seq fun _ k27 => .region (st (.mv (.t rfl)) rfl (st (.mv (.t rfl)) rfl (st (.quoU (.t rfl) (.t rfl) (by omega) (by with_reducible assumption)) rfl (st (.as (.t rfl)) rfl (nl (.thn (k27 _ _ (.seq fun _ k28 => .region (st (.mv (.t rfl)) rfl (st (.mv (.t rfl)) rfl (st (.mv (.t rfl)) rfl (st (.mulU' (.t rfl) (.t rfl) (by with_reducible exact Nat.lt_of_le_of_lt (Nat.div_mul_le_self _ _) hR1)) rfl (st (.subU' (.t rfl) (.t rfl) (by with_reducible assumption) (by with_reducible assumption)) rfl (st (.as (.t rfl)) rfl (nl (.thn (k28 _ _ (.cv (Cv.wk (.l [2, 6, 7, 8, 9, 10, 14, 15, 17, 18, 16] rfl)) (.cutF [2, 6, 7, 8, 14, 15, 17] (fun (_ : Unit) => [(18, isU ((((A * 4294967296 + U1) % Y) * 4294967296 + U0) / Y))]) (fun M => fun (_ : Unit) => M) (fun K29 hK29 => ?_) ?_))))))))))))))))))))))))))))))))))
    ·skip
     refine .block (.loopF [2, 6, 7, 8, 9, 10, 14, 15, 17] (fun (z : { z : Nat × Nat // Gs ((A * 4294967296 + U1) % Y) U0 v1 v0 z.1 z.2 }) => match z with | ⟨(q, r), hI⟩ => [(18, isU q), (16, isU r)]) (fun M => fun (z : { z : Nat × Nat // Gs ((A * 4294967296 + U1) % Y) U0 v1 v0 z.1 z.2 }) => match z with | ⟨(q, r), hI⟩ => M) (fun (z : { z : Nat × Nat // Gs ((A * 4294967296 + U1) % Y) U0 v1 v0 z.1 z.2 }) => match z with | ⟨(q, r), hI⟩ => q) (⟨(((A * 4294967296 + U1) % Y) / v1, ((A * 4294967296 + U1) % Y) - ((A * 4294967296 + U1) % Y) / v1 * v1), Gs.start D.hv2⟩) (Cv.mem (.c 18 rfl ?_ (.c 16 rfl ?_ (.l [2, 6, 7, 8, 9, 10, 14, 15, 17] rfl))) ?_) ?_)
     ·rfl
     ·rfl
     ·rfl
     rintro ⟨⟨q, r⟩, g⟩ K30 hK30
     refine .cv (Cv.wk (.l [18, 16, 2, 6, 7, 8, 9, 10, 14, 15, 17] rfl)) ?_
     simp only [] at g
     have gq := g.q
     have gr := g.r
     have hv0 := D.hv2.c
     have hv1 := D.hv2.b
     have hu1 := D.hv2.f
     refine .seq fun _ k31 => .seq fun _ k32 => .region (st (.mv (.t rfl)) rfl (st (.geU (.t rfl) (.cU 4294967296 rfl)) rfl (st (.mv (.t rfl)) rfl (stF rfl rfl (fun hg => .mv (.t rfl)) rfl (stF rfl rfl (fun hg => .mv (.t rfl)) rfl ?_)))))
     refine stF rfl rfl (fun hg => have hg' := BP.t hg; OK1.mulU' (Has.g rfl hg) (Has.g rfl hg) (by exact mul_bb (by omega) (by omega))) rfl ?_
     refine stF rfl rfl (fun hg => .mv (.t rfl)) rfl ?_
     refine stF rfl rfl (fun hg => have hg' := BP.t hg; OK1.mulU' (.cU 4294967296 rfl) (Has.g rfl hg) (by omega)) rfl ?_
     refine stF rfl rfl (fun hg => .mv (.t rfl)) rfl ?_
     refine stF rfl rfl (fun hg => have hg' := BP.t hg; OK1.addU' (Has.g rfl hg) (Has.g rfl hg) (by omega)) rfl ?_
     refine stF rfl rfl (fun hg => .gtU (Has.g rfl hg) (Has.g rfl hg)) rfl (st (.pickOr (.t rfl) (fun h => Has.g rfl (ng h))) rfl (nl (.thn (k32 _ _ (.cond (.t rfl) (fun hc6 => ?_) (fun hc6 => ?_))))))
     ·have hc6 := BP.t hc6
      have hn := Gs.next D.hv2 g hc6
      refine .skip (.thn (k31 _ _ (.block (.seq fun _ k33 => .region (st (.mv (.t rfl)) rfl (st (.subU' (.t rfl) (.cU 1 rfl) (by omega) (by omega)) rfl (st (.as (.t rfl)) rfl (nl (.thn (k33 _ _ (.seq fun _ k34 => .region (st (.mv (.t rfl)) rfl (st (.mv (.t rfl)) rfl (st (.addU' (.t rfl) (.t rfl) (by omega)) rfl (st (.as (.t rfl)) rfl (nl (.thn (k34 _ _ (.seq fun _ k35 => .region (st (.mv (.t rfl)) rfl (st (.geU (.t rfl) (.cU 4294967296 rfl)) rfl (nl (.thn (k35 _ _ (.cond (.t rfl) (fun hc7 => ?_) (fun hc7 => ?_))))))))))))))))))))))))))
      ·have hc7 := BP.t hc7
       refine .exit (.blm rfl (.the (.blh (.thn (hK29 (()) _ _ (Cv.mem (.c 18 rfl ?_ (.l [2, 6, 7, 8, 14, 15, 17] rfl)) ?_))))))
       ·exact isU_eq ((Gs.exit2 D.hv2 hn.1 hn.2.1 hn.2.2.1 (by omega)).trans (by rw [D.kY]))
       ·rfl
      ·have hc7 := BP.f hc7
       refine .skip (.bln (.thn ?_))
       refine hK30 (⟨(q - 1, r + v1), hn.1, hn.2.1, by show q - 1 ≤ _; omega, by show r + v1 < _; omega⟩) _ _ ?_ (Cv.mem (.c 18 rfl ?_ (.c 16 rfl ?_ (.l [2, 6, 7, 8, 9, 10, 14, 15, 17] rfl))) ?_)
       ·show q - 1 < q; omega
       ·rfl
       ·rfl
       ·rfl
     ·have hc6 := BP.f hc6
      refine .exit (.the (.the (.blh (.thn (hK29 (()) _ _ (Cv.mem (.c 18 rfl ?_ (.l [2, 6, 7, 8, 14, 15, 17] rfl)) ?_))))))
      ·exact isU_eq ((Gs.exit D.hv2 g (by omega)).trans (by rw [D.kY]))
      ·rfl
    rintro _
    refine .cv (Cv.wk (.l [18, 2, 6, 7, 8, 14, 15, 17] rfl)) (.seq fun _ k36 => .region (st (.mv (.t rfl)) rfl (st (.mulU (.t rfl) (.cU 4294967296 rfl)) rfl (st (.mv (.t rfl)) rfl (st (.addU (.t rfl) (.t rfl)) rfl (st (.mv (.t rfl)) rfl (st (.mulU (.t rfl) (.cU 4294967296 rfl)) rfl (st (.mv (.t rfl)) rfl (st (.addU (.t rfl) (.t rfl)) rfl (st (.mv (.t rfl)) rfl (st (.mv (.t rfl)) rfl (st (.mulU (.t rfl) (.t rfl)) rfl (st (.eq (.subU (.t rfl) (.t rfl) (by omega)) ((show isU _ = isU ((((A * 4294967296 + U1) % Y) * 4294967296 + U0) % Y) from isU_eq (wrapSub (divMul _ _) hR0 hU0)))) rfl (st (.mv (.t rfl)) rfl (st (.shrUU (.t rfl) (.t rfl) (by with_reducible assumption)) rfl (st (.as (.t rfl)) rfl (st (.as (.t rfl)) rfl (nl (.thn (k36 _ _ (.cv (Cv.wk (.l [6, 7] rfl)) (.ret (rtN (.inl rfl) Tryz.results143 rfl rfl (.tmp (Has.t' rfl ?_) (.tmp (Has.t' rfl ?_) .nil)))))))))))))))))))))))))
    ·exact isU_eq (Eq.trans (wrapAdd hQ1 hQ0) D.quo)
    ·exact isU_eq D.rem
end Go.Proofs.YtcfobalbkhgdmaaGreat
namespace Go.Nt
set_option maxRecDepth 8000
def gss (u2 u1 u0 v1 v0 : Nat) : Nat := min (((u2 * 18446744073709551616 + u1) * 18446744073709551616 + u0) / (v1 * 18446744073709551616 + v0)) 18446744073709551615
structure Gw (u2 u1 u0 v1 v0 q r : Nat) : Prop where
 e : u2 * 18446744073709551616 + u1 = q * v1 + r
 le : gss u2 u1 u0 v1 v0 ≤ q
 q : q ≤ 18446744073709551615
 r : r < 36893488147419103232
theorem gss_max {u2 u1 u0 v1 v0 : Nat} (h : v1 < u2) (h0 : v0 < 18446744073709551616) (h1 : 0 < v1) : 18446744073709551615 = gss u2 u1 u0 v1 v0 := by
 unfold gss
 rw [Nat.min_eq_right]
 rw [Nat.le_div_iff_mul_le (by omega)]
 omega
theorem low_le {p p' t u0 w : Nat} (h : p * w + p' ≤ t * w + u0) (h0 : u0 < w) : p ≤ t := by
 apply Nat.le_of_lt_succ
 apply Nat.lt_of_mul_lt_mul_right (a := w)
 rw [Nat.succ_mul]; omega
theorem low_lt {p p' r u0 w : Nat} (h : r * w + u0 < p') : (p + r) * w + u0 < p * w + p' := by rw [Nat.add_mul]; omega
theorem Gw.same {u2 u1 u0 v1 v0 : Nat} (h : u2 = v1) (h1 : u1 < 18446744073709551616) (h2 : v1 < 18446744073709551616) : Gw u2 u1 u0 v1 v0 18446744073709551615 (u1 + v1) :=
 ⟨by omega, Nat.min_le_right _ _, Nat.le_refl _, by omega⟩
theorem Gw.start {u2 u1 u0 v1 v0 : Nat} (h : u2 < v1) (h1 : u1 < 18446744073709551616) (h0 : u0 < 18446744073709551616) (h2 : v1 < 18446744073709551616) :
  Gw u2 u1 u0 v1 v0 ((u2 * 18446744073709551616 + u1) / v1) ((u2 * 18446744073709551616 + u1) % v1) := by
 have e1 := divMul (u2 * 18446744073709551616 + u1) v1
 have e2 := Nat.mod_lt (u2 * 18446744073709551616 + u1) (show 0 < v1 by omega)
 refine ⟨e1, ?_, ?_, by omega⟩
 ·refine Nat.le_trans (Nat.min_le_left _ _) ?_
  rw [Nat.le_div_iff_mul_le (by omega)]
  have h6 := Nat.div_mul_le_self ((u2 * 18446744073709551616 + u1) * 18446744073709551616 + u0) (v1 * 18446744073709551616 + v0)
  rw [Nat.mul_add, ← Nat.mul_assoc] at h6
  exact low_le h6 h0
 ·exact Nat.le_of_lt_succ (quo_word (r := u2) (d := u1) (by omega) h h1)
theorem Gw.next {u2 u1 u0 v1 v0 q r : Nat} (h1 : 0 < v1) (h2 : v1 < 18446744073709551616) (g : Gw u2 u1 u0 v1 v0 q r) (hr : r < 18446744073709551616) (hc : r * 18446744073709551616 + u0 < q * v0) :
  Gw u2 u1 u0 v1 v0 (q - 1) (r + v1) ∧ 1 ≤ q := by
 obtain ⟨g1, g2, g3, g4⟩ := g
 have hq : 1 ≤ q := by
  rcases Nat.eq_zero_or_pos q with h | h
  ·subst h; omega
  ·exact h
 have hlt : ((u2 * 18446744073709551616 + u1) * 18446744073709551616 + u0) / (v1 * 18446744073709551616 + v0) < q := by
  rw [Nat.div_lt_iff_lt_mul (by omega), Nat.mul_add, ← Nat.mul_assoc, g1]
  exact low_lt hc
 refine ⟨⟨?_, ?_, by omega, by omega⟩, hq⟩
 ·obtain ⟨k, rfl⟩ : ∃ k, q = k + 1 := ⟨q - 1, by omega⟩
  rw [Nat.succ_mul] at g1
  simp only [Nat.add_sub_cancel]
  omega
 ·exact Nat.le_trans (Nat.min_le_left _ _) (by omega)
theorem Gw.exit {u2 u1 u0 v1 v0 q r : Nat} (h1 : 0 < v1) (g : Gw u2 u1 u0 v1 v0 q r) (hc : q * v0 ≤ r * 18446744073709551616 + u0) : q = gss u2 u1 u0 v1 v0 := by
 obtain ⟨g1, g2, g3, g4⟩ := g
 refine Nat.le_antisymm ?_ g2
 refine Nat.le_min.2 ⟨?_, g3⟩
 rw [Nat.le_div_iff_mul_le (by omega), Nat.mul_add, ← Nat.mul_assoc, g1]
 omega
theorem Gw.exit2 {u2 u1 u0 v1 v0 q r : Nat} (h1 : 0 < v1) (g : Gw u2 u1 u0 v1 v0 q r) (h0 : v0 < 18446744073709551616) (hr : 18446744073709551616 ≤ r) : q = gss u2 u1 u0 v1 v0 := by
 refine g.exit h1 ?_
 have : q * v0 ≤ 18446744073709551615 * 18446744073709551615 := Nat.mul_le_mul g.q (by omega)
 omega
theorem test_le {p r u0 : Nat} (hr : r < 18446744073709551616) (hu : u0 < 18446744073709551616) : (p / 18446744073709551616 < r ∨ p / 18446744073709551616 = r ∧ p % 18446744073709551616 ≤ u0) ↔ p ≤ r * 18446744073709551616 + u0 := by omega
/-! ### a multiple taken away, in place -/
theorem dig_nil (i : Nat) : dig 0 i = 0 := by unfold dig; simp
theorem mul_step0 (A x i : Nat) : dig A i * x + mcar 0 A x i = dig (A * x) i + W * mcar 0 A x (i + 1) := by
 have := mul_step_eq 0 A x i
 rw [dig_nil, Nat.zero_add, Nat.zero_add] at this; exact this
theorem take_word {x y c t u : Nat} (hx : x < W) (hy : y < W) (hc : c < W) (ht : t < W) (he : y * x + c = t + W * u) :
  (x * y % 18446744073709551616 + c + 0) % 18446744073709551616 = t ∧ x * y / 18446744073709551616 + (x * y % 18446744073709551616 + c + 0) / 18446744073709551616 = u ∧ u < 18446744073709551616 := by
 have hxy : x * y ≤ 18446744073709551615 * 18446744073709551615 := Nat.mul_le_mul (by unfold W at hx; omega) (by unfold W at hy; omega)
 rw [Nat.mul_comm y x] at he
 generalize x * y = p at *
 unfold W at *
 omega
theorem dig_mod {X i j : Nat} (h : j < i) : dig (X % W ^ i) j = dig X j := by
 obtain ⟨k, rfl⟩ : ∃ k, i = j + 1 + k := ⟨i - (j + 1), by omega⟩
 rw [dig, dig, Nat.add_assoc, Nat.pow_add, Nat.mod_mul_right_div_self, Nat.pow_add, Nat.pow_one, Nat.mod_mul_right_mod]
theorem pow_dvd' {i k : Nat} (h : i ≤ k) : W ^ k = W ^ i * W ^ (k - i) := by rw [← Nat.pow_add]; congr 1; omega
theorem dig_add_high {w k i : Nat} (h : i < k) : dig (w + W ^ k) i = dig w i := by
 rw [dig, dig, pow_dvd' (Nat.le_of_lt h), Nat.add_mul_div_left _ _ (pow_pos' i), pow_dvd' (show 1 ≤ k - i by omega), Nat.pow_one, Nat.add_mul_mod_self_left]
theorem bor_add_high {w p k i : Nat} (h : i ≤ k) : bor (w + W ^ k) p i = bor w p i := by
 unfold bor; rw [pow_dvd' h, Nat.add_mul_mod_self_left]
def wdiff (w p k : Nat) : Nat := (w + W ^ k - p) % W ^ k
theorem wd_dig {w p k i : Nat} (hp : p < W ^ k) (h : i < k) : (dig w i + W - dig p i - bor w p i) % W = dig (wdiff w p k) i := by
 have := sub_dig (p := w + W ^ k) (q := p) (by omega) i
 rw [dig_add_high h, bor_add_high (Nat.le_of_lt h)] at this
 rw [this, wdiff, dig_mod h]
theorem bor_top {w p k : Nat} (hw : w < W ^ k) (hp : p < W ^ k) : bor w p k = if w < p then 1 else 0 := by
 unfold bor; rw [Nat.mod_eq_of_lt hw, Nat.mod_eq_of_lt hp]
theorem win_div (N o D : Nat) : (N % W ^ o + W ^ o * D) / W ^ o = D := by
 rw [Nat.add_mul_div_left _ _ (pow_pos' o), Nat.div_eq_of_lt (Nat.mod_lt _ (pow_pos' o)), Nat.zero_add]
theorem win_mod (N o D : Nat) : (N % W ^ o + W ^ o * D) % W ^ o = N % W ^ o := by rw [Nat.add_mul_mod_self_left, Nat.mod_mod]
theorem winPut {N m o i d D : Nat} (h : o + i < m) (hd : d = dig D i) : (mix (o + i) (N % W ^ o + W ^ o * D) N m).set (o + i) d = mix (o + (i + 1)) (N % W ^ o + W ^ o * D) N m :=
 mix_set h rfl (by rw [hd, dig_add_pow _ _ _ _ (win_div _ _ _)])
theorem winEnd {N m o k D : Nat} (hm : o + k ≤ m) (hn : N / W ^ o < W ^ k) (hD : D < W ^ k) : mix (o + k) (N % W ^ o + W ^ o * D) N m = wordsN m (N % W ^ o + W ^ o * D) := by
 refine mix_end hm ?_
 rw [div_pow_add, div_pow_add, win_div, Nat.div_eq_of_lt hn, Nat.div_eq_of_lt hD]
theorem wdiff_lt (w p k : Nat) : wdiff w p k < W ^ k := Nat.mod_lt _ (pow_pos' k)
theorem mcar_top {v q k : Nat} (hv : v < W ^ k) (hq : q < W) : mcar 0 v q k = dig (v * q) k := by
 have h := mul_top (n := 0) (x := q) (pow_pos' k) hv
 rw [Nat.zero_add] at h
 rw [dig_def, h, Nat.mod_eq_of_lt (Nat.lt_of_le_of_lt (mcar_le _ _ _ _) hq)]
theorem vq_lt {v q k : Nat} (hv : v < W ^ k) (hq : q < W) : v * q < W ^ (k + 1) := by rw [Nat.pow_succ]; exact Nat.mul_lt_mul'' hv hq
theorem rowGet' {N' N m o i j : Nat} (h : i ≤ j) (hj : o + j < m) : (mix (o + i) N' N m).getD (o + j) 0 = dig (N / W ^ o) j := by
 rw [mix_getD (Nat.add_le_add_left h o) hj, dig_add_pow _ _ _ _ rfl]
theorem takeTop {w v q k : Nat} (hv : v < W ^ k) (hq : q < W) : (dig w k + W - mcar 0 v q k - bor w (v * q) k) % W = dig (wdiff w (v * q) (k + 1)) k := by
 rw [mcar_top hv hq]; exact wd_dig (vq_lt hv hq) (Nat.lt_succ_self k)
theorem takeBor {w v q k : Nat} (hv : v < W ^ k) (hq : q < W) (hw : w < W ^ (k + 1)) : (!decide ((if dig w k < mcar 0 v q k + bor w (v * q) k then 1 else 0) = 0)) = decide (w < v * q) := by
 rw [mcar_top hv hq, bor_succ, bor_top hw (vq_lt hv hq)]
 by_cases h : w < v * q <;> simp [h]
def wsum (w p k : Nat) : Nat := (w + p) % W ^ k
theorem wsum_lt (w p k : Nat) : wsum w p k < W ^ k := Nat.mod_lt _ (pow_pos' k)
theorem ws_dig {w p k i : Nat} (h : i < k) : (dig w i + dig p i + car w p i) % W = dig (wsum w p k) i := by rw [add_dig, wsum, dig_mod h]
theorem backTop {w v k : Nat} (hv : v < W ^ k) : (dig w k + car w v k) % W = dig (wsum w v (k + 1)) k := by
 have h := ws_dig (w := w) (p := v) (Nat.lt_succ_self k)
 rw [show dig v k = 0 from by rw [dig, Nat.div_eq_of_lt hv]; rfl, Nat.add_zero] at h
 exact h
end Go.Nt
namespace Go.Proofs.YtcfobalbkhgdmaaGreat
open Go.En Go.RowKit
set_option maxRecDepth 10000
set_option maxHeartbeats 4000000
open Go.Nt
theorem div_Small {xs : List Nat} {x : Nat} (hx : (List.length (words (val xs))) < 4294900000) : Ctr Tryz.prog 134 [isWords xs, isU x] (isTup [isWords (words (val xs / x)), isU (if x = 0 then 0 else val xs % x), isB (decide (x ≠ 0))]) := by
 refine Ctr.intro Tryz.func134 rfl (by kernel_rfl) Tryz.ntmps134 rfl fun w0 F0 => .cv (Cv.wk (.l [0, 1] rfl)) (.fact (Has.lenLt (Has.t (t := 0) rfl)) fun lt0 => .fact (Has.okW (Has.t (t := 0) rfl)) fun ok0 => .fact (Has.ltU (Has.t (t := 1) rfl)) fun lt1 => .seq fun _ k1 => .region (st (.as (.cW (f := isU))) rfl (st (.as (.cU 0 rfl)) rfl (st (.as (.cB false)) rfl (nl (.thn (k1 _ _ (.seq fun _ k2 => .seq fun _ k3 => .region (st (.mv (.t rfl)) rfl (st (.eqU (.t rfl) (.cU 0 rfl)) rfl (nl (.thn (k3 _ _ (.cond (.t rfl) (fun hc1 => ?_) (fun hc1 => ?_)))))))))))))))
 ·have hc1 := BP.t hc1
  refine .seq fun _ k4 => .region (st (.as (.cW (f := isU))) rfl (st (.as (.cU 0 rfl)) rfl (st (.as (.cB false)) rfl (nl (.thn (k4 _ _ (.ret (.thr (rtN (.inl rfl) Tryz.results134 rfl rfl (.tmp (Has.t' rfl ?_) (.tmp (Has.t' rfl ?_) (.tmp (Has.t' rfl ?_) .nil))))))))))))
  ·exact SlM_eq (by rw [hc1, Nat.div_zero, words_zero])
  ·exact isU_eq (by rw [if_pos hc1])
  ·exact isB_eq (by simp [hc1])
 ·have hc1 := BP.f hc1
  refine .skip (.thn (k2 _ _ (.seq fun _ k5 => .region (st (.mv (.t rfl)) rfl (.callO (nat_NormO (by omega)) (.cons (.t rfl) .nil) rfl (fun hO2 => ?_) (fun hO2 b1 cb1 jb1 => ?_))))))
  ·skip
   refine st (.as (.t rfl)) rfl (nl (.thn (k5 _ _ (.seq fun _ k6 => .region (st (.as (.cU 0 rfl)) rfl (nl (.thn (k6 _ _ (.seq fun _ k7 => .seq fun _ k8 => .region (st (.mv (.t rfl)) rfl (st (.len sl34 (.t rfl)) rfl (st (.subI (.t rfl) (.cI 1 rfl) (by omega) (by simp only [List.length_nil]; omega)) rfl ?_))))))))))))
   refine st (.as (.t rfl)) rfl (nl (.thn (k8 _ _ (.cv (Cv.wk (.l [0, 1, 4, 5, 6, 7, 8] rfl)) (.block (.loopF [0, 1, 4, 5, 6] (fun (_ : Unit) => [(8, isI (-1)), (7, isU 0)]) (fun M => fun (_ : Unit) => M) (fun (_ : Unit) => 0) (()) (Cv.mem (.c 8 rfl ?_ (.c 7 rfl ?_ (.l [0, 1, 4, 5, 6] rfl))) ?_) ?_))))))
   ·rfl
   ·rfl
   ·rfl
   rintro _ K9 hK9
   refine .cv (Cv.wk (.l [8, 7, 0, 1, 4, 5, 6] rfl)) (.seq fun _ k10 => .seq fun _ k11 => .region (st (.mv (.t rfl)) rfl (st (.geI (.t rfl) (.cI 0 rfl)) rfl (nl (.thn (k11 _ _ (.cond (.t rfl) (fun hc3 => ?_) (fun hc3 => ?_))))))))
   ·have hc3 := BP.t hc3
    exfalso; first | omega | contradiction | (revert hc3; simp)
   ·have hc3 := BP.f hc3
    refine .exit (.the (.the (.blh (.thn (k7 _ _ (.seq fun _ k12 => .region (st (.mv (.t rfl)) rfl (st (.call (nat_Norm (by show (words 0).length ≤ _; rw [words_zero]; exact Nat.zero_le _)) (.cons (.t rfl) .nil)) rfl ?_))))))))
    refine st (.mv (.t rfl)) rfl (st (.as (.t rfl)) rfl (st (.as (.t rfl)) rfl (st (.as (.cB true)) rfl (nl (.thn (k12 _ _ (.cv (Cv.wk (.l [4, 5, 6] rfl)) (.ret (rtN (.inl rfl) Tryz.results134 rfl rfl (.tmp (Has.t' rfl ?_) (.tmp (Has.t' rfl ?_) (.tmp (Has.t' rfl ?_) .nil))))))))))))
    ·exact SlM_eq (by rw [of_words_nil hO2, Nat.zero_div]; rfl)
    ·exact isU_eq (by rw [if_neg hc1, of_words_nil hO2, Nat.zero_mod])
    ·exact isB_eq (by simp [hc1])
  ·skip
   refine st (.as (.t rfl)) rfl (nl (.thn (k5 _ _ (.seq fun _ k13 => .region (st (.as (.cU 0 rfl)) rfl (nl (.thn (k13 _ _ (.seq fun _ k14 => .seq fun _ k15 => .region (st (.mv (.t rfl)) rfl (st (.len sl34 (.t rfl)) rfl (st (.subI (.t rfl) (.cI 1 rfl) (by omega) (by omega)) rfl (st (.as (.t rfl)) rfl (nl (.thn (k15 _ _ (.cv (Cv.wk (.l [0, 1, 4, 5, 6, 7, 8] rfl)) (.block (.loopF [0, 1, 4, 5, 6] (fun (z : { k : Nat // k ≤ (List.length (words (val xs))) }) => match z with | ⟨k, hI⟩ => [(8, isI ((k : Int) - 1)), (7, isU (val xs / W ^ k % x))]) (fun M => fun (z : { k : Nat // k ≤ (List.length (words (val xs))) }) => match z with | ⟨k, hI⟩ => [(some b1, cellM (List.map isU (mix k (val xs) (val xs / x) ((List.length (words (val xs)))) ++ List.replicate jb1 0)))]) (fun (z : { k : Nat // k ≤ (List.length (words (val xs))) }) => match z with | ⟨k, hI⟩ => k) (⟨(List.length (words (val xs))), Nat.le_refl _⟩) (Cv.mem (.c 8 rfl ?_ (.c 7 rfl ?_ (.l [0, 1, 4, 5, 6] rfl))) ?_) ?_)))))))))))))))))))
   ·rfl
   ·exact isU_eq (by rw [Nat.div_eq_of_lt (nw_lt _), Nat.zero_mod])
   ·exact memL_eq (smallStart _ _ _)
   rintro ⟨k, hI⟩ K16 hK16
   refine .cv (Cv.wk (.l [8, 7, 0, 1, 4, 5, 6] rfl)) (.memEq (M' := [(some b1, cellM (List.map isU (mix k (val xs) (val xs / x) ((List.length (words (val xs)))) ++ List.replicate jb1 0)))]) rfl ?_)
   have wl : (mix k (val xs) (val xs / x) ((List.length (words (val xs)))) ++ List.replicate jb1 0).length = (List.length (words (val xs))) + jb1 := by rw [List.length_append, mix_len hI, List.length_replicate]
   have ek : ((k : Int) - 1).toNat = k - 1 := by omega
   refine .seq fun _ k17 => .seq fun _ k18 => .region (st (.mv (.t rfl)) rfl (st (.geI (.t rfl) (.cI 0 rfl)) rfl (nl (.thn (k18 _ _ (.cond (.t rfl) (fun hc4 => ?_) (fun hc4 => ?_)))))))
   ·have hc4 := BP.t hc4
    refine .skip (.thn (k17 _ _ (.seq fun _ k19 => .block (.region (st (.mv (.t rfl)) rfl (st (.mv (.t rfl)) rfl (st (.mv (.t rfl)) rfl (st (.mv (.t rfl)) rfl (st (.mv (.t rfl)) rfl (st (.eq (.ixWin sl34 ty62 (.t rfl) (.t rfl) ⟨by omega, by omega⟩) (isPtr_eq (by exact ixo0))) rfl (st (.eq (.load1 (.t rfl) (i := 0) rfl ty62 (map_some (getD_some (d := 0) (by omega)))) ((show isU _ = isU (dig (val xs) (k - 1)) from isU_eq (by rw [ek, getD_app (by rw [mix_len hI]; omega), mix_low (by omega)])))) rfl ?_)))))))))))
    refine st (.mv (.t rfl)) rfl (st (.call (bits_Div64 (Nat.mod_lt _ (by omega))) (.cons (.t rfl) (.cons (.t rfl) (.cons (.t rfl) .nil)))) rfl (st (.mv (.t rfl)) rfl (st (.ext (.t rfl) rfl) rfl (st (.ext (.t rfl) rfl) rfl (st (.eq (.ixWin sl34 ty62 (.t rfl) (.t rfl) ⟨by omega, by omega⟩) (isPtr_eq (by exact ixo0))) rfl (.storeM (.t rfl) (.t rfl) (i := 0) rfl ty62 (by omega) (M' := [(_, _)]) rfl (st (.as (.t rfl)) rfl (nl (.bln (.thn (k19 _ _ (.region (st (.mv (.t rfl)) rfl (st (.subI (.t rfl) (.cI 1 rfl) (by omega) (by omega)) rfl (st (.as (.t rfl)) rfl (nl (.thn ?_)))))))))))))))))
    have hs := small_step (A := val xs) (x := x) (by omega) (by omega : 0 < k)
    refine hK16 (⟨k - 1, by omega⟩) _ _ ?_ (Cv.mem (.c 8 rfl ?_ (.c 7 rfl ?_ (.l [0, 1, 4, 5, 6] rfl))) ?_)
    ·show k - 1 < k; omega
    ·exact isI_eq (by show _ = ((k - 1 : Nat) : Int) - 1; omega)
    ·exact isU_eq hs.2
    ·exact memL_eq (by rw [ek]; exact mix_down (by omega) hI hs.1)
   ·have hc4 := BP.f hc4
    refine .exit (.the (.the (.blh (.thn (k14 _ _ (.seq fun _ k20 => .cv (Cv.freeze' (t := 0) (i := 0) (ys := wordsN ((List.length (words (val xs)))) (val xs / x)) rfl rfl rfl (by omega) (by obtain rfl : k = 0 := (by omega); exact smallEnd rfl)) ?_))))))
    refine .memEq (M' := []) rfl (.cv (Cv.wk (.l [0, 1, 4, 5, 6, 8, 7, 16, 17] rfl)) (.region (st (.mv (.t rfl)) rfl (st (.call (nat_Norm (by rw [val_wordsN]; exact normLe (by omega))) (.cons (.t rfl) .nil)) rfl ?_))))
    refine st (.mv (.t rfl)) rfl (st (.as (.t rfl)) rfl (st (.as (.t rfl)) rfl (st (.as (.cB true)) rfl (nl (.thn (k20 _ _ (.cv (Cv.wk (.l [4, 5, 6] rfl)) (.ret (rtN (.inl rfl) Tryz.results134 rfl rfl (.tmp (Has.t' rfl ?_) (.tmp (Has.t' rfl ?_) (.tmp (Has.t' rfl ?_) .nil))))))))))))
    ·exact SlM_eq (words_quo _ _)
    ·obtain rfl : k = 0 := (by omega); exact isU_eq (by rw [if_neg hc1, Nat.pow_zero, Nat.div_one])
    ·exact isB_eq (by simp [hc1])
theorem div_guess {u2 u1 u0 v1 v0 : Nat} (h : 0 < v1) : Ctr Tryz.prog 144 [isU u2, isU u1, isU u0, isU v1, isU v0] (isU (gss u2 u1 u0 v1 v0)) := by
 refine Ctr.intro Tryz.func144 rfl (by kernel_rfl) Tryz.ntmps144 rfl fun w0 F0 => .cv (Cv.wk (.l [0, 1, 2, 3, 4] rfl)) (.fact (Has.ltU (Has.t (t := 0) rfl)) fun lt0 => .fact (Has.ltU (Has.t (t := 1) rfl)) fun lt1 => .fact (Has.ltU (Has.t (t := 2) rfl)) fun lt2 => .fact (Has.ltU (Has.t (t := 3) rfl)) fun lt3 => .fact (Has.ltU (Has.t (t := 4) rfl)) fun lt4 => .seq fun _ k1 => .region (st (.as (.cU 0 rfl)) rfl (nl (.thn (k1 _ _ (.seq fun _ k2 => .seq fun _ k3 => .region (st (.mv (.t rfl)) rfl (st (.mv (.t rfl)) rfl (st (.gtU (.t rfl) (.t rfl)) rfl (nl (.thn (k3 _ _ (.cond (.t rfl) (fun hc1 => ?_) (fun hc1 => ?_))))))))))))))
 ·have hc1 := BP.t hc1
  refine .seq fun _ k4 => .region (st (.as (.cU 18446744073709551615 rfl)) rfl (nl (.thn (k4 _ _ (.ret (.thr (rt1 (.inl rfl) Tryz.results144 rfl (.tmp (Has.t' rfl ?_) .nil))))))))
  all_goals (exact isU_eq (gss_max hc1 lt4 h))
 ·have hc1 := BP.f hc1
  refine .skip (.thn (k2 _ _ (.seq fun _ k5 => .region (st (.as (.cU 18446744073709551615 rfl)) rfl (st (.as (.cU 0 rfl)) rfl (st (.as (.cU 0 rfl)) rfl (nl (.thn (k5 _ _ (.cutF [2, 3, 4, 10] (fun (z : { z : Nat × Nat // Gw u2 u1 u0 v1 v0 z.1 z.2 }) => match z with | ⟨(q, r), hI⟩ => [(11, isU q), (12, isU (r % 18446744073709551616)), (13, isU (r / 18446744073709551616))]) (fun M => fun (z : { z : Nat × Nat // Gw u2 u1 u0 v1 v0 z.1 z.2 }) => match z with | ⟨(q, r), hI⟩ => M) (fun K6 hK6 => ?_) ?_))))))))))
  ·skip
   refine .seq fun _ k7 => .region (st (.mv (.t rfl)) rfl (st (.mv (.t rfl)) rfl (st (.eqU (.t rfl) (.t rfl)) rfl (nl (.thn (k7 _ _ (.cv (Cv.wk (.l [0, 1, 2, 3, 4, 10, 11, 12, 13, 21] rfl)) (.cond (.t rfl) (fun hc2 => ?_) (fun hc2 => ?_)))))))))
   ·have hc2 := BP.t hc2
    refine .region (st (.mv (.t rfl)) rfl (st (.mv (.t rfl)) rfl (st (.add64 ext_add64 (.t rfl) (.t rfl) (.cU 0 rfl) (by omega) ⟨(by with_reducible assumption), (by with_reducible assumption)⟩) rfl (st (.mv (.t rfl)) rfl (st (.ext (.t rfl) rfl) rfl (st (.ext (.t rfl) rfl) rfl (st (.as (.t rfl)) rfl (st (.as (.t rfl)) rfl (nl (.thn (hK6 (⟨(18446744073709551615, u1 + v1), Gw.same hc2 lt1 lt3⟩) _ _ (Cv.mem (.c 11 rfl ?_ (.c 12 rfl ?_ (.c 13 rfl ?_ (.l [2, 3, 4, 10] rfl)))) ?_))))))))))))
    ·rfl
    ·rfl
    ·rfl
    ·rfl
   ·have hc2 := BP.f hc2
    refine .region (st (.mv (.t rfl)) rfl (st (.mv (.t rfl)) rfl (st (.mv (.t rfl)) rfl (st (.call (bits_Div64 (by omega)) (.cons (.t rfl) (.cons (.t rfl) (.cons (.t rfl) .nil)))) rfl (st (.mv (.t rfl)) rfl (st (.ext (.t rfl) rfl) rfl (st (.ext (.t rfl) rfl) rfl (st (.as (.t rfl)) rfl (st (.as (.t rfl)) rfl (nl (.thn ?_)))))))))))
    have hm := Nat.mod_lt (u2 * 18446744073709551616 + u1) h
    refine hK6 (⟨((u2 * 18446744073709551616 + u1) / v1, (u2 * 18446744073709551616 + u1) % v1), Gw.start (by omega) lt1 lt2 lt3⟩) _ _ (Cv.mem (.c 11 rfl ?_ (.c 12 rfl ?_ (.c 13 rfl ?_ (.l [2, 3, 4, 10] rfl)))) ?_)
    ·rfl
    ·exact isU_eq (Nat.mod_eq_of_lt (by omega)).symm
    ·exact isU_eq (Nat.div_eq_of_lt (by omega)).symm
    ·rfl
  rintro ⟨⟨q, r⟩, g⟩
  refine .cv (Cv.wk (.l [11, 12, 13, 2, 3, 4, 10] rfl)) ?_
  simp only [] at g
  refine .seq fun _ k8 => .block (.loopF [2, 3, 4, 10] (fun (z : { z : Nat × Nat // Gw u2 u1 u0 v1 v0 z.1 z.2 }) => match z with | ⟨(q, r), hI⟩ => [(11, isU q), (12, isU (r % 18446744073709551616)), (13, isU (r / 18446744073709551616))]) (fun M => fun (z : { z : Nat × Nat // Gw u2 u1 u0 v1 v0 z.1 z.2 }) => match z with | ⟨(q, r), hI⟩ => M) (fun (z : { z : Nat × Nat // Gw u2 u1 u0 v1 v0 z.1 z.2 }) => match z with | ⟨(q, r), hI⟩ => q) (⟨(q, r), g⟩) (Cv.mem (.c 11 rfl ?_ (.c 12 rfl ?_ (.c 13 rfl ?_ (.l [2, 3, 4, 10] rfl)))) ?_) ?_)
  ·rfl
  ·rfl
  ·rfl
  ·rfl
  rintro ⟨⟨q, r⟩, g⟩ K9 hK9
  refine .cv (Cv.wk (.l [11, 12, 13, 2, 3, 4, 10] rfl)) ?_
  simp only [] at g
  have gq := g.q
  have gr := g.r
  refine .seq fun _ k10 => .seq fun _ k11 => .region (st (.mv (.t rfl)) rfl (st (.eqU (.t rfl) (.cU 0 rfl)) rfl (nl (.thn (k11 _ _ (.cond (.t rfl) (fun hc3 => ?_) (fun hc3 => ?_)))))))
  ·have hc3 := BP.t hc3
   refine .skip (.thn (k10 _ _ (.block (.seq fun _ k12 => .region (st (.mv (.t rfl)) rfl (st (.mv (.t rfl)) rfl (st (.call bits_Mul64 (.cons (.t rfl) (.cons (.t rfl) .nil))) rfl (st (.mv (.t rfl)) rfl (st (.ext (.t rfl) rfl) rfl (st (.ext (.t rfl) rfl) rfl (st (.as (.t rfl)) rfl (st (.as (.t rfl)) rfl (nl (.thn (k12 _ _ (.seq fun _ k13 => .seq fun _ k14 => .region (st (.mv (.t rfl)) rfl (st (.mv (.t rfl)) rfl (st (.ltU (.t rfl) (.t rfl)) rfl (st (.mv (.t rfl)) rfl (stF rfl rfl (fun hg => .mv (.t rfl)) rfl (stF rfl rfl (fun hg => .mv (.t rfl)) rfl (stF rfl rfl (fun hg => .eqU (Has.g rfl hg) (Has.g rfl hg)) rfl (stF rfl rfl (fun hg => .mv (Has.g rfl hg)) rfl (stGT rfl rfl (fun hg => .mv (.t rfl)) rfl (stGT rfl rfl (fun hg => .mv (.t rfl)) rfl (stGT rfl rfl (fun hg => .leU (Has.g rfl hg) (Has.g rfl hg)) rfl (stF rfl rfl (fun hg => .pickAnd (Has.g rfl hg) (fun h => Has.g rfl (ga hg h))) rfl (st (.pickOr (.t rfl) (fun h => Has.g rfl (ng h))) rfl (nl (.thn (k14 _ _ (.cond (.t rfl) (fun hc4 => ?_) (fun hc4 => ?_))))))))))))))))))))))))))))))))))
   ·have hc4 := BP.t hc4
    have ht := (test_le (p := q * v0) (r := r % 18446744073709551616) (u0 := u0) (by omega) lt2).1 hc4
    rw [Nat.mod_eq_of_lt (show r < 18446744073709551616 by omega)] at ht
    refine .exit (.the (.blm rfl (.the (.blh (.thn (k8 _ _ (.cv (Cv.wk (.l [10, 11] rfl)) (.seq fun _ k15 => .region (st (.mv (.t rfl)) rfl (st (.as (.t rfl)) rfl (nl (.thn (k15 _ _ (.ret (rt1 (.inl rfl) Tryz.results144 rfl (.tmp (Has.t' rfl ?_) .nil))))))))))))))))
    all_goals (exact isU_eq (g.exit h ht))
   ·have hc4 := BP.f hc4
    have ht : ¬ _ := fun hh => absurd ((test_le (p := q * v0) (r := r % 18446744073709551616) (u0 := u0) (by omega) lt2).2 hh) (by omega)
    have hn := Gw.next h lt3 g (by omega) (by omega)
    refine .skip (.thn (k13 _ _ (.seq fun _ k16 => .region (st (.mv (.t rfl)) rfl (st (.subU' (.t rfl) (.cU 1 rfl) (by omega) (by omega)) rfl (st (.as (.t rfl)) rfl (nl (.thn (k16 _ _ (.region (st (.mv (.t rfl)) rfl (st (.mv (.t rfl)) rfl (st (.add64 ext_add64 (.t rfl) (.t rfl) (.cU 0 rfl) (by omega) ⟨(by omega), (by with_reducible assumption)⟩) rfl (st (.mv (.t rfl)) rfl (st (.ext (.t rfl) rfl) rfl (st (.ext (.t rfl) rfl) rfl (st (.as (.t rfl)) rfl (st (.as (.t rfl)) rfl (nl (.bln (.thn (hK9 (⟨(q - 1, r + v1), hn.1⟩) _ _ ?_ (Cv.mem (.c 11 rfl ?_ (.c 12 rfl ?_ (.c 13 rfl ?_ (.l [2, 3, 4, 10] rfl)))) ?_)))))))))))))))))))))))
    ·show q - 1 < q; have := hn.2; omega
    ·rfl
    ·exact isU_eq (by show (r % _ + v1 + 0) % _ = (r + v1) % _; omega)
    ·exact isU_eq (by show (r % _ + v1 + 0) / _ = (r + v1) / _; omega)
    ·rfl
  ·have hc3 := BP.f hc3
   refine .exit (.the (.the (.blh (.thn (k8 _ _ (.cv (Cv.wk (.l [10, 11] rfl)) (.seq fun _ k17 => .region (st (.mv (.t rfl)) rfl (st (.as (.t rfl)) rfl (nl (.thn (k17 _ _ (.ret (rt1 (.inl rfl) Tryz.results144 rfl (.tmp (Has.t' rfl ?_) .nil)))))))))))))))
   all_goals (exact isU_eq (g.exit2 h lt4 (by omega)))
end Go.Proofs.YtcfobalbkhgdmaaGreat
namespace Go.Proofs.YtcfobalbkhgdmaaGreat
open Go.En Go.RowKit
set_option maxRecDepth 10000
open Go.Nt
set_option maxHeartbeats 2000000 in
theorem div_take {N v q o c m : Nat} (h2 : o + ((List.length (words v)) + 1) ≤ m) (h3 : N / W ^ o < W ^ ((List.length (words v)) + 1)) : CtrM Tryz.prog 145 (fun b0 => [isWin b0 o ((List.length (words v)) + 1) c, isWords (words v), isU q]) (cellM (List.map isU (wordsN m N))) (cellM (List.map isU (wordsN m (N % W ^ o + W ^ o * (wdiff (N / W ^ o) (v * q) ((List.length (words v)) + 1)))))) (fun b0 => isB (decide (N / W ^ o < v * q))) := by
 refine CtrM.intro Tryz.func145 rfl (by kernel_rfl) Tryz.ntmps145 (fun _ => rfl) fun w0 F0 b0 => .cv (Cv.wk (.l [0, 1, 2] rfl)) (.fact (Has.lenLt (Has.t (t := 0) rfl)) fun lt0 => .fact (Has.winLe (Has.t (t := 0) rfl)) fun lw0 => .fact (Has.lenLt (Has.t (t := 1) rfl)) fun lt1 => .fact (Has.okW (Has.t (t := 1) rfl)) fun ok1 => .fact (Has.ltU (Has.t (t := 2) rfl)) fun lt2 => .seq fun _ k1 => .region (st (.as (.cB false)) rfl (nl (.thn (k1 _ _ (.seq fun _ k2 => .region (st (.as (.cU 0 rfl)) rfl (st (.as (.cU 0 rfl)) rfl (nl (.thn (k2 _ _ (.seq fun _ k3 => .seq fun _ k4 => .region (st (.mv (.t rfl)) rfl (st (.len sl34 (.t rfl)) rfl (st (.mv (.cI 0 rfl)) rfl (nl (.thn (k4 _ _ (.block (.loopF [0, 1, 2, 6, 14, 15] (fun (z : { i : Nat // i ≤ (List.length (words v)) }) => match z with | ⟨i, hI⟩ => [(16, isI (i : Int)), (7, isU (mcar 0 v q i)), (8, isU (bor (N / W ^ o) (v * q) i))]) (fun M => fun (z : { i : Nat // i ≤ (List.length (words v)) }) => match z with | ⟨i, hI⟩ => [(some b0, cellM (List.map isU (mix (o + i) (N % W ^ o + W ^ o * (wdiff (N / W ^ o) (v * q) ((List.length (words v)) + 1))) N m)))]) (fun (z : { i : Nat // i ≤ (List.length (words v)) }) => match z with | ⟨i, hI⟩ => (List.length (words v)) - i) (⟨0, Nat.zero_le _⟩) (Cv.mem (.c 16 rfl ?_ (.c 7 rfl ?_ (.c 8 rfl ?_ (.l [0, 1, 2, 6, 14, 15] rfl)))) ?_) ?_))))))))))))))))))))
 ·rfl
 ·exact isU_eq (mcar_zero _ _ _)
 ·exact isU_eq (bor_zero _ _)
 ·exact memL_eq (mix_start (by omega) (win_mod _ _ _))
 rintro ⟨i, hI⟩ K5 hK5
 refine .cv (Cv.wk (.l [16, 7, 8, 0, 1, 2, 6, 14, 15] rfl)) (.memEq (M' := [(some b0, cellM (List.map isU (mix (o + i) (N % W ^ o + W ^ o * (wdiff (N / W ^ o) (v * q) ((List.length (words v)) + 1))) N m)))]) rfl ?_)
 have wl : (mix (o + i) (N % W ^ o + W ^ o * (wdiff (N / W ^ o) (v * q) ((List.length (words v)) + 1))) N m).length = m := mix_len (by omega)
 have hcl := Nat.lt_of_le_of_lt (mcar_le 0 v q i) lt2
 have hrow := take_word lt2 (dig_lt v i) hcl (dig_lt _ _) (mul_step0 v q i)
 refine .seq fun _ k6 => .region (st (.ltI (.t rfl) (.t rfl)) rfl (nl (.thn (k6 _ _ (.seq fun _ k7 => .cond (.t rfl) (fun hc1 => ?_) (fun hc1 => ?_))))))
 ·have hc1 := BP.t hc1
  refine .skip (.thn (k7 _ _ (.seq fun _ k8 => .block (.seq fun _ k9 => .region (st (.mv (.t rfl)) rfl (st (.ixP sl34 ty62 (.t rfl) (.t rfl) ⟨by omega, by omega⟩ (getD_some (d := 0) (by omega))) rfl (st (.eq (.loadP1 (.t rfl) ty62) (isU_eq (getD_words _ i))) rfl (st (.as (.t rfl)) rfl (st (.as (.t rfl)) rfl (nl (.thn (k9 _ _ (.seq fun _ k10 => .region (st (.mv (.t rfl)) rfl (st (.mv (.t rfl)) rfl (st (.call (bits_Mul64) (.cons (.t rfl) (.cons (.t rfl) .nil))) rfl (st (.mv (.t rfl)) rfl (st (.ext (.t rfl) rfl) rfl (st (.ext (.t rfl) rfl) rfl (st (.as (.t rfl)) rfl (st (.as (.t rfl)) rfl (nl (.thn (k10 _ _ (.seq fun _ k11 => .region (st (.as (.cU 0 rfl)) rfl (nl (.thn (k11 _ _ (.seq fun _ k12 => .region (st (.mv (.t rfl)) rfl (st (.mv (.t rfl)) rfl (st (.add64 ext_add64 (.t rfl) (.t rfl) (.cU 0 rfl) (by omega) ⟨(by omega), (by with_reducible assumption)⟩) rfl (st (.mv (.t rfl)) rfl (st (.ext (.t rfl) rfl) rfl (st (.ext (.t rfl) rfl) rfl (st (.as (.t rfl)) rfl (st (.as (.t rfl)) rfl (nl (.thn (k12 _ _ (.seq fun _ k13 => .region (st (.mv (.t rfl)) rfl (st (.mv (.t rfl)) rfl (st (.addU' (.t rfl) (.t rfl) (by omega)) rfl ?_)))))))))))))))))))))))))))))))))))))))))))))
  refine st (.as (.t rfl)) rfl (nl (.thn (k13 _ _ (.region (st (.mv (.t rfl)) rfl (st (.mv (.t rfl)) rfl (st (.mv (.t rfl)) rfl (st (.mv (.t rfl)) rfl (st (.eq (.ixWin sl34 ty62 (.t rfl) (.t rfl) ⟨by omega, by omega⟩) (isPtr_eq (by exact ixo1))) rfl (st (.eq (.load1 (.t rfl) (i := 0) rfl ty62 (map_some (getD_some (d := 0) (by omega)))) (isU_eq (rowGet (by omega)))) rfl (st (.mv (.t rfl)) rfl (st (.mv (.t rfl)) rfl (st (.sub64 ext_sub64 (.t rfl) (.t rfl) (.t rfl) (by with_reducible exact bor_le _ _ _) ⟨(by with_reducible exact dig_lt _ _), (by omega)⟩) rfl (st (.mv (.t rfl)) rfl (st (.ext (.t rfl) rfl) rfl (st (.ext (.t rfl) rfl) rfl (st (.eq (.ixWin sl34 ty62 (.t rfl) (.t rfl) ⟨by omega, by omega⟩) (isPtr_eq (by exact ixo1))) rfl (.storeM (.t rfl) (.t rfl) (i := 0) rfl ty62 (by omega) (M' := [(_, _)]) rfl (st (.as (.t rfl)) rfl (nl (.bln (.thn (k8 _ _ (.region (st (.addI (.t rfl) (.cI 1 rfl) (by omega) (by omega)) rfl (st (.mv (.t rfl)) rfl (nl (.thn (hK5 (⟨i + 1, by omega⟩) _ _ ?_ (Cv.mem (.c 16 rfl ?_ (.c 7 rfl ?_ (.c 8 rfl ?_ (.l [0, 1, 2, 6, 14, 15] rfl)))) ?_))))))))))))))))))))))))))))))
  ·show (List.length (words v)) - (i + 1) < (List.length (words v)) - i; omega
  ·rfl
  ·exact isU_eq hrow.2.1
  ·exact isU_eq (by rw [hrow.1]; exact bor_succ _ _ _)
  ·exact memL_eq (winPut (by omega) (by rw [hrow.1]; exact wd_dig (vq_lt (nw_lt v) lt2) (by omega)))
 ·have hc1 := BP.f hc1
  refine .exit (.the (.the (.blh (.thn (k3 _ _ (.cv (Cv.wk (.l [0, 1, 6, 7, 8] rfl)) (.seq fun _ k14 => .region (st (.mv (.t rfl)) rfl (st (.mv (.t rfl)) rfl (st (.len sl34 (.t rfl)) rfl (st (.mv (.t rfl)) rfl (st (.mv (.t rfl)) rfl (st (.len sl34 (.t rfl)) rfl (st (.eq (.ixWin sl34 ty62 (.t rfl) (.t rfl) ⟨by omega, by omega⟩) (isPtr_eq (by exact ixo1))) rfl (st (.eq (.load1 (.t rfl) (i := 0) rfl ty62 (map_some (getD_some (d := 0) (by omega)))) ((isU_eq (rowGet' (j := (List.length (words v))) (by omega) (by omega))))) rfl (st (.mv (.t rfl)) rfl (st (.mv (.t rfl)) rfl (st (.sub64 (l := dig (N / W ^ o) ((List.length (words v)))) (m := mcar 0 v q i) (c := bor (N / W ^ o) (v * q) i) ext_sub64 (.t rfl) (.t rfl) (.t rfl) (bor_le _ _ _) ⟨dig_lt _ _, hcl⟩) rfl (st (.mv (.t rfl)) rfl (st (.ext (.t rfl) rfl) rfl (st (.ext (.t rfl) rfl) rfl (st (.eq (.ixWin sl34 ty62 (.t rfl) (.t rfl) ⟨by omega, by omega⟩) (isPtr_eq (by exact ixo1))) rfl (.storeM (.t rfl) (.t rfl) (i := 0) rfl ty62 (by omega) (M' := [(_, _)]) rfl (st (.as (.t rfl)) rfl (nl (.thn (k14 _ _ (.cv (Cv.wk (.l [6, 8] rfl)) (.seq fun _ k15 => .region (st (.mv (.t rfl)) rfl (st (.neU (.t rfl) (.cU 0 rfl)) rfl (st (.as (.t rfl)) rfl (nl (.thn (k15 _ _ (.ret (rtM1 (.inl rfl) Tryz.results145 rfl (i := 0) ?_ (.tmp (Has.t' rfl ?_) .nil))))))))))))))))))))))))))))))))))))))
  ·obtain rfl : i = (List.length (words v)) := (by omega); exact memU_eq ((winPut (by omega) (takeTop (nw_lt v) lt2)).trans (winEnd (by omega) h3 (wdiff_lt _ _ _)))
  ·obtain rfl : i = (List.length (words v)) := (by omega); exact isB_eq (takeBor (nw_lt v) lt2 h3)
set_option maxHeartbeats 2000000 in
theorem div_back {N v o c m : Nat} (h2 : o + ((List.length (words v)) + 1) ≤ m) (h3 : N / W ^ o < W ^ ((List.length (words v)) + 1)) : CtrM Tryz.prog 146 (fun b0 => [isWin b0 o ((List.length (words v)) + 1) c, isWords (words v)]) (cellM (List.map isU (wordsN m N))) (cellM (List.map isU (wordsN m (N % W ^ o + W ^ o * (wsum (N / W ^ o) v ((List.length (words v)) + 1)))))) (fun b0 => isTup []) := by
 refine CtrM.intro Tryz.func146 rfl (by kernel_rfl) Tryz.ntmps146 (fun _ => rfl) fun w0 F0 b0 => .cv (Cv.wk (.l [0, 1] rfl)) (.fact (Has.lenLt (Has.t (t := 0) rfl)) fun lt0 => .fact (Has.winLe (Has.t (t := 0) rfl)) fun lw0 => .fact (Has.lenLt (Has.t (t := 1) rfl)) fun lt1 => .fact (Has.okW (Has.t (t := 1) rfl)) fun ok1 => .seq fun _ k1 => .region (st (.as (.cU 0 rfl)) rfl (nl (.thn (k1 _ _ (.seq fun _ k2 => .seq fun _ k3 => .region (st (.mv (.t rfl)) rfl (st (.len sl34 (.t rfl)) rfl (st (.mv (.cI 0 rfl)) rfl (nl (.thn (k3 _ _ (.block (.loopF [0, 1, 7, 8] (fun (z : { i : Nat // i ≤ (List.length (words v)) }) => match z with | ⟨i, hI⟩ => [(9, isI (i : Int)), (4, isU (car (N / W ^ o) v i))]) (fun M => fun (z : { i : Nat // i ≤ (List.length (words v)) }) => match z with | ⟨i, hI⟩ => [(some b0, cellM (List.map isU (mix (o + i) (N % W ^ o + W ^ o * (wsum (N / W ^ o) v ((List.length (words v)) + 1))) N m)))]) (fun (z : { i : Nat // i ≤ (List.length (words v)) }) => match z with | ⟨i, hI⟩ => (List.length (words v)) - i) (⟨0, Nat.zero_le _⟩) (Cv.mem (.c 9 rfl ?_ (.c 4 rfl ?_ (.l [0, 1, 7, 8] rfl))) ?_) ?_))))))))))))))
 ·rfl
 ·exact isU_eq (car_zero _ _)
 ·exact memL_eq (mix_start (by omega) (win_mod _ _ _))
 rintro ⟨i, hI⟩ K4 hK4
 refine .cv (Cv.wk (.l [9, 4, 0, 1, 7, 8] rfl)) (.memEq (M' := [(some b0, cellM (List.map isU (mix (o + i) (N % W ^ o + W ^ o * (wsum (N / W ^ o) v ((List.length (words v)) + 1))) N m)))]) rfl ?_)
 have wl : (mix (o + i) (N % W ^ o + W ^ o * (wsum (N / W ^ o) v ((List.length (words v)) + 1))) N m).length = m := mix_len (by omega)
 refine .seq fun _ k5 => .region (st (.ltI (.t rfl) (.t rfl)) rfl (nl (.thn (k5 _ _ (.seq fun _ k6 => .cond (.t rfl) (fun hc1 => ?_) (fun hc1 => ?_))))))
 ·have hc1 := BP.t hc1
  refine .skip (.thn (k6 _ _ (.seq fun _ k7 => .block (.seq fun _ k8 => .region (st (.mv (.t rfl)) rfl (st (.ixP sl34 ty62 (.t rfl) (.t rfl) ⟨by omega, by omega⟩ (getD_some (d := 0) (by omega))) rfl (st (.eq (.loadP1 (.t rfl) ty62) (isU_eq (getD_words _ i))) rfl (st (.as (.t rfl)) rfl (st (.as (.t rfl)) rfl (nl (.thn (k8 _ _ (.region (st (.mv (.t rfl)) rfl (st (.mv (.t rfl)) rfl (st (.mv (.t rfl)) rfl (st (.mv (.t rfl)) rfl (st (.eq (.ixWin sl34 ty62 (.t rfl) (.t rfl) ⟨by omega, by omega⟩) (isPtr_eq (by exact ixo1))) rfl (st (.eq (.load1 (.t rfl) (i := 0) rfl ty62 (map_some (getD_some (d := 0) (by omega)))) (isU_eq (rowGet (by omega)))) rfl (st (.mv (.t rfl)) rfl (st (.mv (.t rfl)) rfl (st (.add64 ext_add64 (.t rfl) (.t rfl) (.t rfl) (by with_reducible exact car_le _ _ _) ⟨(by with_reducible exact dig_lt _ _), (by with_reducible exact dig_lt _ _)⟩) rfl (st (.mv (.t rfl)) rfl (st (.ext (.t rfl) rfl) rfl (st (.ext (.t rfl) rfl) rfl (st (.eq (.ixWin sl34 ty62 (.t rfl) (.t rfl) ⟨by omega, by omega⟩) (isPtr_eq (by exact ixo1))) rfl (.storeM (.t rfl) (.t rfl) (i := 0) rfl ty62 (by omega) (M' := [(_, _)]) rfl (st (.as (.t rfl)) rfl (nl (.bln (.thn (k7 _ _ (.region (st (.addI (.t rfl) (.cI 1 rfl) (by omega) (by omega)) rfl (st (.mv (.t rfl)) rfl (nl ?_))))))))))))))))))))))))))))))))))))
  refine .thn (hK4 (⟨i + 1, by omega⟩) _ _ ?_ (Cv.mem (.c 9 rfl ?_ (.c 4 rfl ?_ (.l [0, 1, 7, 8] rfl))) ?_))
  ·show (List.length (words v)) - (i + 1) < (List.length (words v)) - i; omega
  ·rfl
  ·exact isU_eq (add_car _ _ _)
  ·exact memL_eq (winPut (by omega) (ws_dig (by omega)))
 ·have hc1 := BP.f hc1
  refine .exit (.the (.the (.blh (.thn (k2 _ _ (.region (st (.mv (.t rfl)) rfl (st (.mv (.t rfl)) rfl (st (.len sl34 (.t rfl)) rfl (st (.eq (.ixWin sl34 ty62 (.t rfl) (.t rfl) ⟨by omega, by omega⟩) (isPtr_eq (by exact ixo1))) rfl (st (.eq (.load1 (.t rfl) (i := 0) rfl ty62 (map_some (getD_some (d := 0) (by omega)))) ((isU_eq (rowGet' (j := (List.length (words v))) (by omega) (by omega))))) rfl (st (.mv (.t rfl)) rfl (st (.addU (.t rfl) (.t rfl)) rfl (st (.eq (.ixWin sl34 ty62 (.t rfl) (.t rfl) ⟨by omega, by omega⟩) (isPtr_eq (by exact ixo1))) rfl (.storeM (.t rfl) (.t rfl) (i := 0) rfl ty62 (by omega) (M' := [(_, _)]) rfl (nl (rtM0 (.inr rfl) Tryz.results146 rfl (i := 0) ?_)))))))))))))))))
  all_goals (obtain rfl : i = (List.length (words v)) := (by omega); exact memU_eq ((winPut (by omega) (backTop (nw_lt v))).trans (winEnd (by omega) h3 (wsum_lt _ _ _))))
end Go.Proofs.YtcfobalbkhgdmaaGreat
namespace Go.Nt
set_option maxRecDepth 8000
theorem top2 {v k : Nat} (hv : v < W ^ (k + 2)) : v / W ^ k = dig v (k + 1) * 18446744073709551616 + dig v k := by
 have h1 := div_succ v k
 have h2 : v / W ^ (k + 1) < W := by rw [Nat.div_lt_iff_lt_mul (pow_pos' _)]; rwa [Nat.mul_comm, ← Nat.pow_succ]
 rw [h1, dig_def v (k + 1), Nat.mod_eq_of_lt h2, Nat.mul_comm]
theorem top3 {w k : Nat} (hw : w < W ^ (k + 3)) : w / W ^ k = (dig w (k + 2) * 18446744073709551616 + dig w (k + 1)) * 18446744073709551616 + dig w k := by
 have h1 := div_succ w k
 rw [h1, top2 (k := k + 1) hw, Nat.mul_comm]
theorem guess_near {w v k : Nat} (hv : v < W ^ (k + 2)) (hv1 : W ^ (k + 1) ≤ v) (hw : w < v * W) :
  w / v ≤ gss (dig w (k + 2)) (dig w (k + 1)) (dig w k) (dig v (k + 1)) (dig v k) ∧ gss (dig w (k + 2)) (dig w (k + 1)) (dig w k) (dig v (k + 1)) (dig v k) ≤ w / v + 1 := by
 have hv0 : 0 < v := Nat.lt_of_lt_of_le (pow_pos' _) hv1
 have hw3 : w < W ^ (k + 3) := Nat.lt_of_lt_of_le hw (by rw [Nat.pow_succ W (k + 2)]; exact Nat.mul_le_mul_right _ (Nat.le_of_lt hv))
 unfold gss
 rw [← top3 hw3, ← top2 hv]
 have hR := pow_pos' k
 have hVW : W ≤ v / W ^ k := by rw [Nat.le_div_iff_mul_le hR, Nat.mul_comm, ← Nat.pow_succ]; exact hv1
 have hq : w / v < W := by rw [Nat.div_lt_iff_lt_mul hv0, Nat.mul_comm]; exact hw
 constructor
 ·refine Nat.le_min.2 ⟨?_, by unfold W at hq; omega⟩
  rw [Nat.le_div_iff_mul_le (Nat.lt_of_lt_of_le (by decide) hVW), Nat.le_div_iff_mul_le hR, Nat.mul_assoc]
  exact Nat.le_trans (Nat.mul_le_mul_left _ (Nat.div_mul_le_self v _)) (Nat.div_mul_le_self w v)
 ·generalize hg : min (w / W ^ k / (v / W ^ k)) 18446744073709551615 = g
  have hg1 : g ≤ w / W ^ k / (v / W ^ k) := hg ▸ Nat.min_le_left _ _
  have hg2 : g ≤ 18446744073709551615 := hg ▸ Nat.min_le_right _ _
  rcases Nat.eq_zero_or_pos g with h0 | h0
  ·rw [h0]; exact Nat.zero_le _
  have h1 : g * (v / W ^ k) ≤ w / W ^ k := (Nat.le_div_iff_mul_le (Nat.lt_of_lt_of_le (by decide) hVW)).1 hg1
  have h2 : g * (v / W ^ k) * W ^ k ≤ w := Nat.le_trans (Nat.mul_le_mul_right _ h1) (Nat.div_mul_le_self w _)
  have h3 : v < (v / W ^ k + 1) * W ^ k := by
   have := Nat.div_add_mod v (W ^ k)
   have := Nat.mod_lt v hR
   rw [Nat.add_mul, Nat.mul_comm]; omega
  have h4 : (g - 1) * v ≤ w := by
   have h5 : (g - 1) * v ≤ (g - 1) * ((v / W ^ k + 1) * W ^ k) := Nat.mul_le_mul_left _ (Nat.le_of_lt h3)
   refine Nat.le_trans h5 (Nat.le_trans ?_ h2)
   rw [← Nat.mul_assoc]
   refine Nat.mul_le_mul_right _ ?_
   obtain ⟨t, rfl⟩ : ∃ t, g = t + 1 := ⟨g - 1, by omega⟩
   rw [Nat.add_sub_cancel, Nat.mul_add, Nat.succ_mul, Nat.mul_one]
   have : t ≤ v / W ^ k := Nat.le_trans (by unfold W; omega) hVW
   omega
  have := (Nat.le_div_iff_mul_le hv0).2 h4
  omega
def left (N v k : Nat) : Nat := N % W ^ k + W ^ k * (N / W ^ k % v)
theorem left_top {N v k : Nat} (h : N < v * W ^ k) : left N v k = N := by
 have h1 : N / W ^ k < v := by rw [Nat.div_lt_iff_lt_mul (pow_pos' k)]; exact h
 unfold left; rw [Nat.mod_eq_of_lt h1, Nat.mod_add_div]
theorem left_win {N v j : Nat} : left N v (j + 1) / W ^ j = N / W ^ (j + 1) % v * 18446744073709551616 + dig N j := by
 unfold left
 rw [mod_succ, Nat.pow_succ, Nat.mul_assoc, Nat.add_assoc, ← Nat.mul_add, win_div, Nat.add_comm, Nat.mul_comm W]
theorem left_low {N v j : Nat} : left N v (j + 1) % W ^ j = N % W ^ j := by
 unfold left
 rw [mod_succ, Nat.pow_succ, Nat.mul_assoc, Nat.add_assoc, ← Nat.mul_add, Nat.add_mul_mod_self_left, Nat.mod_mod]
theorem left_step {N v j : Nat} (hv : 0 < v) : left N v (j + 1) / W ^ j / v = dig (N / v) j ∧ left N v (j + 1) / W ^ j % v = N / W ^ j % v ∧ left N v (j + 1) / W ^ j < v * W := by
 have h := small_step (A := N) (x := v) (k := j + 1) hv (by omega)
 rw [left_win]
 simp only [Nat.add_sub_cancel] at h
 refine ⟨h.1, h.2, ?_⟩
 have h1 := Nat.mod_lt (N / W ^ (j + 1)) hv
 have h2 := dig_lt N j
 have h3 : (N / W ^ (j + 1) % v + 1) * W ≤ v * W := Nat.mul_le_mul_right _ h1
 rw [Nat.add_mul, Nat.one_mul] at h3
 show N / W ^ (j + 1) % v * W + _ < _
 omega
theorem take_fine {w v g K : Nat} (hv : 0 < v) (hw : w < K) (h1 : w / v ≤ g) (h : ¬ w < v * g) : g = w / v ∧ (w + K - v * g) % K = w % v := by
 have h2 : g ≤ w / v := (Nat.le_div_iff_mul_le hv).2 (by rw [Nat.mul_comm]; omega)
 obtain rfl : g = w / v := Nat.le_antisymm h2 h1
 refine ⟨rfl, ?_⟩
 have h3 := Nat.div_add_mod w v
 have e : w + K - v * (w / v) = w % v + K := by omega
 rw [e, Nat.add_mod_right, Nat.mod_eq_of_lt (Nat.lt_of_le_of_lt (Nat.mod_le _ _) hw)]
theorem take_back {w v g K : Nat} (hv : 0 < v) (hw : w < K) (hg : v * g < K) (h1 : g ≤ w / v + 1) (h : w < v * g) : g - 1 = w / v ∧ 1 ≤ g ∧ ((w + K - v * g) % K + v) % K = w % v := by
 have h2 : w / v < g := by rw [Nat.div_lt_iff_lt_mul hv, Nat.mul_comm]; exact h
 obtain rfl : g = w / v + 1 := Nat.le_antisymm h1 h2
 refine ⟨Nat.add_sub_cancel _ _, Nat.le_add_left _ _, ?_⟩
 have h3 := Nat.div_add_mod w v
 rw [Nat.mul_add, Nat.mul_one] at h hg ⊢
 have h4 := Nat.mod_lt w hv
 have h5 : w + K - (v * (w / v) + v) < K := by omega
 rw [Nat.mod_eq_of_lt h5]
 have e : w + K - (v * (w / v) + v) + v = w % v + K := by omega
 rw [e, Nat.add_mod_right, Nat.mod_eq_of_lt (Nat.lt_of_le_of_lt (Nat.mod_le _ _) hw)]
theorem mix_down' {A Q m k d : Nat} (hk : 0 < k) (hm : k ≤ m) (hd : d = dig Q (k - 1)) : (mix k A Q m).set (k - 1) d = mix (k - 1) A Q m := by
 have := mix_down (A := A) (j := 0) hk hm hd
 simpa using this
theorem outStart (Q t : Nat) : List.replicate t 0 = mix t 0 Q t := by
 have : List.replicate t 0 = wordsN t 0 := eq_wordsN (fun x hx => by rw [List.mem_replicate] at hx; rw [hx.2]; decide) (by simp) (by rw [val_replicate]; simp)
 rw [this]; unfold mix; rw [Nat.sub_self]; simp [wordsN]
theorem outEnd (Q t : Nat) : mix 0 0 Q t = wordsN t Q := by simp [mix, wordsN]
theorem getW {N m j i t : Nat} (ht : t = j + i) (h : t < m) : (wordsN m N).getD t 0 = dig (N / W ^ j) i := by
 subst ht; rw [wordsN_getD h, dig_add_pow _ _ _ _ rfl]
theorem getV {v i t : Nat} (ht : t = i) : (words v).getD t 0 = dig v i := by subst ht; exact getD_words _ _
structure Rnd (N v j k g : Nat) : Prop where
 hd : 0 < dig v (k + 1)
 hw : left N v (j + 1) / W ^ j < W ^ ((List.length (words v)) + 1)
 fine : ¬ left N v (j + 1) / W ^ j < v * g → g = dig (N / v) j ∧ left N v (j + 1) % W ^ j + W ^ j * wdiff (left N v (j + 1) / W ^ j) (v * g) ((List.length (words v)) + 1) = left N v j
 bk : left N v (j + 1) / W ^ j < v * g → g - 1 = dig (N / v) j ∧ 1 ≤ g ∧ (left N v (j + 1) % W ^ j + W ^ j * wdiff (left N v (j + 1) / W ^ j) (v * g) ((List.length (words v)) + 1)) % W ^ j + W ^ j * wsum ((left N v (j + 1) % W ^ j + W ^ j * wdiff (left N v (j + 1) / W ^ j) (v * g) ((List.length (words v)) + 1)) / W ^ j) v ((List.length (words v)) + 1) = left N v j
theorem round {N v j k g : Nat} (hk : (List.length (words v)) = k + 2) (hg : g = gss (dig (left N v (j + 1) / W ^ j) (k + 2)) (dig (left N v (j + 1) / W ^ j) (k + 1)) (dig (left N v (j + 1) / W ^ j) k) (dig v (k + 1)) (dig v k)) (hgl : g < W) : Rnd N v j k g := by
 have hv0 : v ≠ 0 := by intro e; subst e; rw [nw_zero] at hk; omega
 have hv1 : W ^ (k + 1) ≤ v := by have := le_of_nw hv0; rwa [hk] at this
 have hv2 : v < W ^ (k + 2) := by have := nw_lt v; rwa [hk] at this
 have hpos : 0 < v := Nat.pos_of_ne_zero hv0
 obtain ⟨h1, h2, h3⟩ := left_step (N := N) (j := j) hpos
 have hgn := guess_near hv2 hv1 h3
 rw [← hg] at hgn
 have hw : left N v (j + 1) / W ^ j < W ^ ((List.length (words v)) + 1) := Nat.lt_of_lt_of_le h3 (by rw [hk, Nat.pow_succ W (k + 2)]; exact Nat.mul_le_mul_right _ (Nat.le_of_lt hv2))
 have hvg : v * g < W ^ ((List.length (words v)) + 1) := vq_lt (nw_lt v) hgl
 refine ⟨?_, hw, fun h => ?_, fun h => ?_⟩
 ·have := dig_top hv0
  rw [hk] at this
  exact Nat.pos_of_ne_zero this
 ·obtain ⟨e1, e2⟩ := take_fine hpos hw hgn.1 h
  refine ⟨e1.trans h1, ?_⟩
  unfold wdiff
  rw [e2, left_low, h2]; rfl
 ·obtain ⟨e1, e2, e3⟩ := take_back hpos hw hvg hgn.2 h
  refine ⟨e1.trans h1, e2, ?_⟩
  rw [win_mod, win_div, left_low]
  unfold wdiff wsum
  rw [e3, h2]; rfl
theorem gss_lt (u2 u1 u0 v1 v0 : Nat) : gss u2 u1 u0 v1 v0 < 18446744073709551616 := Nat.lt_succ_of_le (Nat.min_le_right _ _)
theorem wordsN_eq {m a b : Nat} (h : a = b) : wordsN m a = wordsN m b := by rw [h]
end Go.Nt
namespace Go.Proofs.YtcfobalbkhgdmaaGreat
open Go.En Go.RowKit
set_option maxRecDepth 10000
set_option maxHeartbeats 4000000
open Go.Nt
theorem div_long {N v c m : Nat} (hn : 2 ≤ (List.length (words v))) (hm : (List.length (words v)) < m) (hM : m ≤ 4294967296) (hN : N < v * W ^ (m - (List.length (words v)))) : CtrM Tryz.prog 137 (fun b0 => [isWin b0 0 m c, isWords (words v)]) (cellM (List.map isU (wordsN m N))) (cellM (List.map isU (wordsN m (left N v 0)))) (fun b0 => isWords (wordsN (m - (List.length (words v))) (N / v))) := by
 refine CtrM.intro Tryz.func137 rfl (by kernel_rfl) Tryz.ntmps137 (fun _ => rfl) fun w0 F0 b0 => .cv (Cv.wk (.l [0, 1] rfl)) (.fact (Has.lenLt (Has.t (t := 0) rfl)) fun lt0 => .fact (Has.winLe (Has.t (t := 0) rfl)) fun lw0 => .fact (Has.lenLt (Has.t (t := 1) rfl)) fun lt1 => .fact (Has.okW (Has.t (t := 1) rfl)) fun ok1 => .seq fun _ k1 => .region (st (.as (.cW (f := isU))) rfl (nl (.thn (k1 _ _ (.seq fun _ k2 => .region (st (.mv (.t rfl)) rfl (st (.len sl34 (.t rfl)) rfl (st (.as (.t rfl)) rfl (nl (.thn (k2 _ _ (.seq fun _ k3 => .region (st (.mv (.t rfl)) rfl (st (.len sl34 (.t rfl)) rfl (st (.mv (.t rfl)) rfl (st (.eq (.subI (.t rfl) (.t rfl) (by omega) (by omega)) ((show isI _ = isI ((m - (List.length (words v)) : Nat) : Int) from isI_eq (by omega)))) rfl (.make (f := isU) (u := 0) (n := m - (List.length (words v))) (c := m - (List.length (words v))) sl34 ty62 zero62 (fun _ _ => ⟨⟨rfl, by decide⟩, trivial⟩) by62 (Has.t' rfl rfl) (Has.t' rfl rfl) ⟨by omega, by omega⟩ rfl fun b1 => st (.as (.t rfl)) rfl (nl (.thn (k3 _ _ (.cv (Cv.wk (.l [0, 1, 4, 5, 6] rfl)) (.seq fun _ k4 => .seq fun _ k5 => .region (st (.mv (.t rfl)) rfl (st (.len sl34 (.t rfl)) rfl (st (.subI (.t rfl) (.cI 1 rfl) (by omega) (by omega)) rfl (st (.as (.t rfl)) rfl (nl (.thn (k5 _ _ (.block (.loopF [0, 1, 4, 5, 6] (fun (z : { k : Nat // k ≤ m - (List.length (words v)) }) => match z with | ⟨k, hI⟩ => [(7, isI ((k : Int) - 1))]) (fun M => fun (z : { k : Nat // k ≤ m - (List.length (words v)) }) => match z with | ⟨k, hI⟩ => [(some b1, cellM (List.map isU (mix k 0 (N / v) (m - (List.length (words v)))))), (some b0, cellM (List.map isU (wordsN m (left N v k))))]) (fun (z : { k : Nat // k ≤ m - (List.length (words v)) }) => match z with | ⟨k, hI⟩ => k) (⟨m - (List.length (words v)), Nat.le_refl _⟩) (Cv.mem (.c 7 rfl ?_ (.l [0, 1, 4, 5, 6] rfl)) ?_) ?_))))))))))))))))))))))))))))))))
 ·rfl
 ·exact mem2_eq (outStart _ _) (by rw [left_top hN])
 rintro ⟨k, hI⟩ K6 hK6
 refine .cv (Cv.wk (.l [7, 0, 1, 4, 5, 6] rfl)) (.memEq (M' := [(some b1, cellM (List.map isU (mix k 0 (N / v) (m - (List.length (words v)))))), (some b0, cellM (List.map isU (wordsN m (left N v k))))]) rfl ?_)
 have wl : (wordsN m (left N v k)).length = m := wordsN_len _ _
 have wl2 : (mix k 0 (N / v) (m - (List.length (words v)))).length = m - (List.length (words v)) := mix_len hI
 refine .seq fun _ k7 => .seq fun _ k8 => .region (st (.mv (.t rfl)) rfl (st (.geI (.t rfl) (.cI 0 rfl)) rfl (nl (.thn (k8 _ _ (.cond (.t rfl) (fun hc1 => ?_) (fun hc1 => ?_)))))))
 ·have hc1 := BP.t hc1
  obtain ⟨j, rfl⟩ : ∃ j, k = j + 1 := ⟨k - 1, by omega⟩
  obtain ⟨k2, hk2⟩ : ∃ k2, (List.length (words v)) = k2 + 2 := ⟨(List.length (words v)) - 2, by omega⟩
  have ej : (((j + 1 : Nat) : Int) - 1) = (j : Int) := by omega
  obtain ⟨g, hg⟩ : ∃ g, g = gss (dig (left N v (j + 1) / W ^ j) (k2 + 2)) (dig (left N v (j + 1) / W ^ j) (k2 + 1)) (dig (left N v (j + 1) / W ^ j) k2) (dig v (k2 + 1)) (dig v k2) := ⟨_, rfl⟩
  have hgl : g < 18446744073709551616 := hg ▸ gss_lt _ _ _ _ _
  have R := round hk2 hg hgl
  refine .skip (.thn (k7 _ _ (.seq fun _ k9 => .block (.seq fun _ k10 => .dr (.s [] rfl rfl rfl (.o rfl (.mv (.t rfl))) (.s [] rfl rfl rfl (.o rfl (.eq (.mv (.t rfl)) ((isI_eq ej)))) (.s [] rfl rfl rfl (.o rfl (.mv (.t rfl))) (.s [25, 26] rfl rfl rfl (.o rfl (.addI (.t rfl) (.t rfl) (by omega) (by omega))) ?_))))))))
  refine .s [24, 27] rfl rfl rfl (.o rfl (.eq (.ixWin sl34 ty62 (.t rfl) (.t rfl) ⟨by omega, by omega⟩) (isPtr_eq (by exact ixo0)))) (.s [28] rfl rfl rfl (.o rfl (.eq (.load1 (.t rfl) (i := 1) rfl ty62 (map_some (getD_some (d := 0) (by omega)))) ((show isU _ = isU (dig (left N v (j + 1) / W ^ j) (k2 + 2)) from isU_eq (getW (by omega) (by omega)))))) (.s [] rfl rfl rfl (.o rfl (.mv (.t rfl))) (.s [] rfl rfl rfl (.o rfl (.eq (.mv (.t rfl)) ((isI_eq ej)))) (.s [] rfl rfl rfl (.o rfl (.mv (.t rfl))) (.s [31, 32] rfl rfl rfl (.o rfl (.addI (.t rfl) (.t rfl) (by omega) (by omega))) ?_)))))
  refine .s [33] rfl rfl rfl (.o rfl (.subI (.t rfl) (.cI 1 rfl) (by omega) (by omega))) ?_
  refine .s [30, 34] rfl rfl rfl (.o rfl (.eq (.ixWin sl34 ty62 (.t rfl) (.t rfl) ⟨by omega, by omega⟩) (isPtr_eq (by exact ixo0)))) (.s [35] rfl rfl rfl (.o rfl (.eq (.load1 (.t rfl) (i := 1) rfl ty62 (map_some (getD_some (d := 0) (by omega)))) ((show isU _ = isU (dig (left N v (j + 1) / W ^ j) (k2 + 1)) from isU_eq (getW (by omega) (by omega)))))) (.s [] rfl rfl rfl (.o rfl (.mv (.t rfl))) (.s [] rfl rfl rfl (.o rfl (.eq (.mv (.t rfl)) ((isI_eq ej)))) (.s [] rfl rfl rfl (.o rfl (.mv (.t rfl))) (.s [38, 39] rfl rfl rfl (.o rfl (.addI (.t rfl) (.t rfl) (by omega) (by omega))) ?_)))))
  refine .s [40] rfl rfl rfl (.o rfl (.subI (.t rfl) (.cI 2 rfl) (by omega) (by omega))) ?_
  refine .s [37, 41] rfl rfl rfl (.o rfl (.eq (.ixWin sl34 ty62 (.t rfl) (.t rfl) ⟨by omega, by omega⟩) (isPtr_eq (by exact ixo0)))) (.s [42] rfl rfl rfl (.o rfl (.eq (.load1 (.t rfl) (i := 1) rfl ty62 (map_some (getD_some (d := 0) (by omega)))) ((show isU _ = isU (dig (left N v (j + 1) / W ^ j) (k2)) from isU_eq (getW (by omega) (by omega)))))) (.s [] rfl rfl rfl (.o rfl (.mv (.t rfl))) (.s [] rfl rfl rfl (.o rfl (.mv (.t rfl))) (.s [45] rfl rfl rfl (.o rfl (.subI (.t rfl) (.cI 1 rfl) (by omega) (by omega))) ?_))))
  refine .s [44, 46] rfl rfl rfl (.o rfl (.ixP sl34 ty62 (.t rfl) (.t rfl) ⟨by omega, by omega⟩ (getD_some (d := 0) (by omega)))) (.s [47] rfl rfl rfl (.o rfl (.eq (.loadP1 (.t rfl) ty62) ((show isU _ = isU (dig v (k2 + 1)) from isU_eq (getV (by omega)))))) (.s [] rfl rfl rfl (.o rfl (.mv (.t rfl))) (.s [] rfl rfl rfl (.o rfl (.mv (.t rfl))) (.s [50] rfl rfl rfl (.o rfl (.subI (.t rfl) (.cI 2 rfl) (by omega) (by omega))) ?_))))
  refine .s [49, 51] rfl rfl rfl (.o rfl (.ixP sl34 ty62 (.t rfl) (.t rfl) ⟨by omega, by omega⟩ (getD_some (d := 0) (by omega)))) (.s [52] rfl rfl rfl (.o rfl (.eq (.loadP1 (.t rfl) ty62) ((show isU _ = isU (dig v k2) from isU_eq (getV (by omega)))))) (.fin (n := 30) mixed (by kernel_rfl) (by kernel_rfl) (by kernel_rfl) (.cv (Cv.wk (.l [0, 1, 4, 5, 6, 7, 20, 21, 24, 25, 26, 27, 28, 29, 30, 31, 32, 33, 34, 35, 36, 37, 38, 39, 40, 41, 42, 43, 44, 45, 46, 47, 48, 49, 50, 51, 52, 53] rfl)) (st (.eq (.call (div_guess R.hd) (.cons (.t rfl) (.cons (.t rfl) (.cons (.t rfl) (.cons (.t rfl) (.cons (.t rfl) .nil)))))) ((show isU _ = isU g from isU_eq hg.symm))) rfl (st (.as (.t rfl)) rfl (nl (.thn (k10 _ _ (.seq fun _ k11 => .region (st (.mv (.t rfl)) rfl (st (.eq (.mv (.t rfl)) ((isI_eq ej))) rfl (st (.eq (.mv (.t rfl)) ((isI_eq ej))) rfl (st (.mv (.t rfl)) rfl (st (.addI (.t rfl) (.t rfl) (by omega) (by omega)) rfl (st (.addI (.t rfl) (.cI 1 rfl) (by omega) (by omega)) rfl (st (.eq (.eq (.slLHWin sl34 ty62 (.t rfl) (.t rfl) (.t rfl) ⟨by omega, by omega, by omega, by omega⟩) (isWin_eq (by exact ixo0) rfl rfl)) ((show isWin _ _ _ _ = isWin b0 j ((List.length (words v)) + 1) (c - j) from isWin_eq (by omega) (by omega) (by omega)))) rfl (st (.as (.t rfl)) rfl (nl (.thn (k11 _ _ (.seq fun _ k12 => .seq fun _ k13 => .region (st (.mv (.t rfl)) rfl (st (.mv (.t rfl)) rfl (st (.mv (.t rfl)) rfl (.callM (div_take (N := left N v (j + 1)) (o := j) (v := v) (q := g) (m := m) (by omega) R.hw) (i := 1) rfl (.cons (.t rfl) (.cons (.t rfl) (.cons (.t rfl) .nil))) rfl (M' := [_, (_, _)]) rfl (nl (.thn (k13 _ _ (.cond (.t rfl) (fun hc2 => ?_) (fun hc2 => ?_))))))))))))))))))))))))))))))
  ·have hc2 := BP.t hc2
   have hbk := R.bk hc2
   have hg1 := hbk.2.1
   refine .seq fun _ k14 => .region (st (.mv (.t rfl)) rfl (st (.subU' (.t rfl) (.cU 1 rfl) (by with_reducible assumption) (by with_reducible assumption)) rfl (st (.as (.t rfl)) rfl (nl (.thn (k14 _ _ (.region (st (.mv (.t rfl)) rfl (st (.mv (.t rfl)) rfl (.callM (div_back (N := left N v (j + 1) % W ^ j + W ^ j * wdiff (left N v (j + 1) / W ^ j) (v * g) ((List.length (words v)) + 1)) (o := j) (m := m) (by omega) (by rw [win_div]; exact wdiff_lt _ _ _)) (i := 1) rfl (.cons (.t rfl) (.cons (.t rfl) .nil)) rfl (M' := [_, (_, _)]) rfl ?_))))))))))
   refine nl (.thn (k12 _ _ (.region (st (.mv (.t rfl)) rfl (st (.eq (.mv (.t rfl)) ((isI_eq ej))) rfl (st (.mv (.t rfl)) rfl (st (.eq (.ixWin sl34 ty62 (.t rfl) (.t rfl) ⟨by omega, by omega⟩) (isPtr_eq (by exact ixo0))) rfl (.storeM (.t rfl) (.t rfl) (i := 0) rfl ty62 (by omega) (M' := [(_, _), _]) rfl (nl (.bln (.thn (k9 _ _ (.region (st (.mv (.t rfl)) rfl (st (.subI (.t rfl) (.cI 1 rfl) (by omega) (by omega)) rfl (st (.as (.t rfl)) rfl (nl (.thn (hK6 (⟨j, by omega⟩) _ _ ?_ (Cv.mem (.c 7 rfl ?_ (.l [0, 1, 4, 5, 6] rfl)) ?_))))))))))))))))))))
   ·show j < j + 1; omega
   ·exact isI_eq (by show (((j + 1 : Nat) : Int) - 1) - 1 = (j : Int) - 1; omega)
   ·exact mem2_eq (mix_down' (k := j + 1) (by omega) hI hbk.1) (wordsN_eq hbk.2.2)
  ·have hc2 := BP.f hc2
   have hfi := R.fine (by omega)
   refine .skip (.thn (k12 _ _ (.region (st (.mv (.t rfl)) rfl (st (.eq (.mv (.t rfl)) ((isI_eq ej))) rfl (st (.mv (.t rfl)) rfl (st (.eq (.ixWin sl34 ty62 (.t rfl) (.t rfl) ⟨by omega, by omega⟩) (isPtr_eq (by exact ixo0))) rfl (.storeM (.t rfl) (.t rfl) (i := 0) rfl ty62 (by omega) (M' := [(_, _), _]) rfl (nl (.bln (.thn (k9 _ _ (.region (st (.mv (.t rfl)) rfl (st (.subI (.t rfl) (.cI 1 rfl) (by omega) (by omega)) rfl (st (.as (.t rfl)) rfl (nl (.thn (hK6 (⟨j, by omega⟩) _ _ ?_ (Cv.mem (.c 7 rfl ?_ (.l [0, 1, 4, 5, 6] rfl)) ?_))))))))))))))))))))
   ·show j < j + 1; omega
   ·exact isI_eq (by show (((j + 1 : Nat) : Int) - 1) - 1 = (j : Int) - 1; omega)
   ·exact mem2_eq (mix_down' (k := j + 1) (by omega) hI hfi.1) (wordsN_eq hfi.2)
 ·have hc1 := BP.f hc1
  refine .exit (.the (.the (.blh (.thn (k4 _ _ (.cv (Cv.wk (.l [4, 6] rfl)) (.seq fun _ k15 => .cv (Cv.freezeM (t := 6) (i := 0) (j := 1) (ys := wordsN (m - (List.length (words v))) (N / v)) rfl rfl rfl rfl rfl (by omega) (by obtain rfl : k = 0 := (by omega); rw [outEnd]; exact freeze_all (wordsN_len _ _).symm)) ?_)))))))
  refine .memEq (M' := [_]) rfl (.cv (Cv.wk (.l [4, 6] rfl)) (.region (st (.mv (.t rfl)) rfl (st (.as (.t rfl)) rfl (nl (.thn (k15 _ _ (.ret (rtM1 (.inl rfl) Tryz.results137 rfl (i := 0) ?_ (.tmp (Has.t' rfl ?_) .nil))))))))))
  ·obtain rfl : k = 0 := (by omega); rfl
  ·rfl
end Go.Proofs.YtcfobalbkhgdmaaGreat
namespace Go.Nt
theorem top_div {B n : Nat} (hn : (List.length (words B)) = n + 1) : B / W ^ n = dig B n := by
 have hB : B < W ^ (n + 1) := hn ▸ nw_lt B
 rw [dig_def, Nat.mod_eq_of_lt]
 rw [Nat.div_lt_iff_lt_mul (pow_pos' _), Nat.mul_comm, ← Nat.pow_succ]; exact hB
theorem shift_fits {B k : Nat} (h : B ≠ 0) (hk : k = 64 - bitLen (dig B ((List.length (words B)) - 1))) : (List.length (words (B * 2 ^ k))) = (List.length (words B)) := by
 have hl := lead (dig_lt B ((List.length (words B)) - 1)) (dig_top h) hk
 obtain ⟨n, hn⟩ : ∃ n, (List.length (words B)) = n + 1 := ⟨(List.length (words B)) - 1, by have := nw_pos h; omega⟩
 have hd := top_div hn
 rw [hn, Nat.add_sub_cancel] at hl
 rw [← hd] at hl
 have hk64 : k ≤ 64 := by omega
 have hp : 0 < 2 ^ k := Nat.pow_pos (by decide)
 have h1 : B < (B / W ^ n + 1) * W ^ n := by
  have := Nat.div_add_mod B (W ^ n)
  have := Nat.mod_lt B (pow_pos' n)
  rw [Nat.add_mul, Nat.mul_comm (B / W ^ n)]; omega
 have h23 : ∀ t : Nat, t * 2 ^ k < 18446744073709551616 → (t + 1) * 2 ^ k ≤ W := fun t h4 => by
  rw [show (18446744073709551616 : Nat) = W from rfl, ← two64 hk64] at h4
  have := Nat.mul_le_mul_right (2 ^ k) (Nat.lt_of_mul_lt_mul_right h4)
  rwa [two64 hk64] at this
 have h3 := h23 _ hl.2
 have h4 : B * 2 ^ k < W ^ (n + 1) := by
  calc B * 2 ^ k < (B / W ^ n + 1) * W ^ n * 2 ^ k := Nat.mul_lt_mul_of_pos_right h1 hp
   _ = (B / W ^ n + 1) * 2 ^ k * W ^ n := by rw [Nat.mul_right_comm]
   _ ≤ W * W ^ n := Nat.mul_le_mul_right _ h3
   _ = W ^ (n + 1) := by rw [Nat.pow_succ, Nat.mul_comm]
 have h5 := nw_le h4
 have h6 := nw_mono (Nat.le_mul_of_pos_right B hp)
 omega
theorem lead_lt {B k : Nat} (h : B ≠ 0) (hk : k = 64 - bitLen (dig B ((List.length (words B)) - 1))) : k < 64 := by
 have := bitLen_pos (dig_top h); omega
theorem shift_len {A k : Nat} (hk : k < 64) : (List.length (words (A * 2 ^ k))) ≤ (List.length (words A)) + 1 := by
 apply nw_le
 have h1 := nw_lt A
 have h2 : 2 ^ k ≤ W := by have : 2 ^ k ≤ 2 ^ 64 := Nat.pow_le_pow_right (by decide) (by omega); exact this
 calc A * 2 ^ k < W ^ (List.length (words A)) * 2 ^ k := Nat.mul_lt_mul_of_pos_right h1 (Nat.pow_pos (by decide))
  _ ≤ W ^ (List.length (words A)) * W := Nat.mul_le_mul_left _ h2
  _ = W ^ ((List.length (words A)) + 1) := by rw [Nat.pow_succ]
theorem copy_words {N m : Nat} (h : (List.length (words N)) ≤ m) : (List.replicate m 0).take 0 ++ words N ++ (List.replicate m 0).drop (0 + (List.length (words N))) = wordsN m N := by
 refine eq_wordsN ?_ ?_ ?_
 ·rw [List.take_zero, List.nil_append]
  refine ok_append (words_ok N) (fun x hx => ?_)
  have := List.mem_of_mem_drop hx
  rw [List.mem_replicate] at this
  rw [this.2]; decide
 ·simp; omega
 ·rw [List.take_zero, List.nil_append, val_append, List.drop_replicate, val_replicate, Nat.mul_zero, Nat.add_zero, val_words, Nat.mod_eq_of_lt (lt_pow_of h)]
theorem le_of_nw2 {A B : Nat} (hB : B ≠ 0) (h : (List.length (words B)) ≤ (List.length (words A)) + 1) : A < B * W ^ ((List.length (words A)) + 1 - (List.length (words B))) := by
 have h1 := le_of_nw hB
 have hp := nw_pos hB
 calc A < W ^ (List.length (words A)) := nw_lt A
  _ = W ^ ((List.length (words B)) - 1) * W ^ ((List.length (words A)) + 1 - (List.length (words B))) := by rw [← Nat.pow_add]; congr 1; omega
  _ ≤ B * W ^ ((List.length (words A)) + 1 - (List.length (words B))) := Nat.mul_le_mul_right _ h1
structure Dm (A B k : Nat) : Prop where
 k64 : k < 64
 v : (List.length (words (B * 2 ^ k))) = (List.length (words B))
 w : (List.length (words (A * 2 ^ k))) ≤ (List.length (words A)) + 1
 lt : A * 2 ^ k < B * 2 ^ k * W ^ ((List.length (words A)) + 1 - (List.length (words (B * 2 ^ k))))
 le : (List.length (words B)) ≤ (List.length (words A))
theorem dm {A B k : Nat} (hB : B ≠ 0) (hle : B ≤ A) (hk : k = 64 - bitLen (dig B ((List.length (words B)) - 1))) : Dm A B k := by
 have h1 := lead_lt hB hk
 have h2 := shift_fits hB hk
 have h3 := nw_mono hle
 refine ⟨h1, h2, shift_len h1, ?_, h3⟩
 rw [h2, Nat.mul_right_comm]
 exact Nat.mul_lt_mul_of_pos_right (le_of_nw2 hB (by omega)) (Nat.pow_pos (by decide))
theorem dm_quo {A B k m n : Nat} (hB : B ≠ 0) (D : Dm A B k) (hm : m = (List.length (words A)) + 1) (hn : n = (List.length (words (B * 2 ^ k)))) : words (val (wordsN (m - n) (A * 2 ^ k / (B * 2 ^ k)))) = words (A / B) := by
 subst hm; subst hn
 have hp : 0 < 2 ^ k := Nat.pow_pos (by decide)
 rw [Nat.mul_div_mul_right _ _ hp, words_val_wordsN]
 rw [D.v, Nat.div_lt_iff_lt_mul (by omega), Nat.mul_comm]
 exact le_of_nw2 hB (by have := D.le; omega)
theorem dm_rest {A B k m : Nat} (hB : B ≠ 0) (D : Dm A B k) (hm : m = (List.length (words A)) + 1) : val (wordsN m (left (A * 2 ^ k) (B * 2 ^ k) 0)) / 2 ^ k = A % B := by
 subst hm
 have hp : 0 < 2 ^ k := Nat.pow_pos (by decide)
 have e : left (A * 2 ^ k) (B * 2 ^ k) 0 = A % B * 2 ^ k := by
  unfold left
  rw [Nat.pow_zero, Nat.mod_one, Nat.div_one, Nat.zero_add, Nat.one_mul, Nat.mul_mod_mul_right]
 rw [e, val_wordsN, Nat.mod_eq_of_lt, Nat.mul_div_cancel _ hp]
 refine Nat.lt_of_le_of_lt (Nat.mul_le_mul_right _ (Nat.mod_le A B)) (lt_pow_of D.w)
theorem nw_val_wordsN (m N : Nat) : (List.length (words (val (wordsN m N)))) ≤ m := by
 have := nw_val (wordsN_ok m N); rwa [wordsN_len] at this
/-! ### bits -/
theorem bitLen_uniq {n k : Nat} (h1 : n < 2 ^ k) (h2 : n ≠ 0 → 2 ^ (k - 1) ≤ n) (h0 : n = 0 → k = 0) : bitLen n = k := by
 have h := bitLen_spec n
 by_cases hn : n = 0
 ·rw [h0 hn]; subst hn; rfl
 have a := h.2 hn
 have b := h2 hn
 have c := h.1
 have p := bitLen_pos hn
 have hk : 0 < k := by
  rcases Nat.eq_zero_or_pos k with e | e
  ·subst e; simp at h1; omega
  ·exact e
 have e1 : bitLen n - 1 < k := (Nat.pow_lt_pow_iff_right (by decide : 1 < 2)).1 (Nat.lt_of_le_of_lt a h1)
 have e2 : k - 1 < bitLen n := (Nat.pow_lt_pow_iff_right (by decide : 1 < 2)).1 (Nat.lt_of_le_of_lt b c)
 omega
theorem W_pow (n : Nat) : W ^ n = 2 ^ (64 * n) := by rw [Nat.pow_mul]
theorem bits_words {A : Nat} (h : A ≠ 0) : 64 * ((List.length (words A)) - 1) + bitLen (dig A ((List.length (words A)) - 1)) = bitLen A := by
 obtain ⟨n, hn⟩ : ∃ n, (List.length (words A)) = n + 1 := ⟨(List.length (words A)) - 1, by have := nw_pos h; omega⟩
 have hd := top_div hn
 have ht := dig_top h
 rw [hn, Nat.add_sub_cancel] at *
 obtain ⟨t, hte⟩ : ∃ t, t = dig A n := ⟨_, rfl⟩
 rw [← hte] at ht hd ⊢
 have hs := bitLen_spec t
 have hp := bitLen_pos ht
 have e := Nat.div_add_mod A (W ^ n)
 have hm := Nat.mod_lt A (pow_pos' n)
 rw [hd] at e
 generalize A % W ^ n = low at *
 symm
 apply bitLen_uniq
 ·rw [Nat.pow_add, ← W_pow]
  have : W ^ n * (t + 1) ≤ W ^ n * 2 ^ bitLen t := Nat.mul_le_mul_left _ hs.1
  rw [Nat.mul_add] at this; omega
 ·intro _
  rw [Nat.add_sub_assoc (by omega), Nat.pow_add, ← W_pow]
  have : W ^ n * 2 ^ (bitLen t - 1) ≤ W ^ n * t := Nat.mul_le_mul_left _ (hs.2 ht)
  omega
 ·intro h0; exact absurd h0 h
theorem bits_zero {A : Nat} (h : (List.length (words A)) = 0) : A = 0 := of_words_nil (List.eq_nil_of_length_eq_zero h)
/-! ### powers of two, as words -/
/-! ### the root -/
end Go.Nt
namespace Go.En
open Go.RowKit
structure Gr (α : Type) where
 ob : Option Nat
 c : Nat
 sp : List α
def Gr.nil {α : Type} : Gr α := ⟨none, 0, []⟩
def isGr {α : Type} (g : Gr α) (n : Nat) : VP := .pure fun v => (g.ob = none ∧ n = 0 ∧ v = .slice none 0 0) ∨ (∃ b, g.ob = some b ∧ v = .slice (some ⟨b, 0, none⟩) n g.c ∧ n + g.sp.length = g.c ∧ g.c ≤ maxLen)
def grM {α : Type} (f : α → VP) (g : Gr α) (ys : List α) : Option Nat × MP := (g.ob, cellM ((ys ++ g.sp).map f))
instance {α : Type} {g : Gr α} {n : Nat} : IsSl (isGr g n) n := ⟨fun w F v h => by
 rcases h with ⟨_, rfl, rfl⟩ | ⟨b, _, rfl, h1, h2⟩
 ·exact ⟨_, _, rfl, Nat.le_refl _, by rw [maxLen_eq]; omega⟩
 ·exact ⟨_, _, rfl, by omega, h2⟩⟩
instance {α : Type} {g : Gr α} {n : Nat} : Shape (isGr g n) [isGr g n] := .of_one inferInstance
section
variable {E : Env} {P : Program} {Γ : Ctx} {M : Mem} {ty : TypeId} {pos : String} {after : Array Edge} {gd : Option (Nat × Bool)} {d : Option Tmp}
 {ops : Array Oper} {Q : Exit → Act → World → Prop} {rest : List Oper} {T T' : TypeId} {x y : Operand} {α : Type} {f : α → VP} {fk : α → List VP} {xs : List α}
theorem nbeq_self (t : Nat) : Nat.beq t t = true := by simp [Nat.beq_eq]
theorem gr0 {w : World} {F : Blk} : (isGr (Gr.nil : Gr α) 0).h w F (.slice none 0 0) := .inl ⟨rfl, rfl, rfl⟩
theorem Has.cGr : Has E Γ M (.const (.slice none 0 0)) (isGr (Gr.nil : Gr α) 0) := fun _ _ _ _ => gr0
theorem Sat.swap {a : Act} {w : World} {F : Blk} {n i : Nat} {C : MP} (s : Sat E Γ ((some n, C) :: M) a w F) : Sat E Γ (M.set i (some n, C)) a w F := by
 have hp := List.pairwise_cons.1 s.mem.apart
 refine { s with mem := ⟨?_, fun k D hk => ?_⟩ }
 ·rw [List.pairwise_iff_getElem]
  intro j k hj hk hjk
  have hp2 := List.pairwise_iff_getElem.1 hp.2 j k (by simpa using hj) (by simpa using hk) hjk
  simp only [List.getElem_set]
  by_cases e1 : i = j
  ·subst e1
   have : ¬ i = k := by omega
   simp only [if_true, this, if_false]
   exact hp.1 _ (List.getElem_mem _)
  ·by_cases e2 : i = k
   ·subst e2
    simp only [e1, if_true, if_false]
    right
    rcases hp.1 _ (List.getElem_mem (by simpa using hj : j < M.length)) with h | h
    ·cases h
    ·exact fun e => h e.symm
   ·simp only [e1, e2, if_false]; exact hp2
 ·rcases List.mem_or_eq_of_mem_set hk with h | h
  ·exact s.mem.each k D (by simp [h])
  ·exact s.mem.each k D (by rw [h]; exact List.mem_cons_self)
theorem set_self {i : Nat} {a : Option Nat × MP} (h : M[i]? = some a) : M.set i a = M := by
 have hi : i < M.length := by
  rcases Nat.lt_or_ge i M.length with h2 | h2
  ·exact h2
  ·rw [List.getElem?_eq_none h2] at h; cases h
 rw [List.getElem?_eq_getElem hi] at h
 rw [← Option.some.inj h, List.set_getElem_self]
theorem Ops.appendG {d i : Nat} {e : TypeId} {g0 : Bool} {z : Value} {u : α} {g : Gr α} {ys zs : List α} (hT : slB P T = some e) (ht : tyB P e = some (0 + 1, g0)) (hz : zeroB P e = some z) (hZ : ∀ w F, All2 [f u] w F z.cells.toList) (h1 : ∀ u, One (f u)) (hby : byLe P e 1024 = true)
    (hx : Has E Γ M x (isGr g ys.length)) (hM : M[i]? = some (grM f g ys)) (hy : Has E Γ M y (SlM f zs)) (hn' : ys.length + zs.length ≤ 4294967296) (h0 : 0 < zs.length) (hd : Nat.blt d E.n = true)
    (k : ∀ g' : Gr α, Ops E P ops Q rest ((d, isGr g' (ys.length + zs.length)) :: Γ) (M.set i (grM f g' (ys ++ zs)))) :
    Ops E P ops Q (⟨some d, .call ⟨.builtin .append, #[x, y], #[T, T]⟩, ty, pos, after, none⟩ :: rest) Γ M := by
  intro a w F s
  refine wpList_plain rfl fun K hK => ?_
  have hd' : d < E.n := by simpa [Nat.blt_eq] using hd
  obtain ⟨a1, cap, e2, g1, g2, g3, g4⟩ := hy a w F s
  have hu := slB_under hT
  obtain ⟨inf, hi, hb⟩ : ∃ i, P.info? e = some i ∧ i.bytes ≤ 1024 := by
    unfold byLe at hby
    cases hi : P.info? e with
    | none => simp [hi] at hby
    | some i => rw [hi] at hby; exact ⟨i, rfl, Nat.le_of_ble_eq_true hby⟩
  have hsz : inf.size = 1 := by
    have := run_size (P := P) (w := w) ht
    simp [sizeOf, typeInfo, go_sem, hi] at this; exact this
  have hzz : inf.zero = some z := by unfold zeroB at hz; rw [hi] at hz; simpa using hz
  have hone : z.cells.size = 1 := by have := (hZ w F).len; simpa using this.symm
  have hzs : ∀ k, (Builtin.zeroCells z.cells k).toList = (List.replicate k z.cells.toList).flatten := fun k => by
    unfold Builtin.zeroCells
    rw [make_flat rfl]
  have hall : ∀ k, All2 ((List.replicate k u).map f) w F ((List.replicate k z.cells.toList).flatten) := by
    intro k
    induction k with
    | zero => trivial
    | succ k ih =>
      rw [List.replicate_succ, List.replicate_succ, List.flatten_cons, List.map_cons]
      exact All2.append (hZ w F) ih
  rcases g4 with g4 | ⟨b1, off, rfl, hF, vs, hv, hc⟩
  · omega
  have hlen := hv.len
  simp only [List.length_map] at hlen
  have hnews : ∀ j u, vs[j]? = some u → w.cell? ((⟨b1, off, none⟩ : Addr).add j) = some u := fun j u hj => by rw [add_mk]; exact hc j u hj
  have hnl : vs.length = zs.length * inf.size := by rw [hsz]; omega
  -- a new row
  have hfresh : ∀ (olds : List Value), All2 (ys.map f) w F olds → ∀ cp, ys.length + zs.length ≤ cp → cp ≤ maxLen →
      K (a.put (some d) (.slice (some ⟨w.heap.size, 0, none⟩) (ys.length + zs.length) cp)) { w with heap := w.heap.push (.cells (olds ++ vs ++ (Builtin.zeroCells z.cells (cp - (ys.length + zs.length))).toList).toArray e), drawn := w.drawn + 1 } := by
    intro olds ho cp h1 h2
    have hcs : All2 ((ys ++ zs ++ List.replicate (cp - (ys.length + zs.length)) u).map f) w F (olds ++ vs ++ (Builtin.zeroCells z.cells (cp - (ys.length + zs.length))).toList) := by
      rw [List.map_append, List.map_append, hzs]; exact All2.append (All2.append ho hv) (hall _)
    have s1 := (s.adv (Adv.drew w F)).alloc (T := e) (All2.mono (w := w) (w' := { w with drawn := w.drawn + 1 }) (fun _ _ => rfl) (fun _ h => h) _ _ hcs)
    refine hK _ _ (k ⟨some w.heap.size, cp, List.replicate (cp - (ys.length + zs.length)) u⟩ _ _ F ((s1.swap (i := i)).put hd' (.inr ⟨_, rfl, rfl, ?_, h2⟩)))
    simp; omega
  unfold Oper.wp
  have hml : ys.length + zs.length ≤ maxLen := by rw [maxLen_eq]; omega
  rcases hx a w F s with ⟨hob, hyl, e1⟩ | ⟨b, hob, e1, hcap, hcm0⟩
  · have hbytes : zs.length * inf.bytes ≤ 281474976710656 := by have := Nat.mul_le_mul (show zs.length ≤ 4294967296 by omega) hb; omega
    have hy0 : ys = [] := List.eq_nil_of_length_eq_zero hyl
    have hr := run_append_nil (P := P) w T ty e inf z hu hi hzz ⟨b1, off, none⟩ zs.length cap vs hnl hnews (by omega) (by omega) hbytes
    have hf := hfresh [] (by rw [hy0]; trivial) (grownCap w zs.length 0 e) (by rw [hyl, Nat.zero_add]; exact grownCap_ge _ _ _ _) (grownCap_le_maxLen _ _ _ _ (by omega))
    rw [hyl, Nat.zero_add, List.nil_append] at hf
    have hr2 : (execOp a.eval (⟨some d, .call ⟨.builtin .append, #[x, y], #[T, T]⟩, ty, pos, after, none⟩ : Oper)).run P w = .ok (.value (.slice (some ⟨w.heap.size, 0, none⟩) zs.length (grownCap w zs.length 0 e))) { w with heap := w.heap.push (.cells (vs ++ (Builtin.zeroCells z.cells (grownCap w zs.length 0 e - zs.length)).toList).toArray e), drawn := w.drawn + 1 } := by
      have earr : vs.toArray ++ Builtin.zeroCells z.cells (grownCap w zs.length 0 e - zs.length) = (vs ++ (Builtin.zeroCells z.cells (grownCap w zs.length 0 e - zs.length)).toList).toArray := by apply Array.ext'; simp
      simp only [execOp, resolve, invoke, builtin, Sem.run_bind]
      rw [← earr]
      simp [e1, e2, Sem.run_bind, hr]
      first | rfl | exact ⟨rfl, rfl⟩ | done
    rw [hr2]
    exact hf
  · have hM' : M[i]? = some (some b, cellM ((ys ++ g.sp).map f)) := by rw [hM]; unfold grM; rw [hob]
    obtain ⟨o, ho, us, T', rfl, hus⟩ := mem_at s hM'
    have husl := hus.len
    simp only [List.length_map, List.length_append] at husl
    rcases Nat.lt_or_ge g.c (ys.length + zs.length) with hg | hg
    · have holds : All2 (ys.map f) w F (us.take ys.length) := by
        have := hus.take ys.length
        rw [List.map_append, List.take_left' (by simp)] at this
        exact this
      have hcell : ∀ j u, (us.take ys.length)[j]? = some u → w.cell? ((⟨b, 0, none⟩ : Addr).add j) = some u := fun j u hj => by
        have hjl : j < ys.length := by
          rcases Nat.lt_or_ge j ys.length with h | h
          · exact h
          · rw [List.getElem?_take_eq_none h] at hj; cases hj
        rw [List.getElem?_take_of_lt hjl] at hj
        rw [add_mk]
        simp only [World.cell?, ho, Nat.zero_add]
        simpa using hj
      have hfit : Builtin.nextslicecap (ys.length + zs.length) g.c * inf.bytes ≤ 281474976710656 := by
        have h1 := nextslicecap_le hg
        have h2 := Nat.mul_le_mul (Nat.le_trans h1 (show 2 * (ys.length + zs.length) ≤ 8589934592 by omega)) hb
        omega
      have hr := run_append_grow (P := P) w T ty e inf z hu hi hzz ⟨b, 0, none⟩ ys.length g.c (us.take ys.length) (by rw [List.length_take, hsz]; omega) hcell ⟨b1, off, none⟩ zs.length cap vs hnl hnews hg (by omega) hfit
      have hf := hfresh _ holds (grownCap w (ys.length + zs.length) g.c e) (grownCap_ge _ _ _ _) (grownCap_le_maxLen _ _ _ _ hml)
      have hr2 : (execOp a.eval (⟨some d, .call ⟨.builtin .append, #[x, y], #[T, T]⟩, ty, pos, after, none⟩ : Oper)).run P w = .ok (.value (.slice (some ⟨w.heap.size, 0, none⟩) (ys.length + zs.length) (grownCap w (ys.length + zs.length) g.c e))) { w with heap := w.heap.push (.cells (us.take ys.length ++ vs ++ (Builtin.zeroCells z.cells (grownCap w (ys.length + zs.length) g.c e - (ys.length + zs.length))).toList).toArray e), drawn := w.drawn + 1 } := by
        have earr : (us.take ys.length).toArray ++ vs.toArray ++ Builtin.zeroCells z.cells (grownCap w (ys.length + zs.length) g.c e - (ys.length + zs.length)) = (us.take ys.length ++ vs ++ (Builtin.zeroCells z.cells (grownCap w (ys.length + zs.length) g.c e - (ys.length + zs.length))).toList).toArray := by apply Array.ext'; simp
        simp only [execOp, resolve, invoke, builtin, Sem.run_bind]
        rw [← earr]
        simp [e1, e2, Sem.run_bind, hr]
        first | rfl | exact ⟨rfl, rfl⟩ | done
      rw [hr2]
      exact hf
    · have hvone : ∀ v ∈ vs, v.oneCell' = true := hv.one (fun S hS => by obtain ⟨u, _, rfl⟩ := List.mem_map.1 hS; exact h1 u)
      have hst := run_storeCells_at P b ys.length T' vs 0 us.toArray w ho (by simp; omega) hvone
      simp only [Nat.add_zero] at hst
      have hfc := run_firstCells_some (P := P) w 1 zs.length ⟨b1, off, none⟩ zs.length cap vs (by omega) hnews
      have hr : (Builtin.append_ #[T, T] ty #[.slice (some ⟨b, 0, none⟩) ys.length g.c, .slice (some ⟨b1, off, none⟩) zs.length cap]).run P w = .ok (.slice (some ⟨b, 0, none⟩) (ys.length + zs.length) g.c) (w.setRow b (us.take ys.length ++ vs ++ us.drop (ys.length + vs.length)).toArray) := by
        have hst' : (storeCells ⟨b, ys.length, none⟩ vs).run P w = .ok () (w.setRow b (us.take ys.length ++ vs ++ us.drop (ys.length + vs.length)).toArray) := by simpa using hst
        simp [Builtin.append_, run_underlying hu, sizeOf, typeInfo, hi, hsz, Builtin.lenOf, hg, hfc, Addr.add_lit, hst']
      have hr2 : (execOp a.eval (⟨some d, .call ⟨.builtin .append, #[x, y], #[T, T]⟩, ty, pos, after, none⟩ : Oper)).run P w = .ok (.value (.slice (some ⟨b, 0, none⟩) (ys.length + zs.length) g.c)) (w.setRow b (us.take ys.length ++ vs ++ us.drop (ys.length + vs.length)).toArray) := by
        simp only [execOp, resolve, invoke, builtin, Sem.run_bind]
        simp [e1, e2, Sem.run_bind, hr]
      rw [hr2]
      have hF : ∀ k, F k → (w.setRow b (us.take ys.length ++ vs ++ us.drop (ys.length + vs.length)).toArray).heap[k]? = w.heap[k]? := fun k hk => setRow_ne _ _ _ _ (fun e => by
        subst e; exact (s.mem.each k _ (List.mem_of_getElem? hM')).2.2.1 hk)
      have hnew : All2 ((ys ++ zs ++ g.sp.drop zs.length).map f) w F (us.take ys.length ++ vs ++ us.drop (ys.length + vs.length)) := by
        have e1 := hus.take ys.length
        rw [List.map_append, List.take_left' (by simp)] at e1
        have e2 := hus.drop (ys.length + vs.length)
        rw [List.map_append, List.drop_append, List.drop_of_length_le (by simp), List.nil_append, List.length_map, ← hlen, Nat.add_sub_cancel_left, ← List.map_drop] at e2
        rw [List.map_append, List.map_append]
        rw [← hlen]
        exact (e1.append hv).append e2
      refine hK _ _ (k ⟨some b, g.c, g.sp.drop zs.length⟩ _ _ F ?_)
      exact (s.write (w' := w.setRow b (us.take ys.length ++ vs ++ us.drop (ys.length + vs.length)).toArray) (C' := cellM ((ys ++ zs ++ g.sp.drop zs.length).map f)) hM' rfl rfl rfl (setRow_size _ _ _) (fun k hk => setRow_ne _ _ _ _ hk) (setRow_heap _ _ _ _ _ _ ho) ⟨_, T', rfl, All2.mono hF (fun _ h => h) _ _ hnew⟩).put hd' (.inr ⟨b, rfl, rfl, by simp; omega, hcm0⟩)
theorem Cv.freezeG {t i : Nat} {g : Gr α} {ys : List α} (hW : E.W = []) (ht : look Γ t = some (isGr g ys.length)) (hM : M[i]? = some (grM f g ys)) : Cv E Γ M ((t, SlM f ys) :: Γ) (M.eraseIdx i) := by
  intro a w F s
  rcases id (s.slots t _ ht) with ⟨hob, hyl, e1⟩ | ⟨b, hob, e1, hcap, hcm0⟩
  · refine ⟨F, { s with slots := ?_, mem := ⟨s.mem.apart.sublist (List.eraseIdx_sublist _ _), fun k C hk => s.mem.each k C ((List.eraseIdx_sublist _ _).subset hk)⟩ }⟩
    intro t' S' ht'
    simp only [look] at ht'
    cases hb : Nat.beq t t' with
    | false => rw [hb] at ht'; exact s.slots t' S' ht'
    | true =>
      rw [hb] at ht'
      obtain rfl : SlM f ys = S' := by simpa using ht'
      obtain rfl := Nat.eq_of_beq_eq_true hb
      rw [e1, List.eq_nil_of_length_eq_zero hyl]
      exact nilM _ _
  · have hM' : M[i]? = some (some b, cellM ((ys ++ g.sp).map f)) := by rw [hM]; unfold grM; rw [hob]
    have s2 : Sat E ((t, isWin b 0 ys.length g.c) :: Γ) M a w F := s.wider (fun t' S' ht' => by
      simp only [look] at ht'
      cases hb : Nat.beq t t' with
      | false => rw [hb] at ht'; exact s.slots t' S' ht'
      | true =>
        rw [hb] at ht'
        obtain rfl : isWin b 0 ys.length g.c = S' := by simpa using ht'
        obtain rfl := Nat.eq_of_beq_eq_true hb
        exact ⟨e1, by omega, hcm0⟩)
    have he : ((ys ++ g.sp).drop 0).take ys.length = ys := by rw [List.drop_zero, List.take_left' rfl]
    obtain ⟨F', s3⟩ := Cv.freeze' (Γ := (t, isWin b 0 ys.length g.c) :: Γ) (t := t) (b := b) (n := ys.length) (c := g.c) (o := 0) hW (by simp [look, nbeq_self]) hM' (by simp) he a w F s2
    refine ⟨F', s3.wider fun t' S' ht' => ?_⟩
    simp only [look] at ht'
    refine s3.slots t' S' ?_
    simp only [look]
    cases hb : Nat.beq t t' with
    | false => rw [hb] at ht'; simpa using ht'
    | true => rw [hb] at ht'; simpa using ht'
theorem isGr_eq {g : Gr α} {n n' : Nat} (h : n = n') : isGr g n = isGr g n' := h ▸ rfl
end
end Go.En
namespace Go.En
open Go.RowKit
section
variable {E : Env} {P : Program} {Γ : Ctx} {M : Mem} {ty : TypeId} {pos : String} {after : Array Edge} {gd : Option (Nat × Bool)} {d : Option Tmp} {x y : Operand} {ts : Array TypeId} {m n : Int}
theorem OK1.minI (hx : Has E Γ M x (isI m)) (hy : Has E Γ M y (isI n)) : OK1 E P Γ M ⟨d, .call ⟨.builtin .min, #[x, y], ts⟩, ty, pos, after, gd⟩ (isI (if n < m then n else m)) :=
 .run fun a w F s => by
  have e1 := evI hx a w F s
  have e2 := evI hy a w F s
  refine ⟨_, by simp only [execOp, resolve, invoke, builtin, Sem.run_bind]; simp [e1, e2, Sem.run_bind, run_min_int2]; rfl, ?_⟩
  have h1 := (hx a w F s).2
  have h2 := (hy a w F s).2
  split
  ·exact ⟨rfl, h2⟩
  ·exact ⟨rfl, h1⟩
theorem OK1.maxI (hx : Has E Γ M x (isI m)) (hy : Has E Γ M y (isI n)) : OK1 E P Γ M ⟨d, .call ⟨.builtin .max, #[x, y], ts⟩, ty, pos, after, gd⟩ (isI (if m < n then n else m)) :=
 .run fun a w F s => by
  have e1 := evI hx a w F s
  have e2 := evI hy a w F s
  refine ⟨_, by simp only [execOp, resolve, invoke, builtin, Sem.run_bind]; simp [e1, e2, Sem.run_bind, run_max_int2]; rfl, ?_⟩
  have h1 := (hx a w F s).2
  have h2 := (hy a w F s).2
  split
  ·exact ⟨rfl, h2⟩
  ·exact ⟨rfl, h1⟩
end
end Go.En
namespace Go.Proofs.YtcfobalbkhgdmaaGreat
open Go.En Go.RowKit
set_option maxRecDepth 10000
set_option maxHeartbeats 4000000
open Go.Nt
theorem one_word {B : Nat} (h : (List.length (words B)) = 1) : (words B).getD 0 0 = B := by
 rw [getD_words, dig_def, Nat.pow_zero, Nat.div_one, Nat.mod_eq_of_lt (lt_of_nw_le_one (by omega))]
theorem bits_int {A : Nat} (h : (List.length (words A)) ≠ 0) : 64 * (((List.length (words A)) : Int) - 1) + ((bitLen (dig A ((List.length (words A)) - 1)) : Nat) : Int) = ((bitLen A : Nat) : Int) := by
 have hA : A ≠ 0 := fun e => h (by rw [e, words_zero]; rfl)
 have := bits_words hA
 omega
theorem gcd_step {p q g : Nat} (h : Nat.gcd p q = g) : Nat.gcd q (p % q) = g := by rw [← h, Nat.gcd_comm p q, Nat.gcd_rec q p, Nat.gcd_comm]
theorem div_DivMod {xs ys : List Nat} (hx : (List.length (words (val xs))) < 4294800000) (hy : (List.length (words (val ys))) < 4294800000) : Ctr Tryz.prog 119 [isWords xs, isWords ys] (isTup [isWords (words (val xs / val ys)), isWords (words (if val ys = 0 then 0 else val xs % val ys)), isB (decide (val ys ≠ 0))]) := by
 refine Ctr.intro Tryz.func119 rfl (by kernel_rfl) Tryz.ntmps119 rfl fun w0 F0 => .cv (Cv.wk (.l [0, 1] rfl)) (.fact (Has.lenLt (Has.t (t := 0) rfl)) fun lt0 => .fact (Has.okW (Has.t (t := 0) rfl)) fun ok0 => .fact (Has.lenLt (Has.t (t := 1) rfl)) fun lt1 => .fact (Has.okW (Has.t (t := 1) rfl)) fun ok1 => .seq fun _ k1 => .region (st (.as (.cW (f := isU))) rfl (st (.as (.cW (f := isU))) rfl (st (.as (.cB false)) rfl (nl (.thn (k1 _ _ (.seq fun _ k2 => .region (st (.mv (.t rfl)) rfl (st (.eq (.call (nat_Norm (by omega)) (.cons (.t rfl) .nil)) (by rfl)) rfl (st (.mv (.t rfl)) rfl (st (.eq (.call (nat_Norm (by omega)) (.cons (.t rfl) .nil)) (by rfl)) rfl (st (.as (.t rfl)) rfl (st (.as (.t rfl)) rfl (nl (.thn (k2 _ _ (.seq fun _ k3 => .block (.seq fun _ k4 => .region (st (.mv (.t rfl)) rfl (st (.len sl34 (.t rfl)) rfl (st (.eqI (.t rfl) (.cI 0 rfl)) rfl (st (.as (.t rfl)) rfl (nl (.thn (k4 _ _ (.cv (Cv.wk (.l [0, 1, 4, 5, 6, 23] rfl)) (.cond (.t rfl) (fun hc1 => ?_) (fun hc1 => ?_)))))))))))))))))))))))))))))
 ·have hc1 := BP.t hc1
  refine .seq fun _ k5 => .region (st (.as (.cW (f := isU))) rfl (st (.as (.cW (f := isU))) rfl (st (.as (.cB false)) rfl (nl (.thn (k5 _ _ (.ret (.blr (.thr (rtN (.inl rfl) Tryz.results119 rfl rfl (.tmp (Has.t' rfl ?_) (.tmp (Has.t' rfl ?_) (.tmp (Has.t' rfl ?_) .nil)))))))))))))
  ·exact SlM_eq (by rw [bits_zero (A := val ys) (by omega), Nat.div_zero, words_zero])
  ·exact SlM_eq (by rw [if_pos (bits_zero (A := val ys) (by omega)), words_zero])
  ·exact isB_eq (by simp [bits_zero (show (List.length (words (val ys))) = 0 by omega)])
 ·have hc1 := BP.f hc1
  refine .seq fun _ k6 => .region (st (.mv (.t rfl)) rfl (st (.mv (.t rfl)) rfl (st (.eq (.call (nat_Cmp) (.cons (.t rfl) (.cons (.t rfl) .nil))) (by simp only [val_words]; rfl)) rfl ?_)))
  refine st (.ltI (.t rfl) (.cI 0 rfl)) rfl (st (.as (.t rfl)) rfl (nl (.thn (k6 _ _ (.cv (Cv.wk (.l [0, 1, 4, 5, 6, 27] rfl)) (.cond (.t rfl) (fun hc2 => ?_) (fun hc2 => ?_)))))))
  ·have hc2 := BP.t hc2
   have hlt := cmpN_neg.1 hc2
   refine .seq fun _ k7 => .region (st (.mv (.t rfl)) rfl (st (.as (.cW (f := isU))) rfl (st (.as (.t rfl)) rfl (st (.as (.cB true)) rfl (nl (.thn (k7 _ _ (.ret (.blr (.thr (rtN (.inl rfl) Tryz.results119 rfl rfl (.tmp (Has.t' rfl ?_) (.tmp (Has.t' rfl ?_) (.tmp (Has.t' rfl ?_) .nil))))))))))))))
   ·exact SlM_eq (by rw [Nat.div_eq_of_lt hlt, words_zero])
   ·exact SlM_eq (by rw [if_neg (by omega), Nat.mod_eq_of_lt hlt])
   ·exact isB_eq (by simp; omega)
  ·have hc2 := BP.f hc2
   have hle : val ys ≤ val xs := Nat.le_of_not_lt (fun h => by have := cmpN_neg.2 h; omega)
   refine .seq fun _ k8 => .region (st (.mv (.t rfl)) rfl (st (.len sl34 (.t rfl)) rfl (st (.eqI (.t rfl) (.cI 1 rfl)) rfl (st (.as (.t rfl)) rfl (nl (.thn (k8 _ _ (.cond (.t rfl) (fun hc3 => ?_) (fun hc3 => ?_)))))))))
   ·have hc3 := BP.t hc3
    have hB : val ys ≠ 0 := fun e => by rw [e, words_zero] at hc1; simp at hc1
    refine .seq fun _ k9 => .region (st (.mv (.t rfl)) rfl (st (.mv (.t rfl)) rfl (st (.ixP sl34 ty62 (.t rfl) (.cI 0 rfl) ⟨by omega, by omega⟩ (getD_some (d := 0) (by omega))) rfl (st (.eq (.loadP1 (.t rfl) ty62) ((show isU _ = isU (val ys) from isU_eq (one_word (by omega))))) rfl (st (.eq (.call (div_Small (by simp only [val_words]; omega)) (.cons (.t rfl) (.cons (.t rfl) .nil))) (by simp only [val_words]; rfl)) rfl ?_)))))
    refine st (.mv (.t rfl)) rfl (st (.ext (.t rfl) rfl) rfl (st (.ext (.t rfl) rfl) rfl (st (.ext (.t rfl) rfl) rfl (st (.as (.t rfl)) rfl (st (.as (.t rfl)) rfl (st (.as (.t rfl)) rfl (nl (.thn (k9 _ _ (.cv (Cv.wk (.l [0, 1, 4, 5, 6, 7, 8] rfl)) (.seq fun _ k10 => .region (st (.mv (.t rfl)) rfl (st (.mv (.t rfl)) rfl (st (.call (nat_Of) (.cons (.t rfl) .nil)) rfl (st (.as (.t rfl)) rfl (st (.as (.t rfl)) rfl (st (.as (.cB true)) rfl (nl (.thn (k10 _ _ (.cv (Cv.wk (.l [0, 1, 4, 5, 6] rfl)) (.ret (.blr (.thr (rtN (.inl rfl) Tryz.results119 rfl rfl (.tmp (Has.t' rfl ?_) (.tmp (Has.t' rfl ?_) (.tmp (Has.t' rfl ?_) .nil))))))))))))))))))))))))))))
    ·rfl
    ·rfl
    ·exact isB_eq (by simp [hB])
   ·have hc3 := BP.f hc3
    have hB : val ys ≠ 0 := fun e => by rw [e, words_zero] at hc1; simp at hc1
    obtain ⟨k, hk⟩ : ∃ k, k = 64 - bitLen (dig (val ys) ((List.length (words (val ys))) - 1)) := ⟨_, rfl⟩
    have D := dm hB hle hk
    have Dk := D.k64
    have Dv := D.v
    have Dw := D.w
    have Dl := D.le
    refine .skip (.bln (.thn (k3 _ _ (.cv (Cv.wk (.l [0, 1, 4, 5, 6] rfl)) (.seq fun _ k11 => .region (st (.mv (.t rfl)) rfl (st (.mv (.t rfl)) rfl (st (.len sl34 (.t rfl)) rfl (st (.subI (.t rfl) (.cI 1 rfl) (by omega) (by omega)) rfl (st (.ixP sl34 ty62 (.t rfl) (.t rfl) ⟨by omega, by omega⟩ (getD_some (d := 0) (by omega))) rfl (st (.eq (.loadP1 (.t rfl) ty62) ((show isU _ = isU (dig (val ys) ((List.length (words (val ys))) - 1)) from isU_eq (getV (by omega))))) rfl (st (.eq (.call (bits_LZ64) (.cons (.t rfl) .nil)) ((show isI _ = isI ((k : Nat) : Int) from isI_eq (by rw [hk])))) rfl (st (.as (.t rfl)) rfl (nl (.thn (k11 _ _ (.cv (Cv.wk (.l [0, 1, 4, 5, 6, 10] rfl)) (.seq fun _ k12 => .region (st (.mv (.t rfl)) rfl (st (.mv (.t rfl)) rfl (st (.eq (.call (nat_Shl (by omega) (by rw [val_words]; omega)) (.cons (.t rfl) (.cons (.t rfl) .nil))) (by simp only [val_words]; rfl)) rfl ?_)))))))))))))))))))))
    refine st (.mv (.t rfl)) rfl (st (.ext (.t rfl) rfl) rfl (st (.ext (.t rfl) rfl) rfl (st (.as (.t rfl)) rfl (st (.as (.t rfl)) rfl (nl (.thn (k12 _ _ (.cv (Cv.wk (.l [0, 4, 5, 6, 10, 11] rfl)) (.seq fun _ k13 => .region (st (.mv (.t rfl)) rfl (st (.mv (.t rfl)) rfl (st (.eq (.call (nat_Shl (by omega) (by rw [val_words]; omega)) (.cons (.t rfl) (.cons (.t rfl) .nil))) (by simp only [val_words]; rfl)) rfl ?_))))))))))))
    refine st (.mv (.t rfl)) rfl (st (.ext (.t rfl) rfl) rfl (st (.ext (.t rfl) rfl) rfl (st (.as (.t rfl)) rfl (st (.as (.t rfl)) rfl (nl (.thn (k13 _ _ (.cv (Cv.wk (.l [0, 4, 5, 6, 10, 11, 13] rfl)) (.seq fun _ k14 => .region (st (.mv (.t rfl)) rfl (st (.len sl34 (.t rfl)) rfl (st (.addI (.t rfl) (.cI 1 rfl) (by omega) (by omega)) rfl (.make (f := isU) (u := 0) (n := (List.length (words (val xs))) + 1) (c := (List.length (words (val xs))) + 1) sl34 ty62 zero62 (fun _ _ => ⟨⟨rfl, by decide⟩, trivial⟩) by62 (Has.t' rfl rfl) (Has.t' rfl rfl) ⟨by omega, by omega⟩ rfl fun b1 => st (.as (.t rfl)) rfl (nl (.thn (k14 _ _ (.cv (Cv.wk (.l [4, 5, 6, 10, 11, 13, 15] rfl)) (.seq fun _ k15 => .region (st (.mv (.t rfl)) rfl (st (.mv (.t rfl)) rfl (.copyW sl34 ty62 (fun _ => inferInstance) (.t rfl) (.t rfl) (i := 0) rfl ⟨Dw, by simp⟩ rfl (M' := [(some b1, cellM (List.map isU (wordsN ((List.length (words (val xs))) + 1) (val xs * 2 ^ k))))]) (memL_eq (copy_words Dw)) (nl (.thn (k15 _ _ (.seq fun _ k16 => .region (st (.mv (.t rfl)) rfl (st (.mv (.t rfl)) rfl (.callM (div_long (N := val xs * 2 ^ k) (v := val ys * 2 ^ k) (m := (List.length (words (val xs))) + 1) (by omega) (by omega) (by omega) D.lt) (i := 0) rfl (.cons (.t rfl) (.cons (.t rfl) .nil)) rfl (M' := [(_, _)]) rfl (st (.as (.t rfl)) rfl (nl (.thn (k16 _ _ (.cv (Cv.wk (.l [4, 5, 6, 10, 15, 16] rfl)) (.seq fun _ k17 => .cv (Cv.freeze' (t := 15) (i := 0) (ys := wordsN ((List.length (words (val xs))) + 1) (left (val xs * 2 ^ k) (val ys * 2 ^ k) 0)) rfl rfl rfl (by simp [wordsN_len]) (freeze_all (wordsN_len _ _).symm)) (.memEq (M' := []) rfl (.cv (Cv.wk (.l [4, 5, 6, 10, 15, 16] rfl)) ?_))))))))))))))))))))))))))))))))))))
    refine .region (st (.mv (.t rfl)) rfl ?_)
    refine st (.mv (.t rfl)) rfl (st (.call (nat_Shr (by omega) (by have := nw_val_wordsN ((List.length (words (val xs))) + 1) (left (val xs * 2 ^ k) (val ys * 2 ^ k) 0); omega)) (.cons (.t rfl) (.cons (.t rfl) .nil))) rfl ?_)
    refine st (.mv (.t rfl)) rfl (st (.ext (.t rfl) rfl) rfl (st (.ext (.t rfl) rfl) rfl (st (.as (.t rfl)) rfl (st (.as (.t rfl)) rfl (nl (.thn (k17 _ _ (.cv (Cv.wk (.l [4, 5, 6, 16, 17] rfl)) (.seq fun _ k18 => .region (st (.mv (.t rfl)) rfl ?_))))))))))
    refine st (.call (nat_Norm (by have := nw_val_wordsN ((List.length (words (val xs))) + 1 - (List.length (words (val ys * 2 ^ k)))) (val xs * 2 ^ k / (val ys * 2 ^ k)); omega)) (.cons (.t rfl) .nil)) rfl ?_
    refine st (.mv (.t rfl)) rfl (st (.as (.t rfl)) rfl (st (.as (.t rfl)) rfl (st (.as (.cB true)) rfl (nl (.thn (k18 _ _ (.cv (Cv.wk (.l [4, 5, 6] rfl)) (.ret (rtN (.inl rfl) Tryz.results119 rfl rfl (.tmp (Has.t' rfl ?_) (.tmp (Has.t' rfl ?_) (.tmp (Has.t' rfl ?_) .nil))))))))))))
    ·exact SlM_eq (dm_quo hB D rfl rfl)
    ·exact SlM_eq (by rw [if_neg hB, dm_rest hB D rfl])
    ·exact isB_eq (by simp [hB])
theorem div_Mod {xs ys : List Nat} (hx : (List.length (words (val xs))) < 4294800000) (hy : (List.length (words (val ys))) < 4294800000) : Ctr Tryz.prog 139 [isWords xs, isWords ys] (isTup [isWords (words (if val ys = 0 then 0 else val xs % val ys)), isB (decide (val ys ≠ 0))]) := by
 refine Ctr.intro Tryz.func139 rfl (by kernel_rfl) Tryz.ntmps139 rfl fun w0 F0 => .cv (Cv.wk (.l [0, 1] rfl)) (.fact (Has.lenLt (Has.t (t := 0) rfl)) fun lt0 => .fact (Has.okW (Has.t (t := 0) rfl)) fun ok0 => .fact (Has.lenLt (Has.t (t := 1) rfl)) fun lt1 => .fact (Has.okW (Has.t (t := 1) rfl)) fun ok1 => .seq fun _ k1 => .region (st (.as (.cW (f := isU))) rfl (st (.as (.cB false)) rfl (nl (.thn (k1 _ _ (.seq fun _ k2 => .region (st (.mv (.t rfl)) rfl (st (.mv (.t rfl)) rfl (st (.call (div_DivMod (by with_reducible assumption) (by with_reducible assumption)) (.cons (.t rfl) (.cons (.t rfl) .nil))) rfl (st (.mv (.t rfl)) rfl (st (.ext (.t rfl) rfl) rfl (st (.ext (.t rfl) rfl) rfl (st (.ext (.t rfl) rfl) rfl (st (.as (.t rfl)) rfl (st (.as (.t rfl)) rfl (st (.as (.t rfl)) rfl (nl (.thn (k2 _ _ (.cv (Cv.wk (.l [4, 5, 7, 8] rfl)) (.seq fun _ k3 => .region (st (.mv (.t rfl)) rfl (st (.mv (.t rfl)) rfl (st (.as (.t rfl)) rfl (st (.as (.t rfl)) rfl (nl (.thn (k3 _ _ (.ret (rtN (.inl rfl) Tryz.results139 rfl rfl (.tmp (Has.t' rfl ?_) (.tmp (Has.t' rfl ?_) .nil)))))))))))))))))))))))))))))))))
 all_goals (rfl)
theorem nat_Bits {xs : List Nat} (hx : (List.length (words (val xs))) < 4294967296) : Ctr Tryz.prog 85 [isWords xs] (isI ((bitLen (val xs) : Nat) : Int)) := by
 refine Ctr.intro Tryz.func85 rfl (by kernel_rfl) Tryz.ntmps85 rfl fun w0 F0 => .cv (Cv.wk (.l [0] rfl)) (.fact (Has.lenLt (Has.t (t := 0) rfl)) fun lt0 => .fact (Has.okW (Has.t (t := 0) rfl)) fun ok0 => .seq fun _ k1 => .region (st (.as (.cI 0 rfl)) rfl (nl (.thn (k1 _ _ (.seq fun _ k2 => .region (st (.mv (.t rfl)) rfl (st (.call (nat_trim) (.cons (.t rfl) .nil)) rfl (st (.as (.t rfl)) rfl (nl (.thn (k2 _ _ (.seq fun _ k3 => .seq fun _ k4 => .region (st (.mv (.t rfl)) rfl (st (.len sl34 (.t rfl)) rfl (st (.eqI (.t rfl) (.cI 0 rfl)) rfl (nl (.thn (k4 _ _ (.cond (.t rfl) (fun hc1 => ?_) (fun hc1 => ?_)))))))))))))))))))))
 ·have hc1 := BP.t hc1
  refine .seq fun _ k5 => .region (st (.as (.cI 0 rfl)) rfl (nl (.thn (k5 _ _ (.cv (Cv.wk (.l [0, 2] rfl)) (.ret (.thr (rt1 (.inl rfl) Tryz.results85 rfl (.tmp (Has.t' rfl ?_) .nil)))))))))
  all_goals (exact isI_eq (by rw [bits_zero (A := val xs) (by omega)]; rfl))
 ·have hc1 := BP.f hc1
  have hb := bits_int (A := val xs) (by omega)
  have hd := bitLen_le64 (dig_lt (val xs) ((List.length (words (val xs))) - 1))
  refine .skip (.thn (k3 _ _ (.cv (Cv.wk (.l [0, 2] rfl)) (.seq fun _ k6 => .region (st (.mv (.t rfl)) rfl (st (.len sl34 (.t rfl)) rfl (st (.subI (.t rfl) (.cI 1 rfl) (by omega) (by omega)) rfl (st (.mulI (.cI 64 rfl) (.t rfl) (by omega) (by omega)) rfl (st (.mv (.t rfl)) rfl (st (.mv (.t rfl)) rfl (st (.len sl34 (.t rfl)) rfl (st (.subI (.t rfl) (.cI 1 rfl) (by omega) (by omega)) rfl (st (.ixP sl34 ty62 (.t rfl) (.t rfl) ⟨by omega, by omega⟩ (getD_some (d := 0) (by omega))) rfl (st (.eq (.loadP1 (.t rfl) ty62) ((show isU _ = isU (dig (val xs) ((List.length (words (val xs))) - 1)) from isU_eq (getV (by omega))))) rfl (st (.call (bits_Len64) (.cons (.t rfl) .nil)) rfl (st (.addI (.t rfl) (.t rfl) (by omega) (by omega)) rfl (st (.as (.t rfl)) rfl (nl (.thn (k6 _ _ (.cv (Cv.wk (.l [2] rfl)) (.ret (rt1 (.inl rfl) Tryz.results85 rfl (.tmp (Has.t' rfl ?_) .nil))))))))))))))))))))))))
  all_goals (exact isI_eq (by omega))
theorem div_Gcd {xs ys : List Nat} (hx : (List.length (words (val xs))) < 4294800000) (hy : (List.length (words (val ys))) < 4294800000) : Ctr Tryz.prog 122 [isWords xs, isWords ys] (isWords (words (Nat.gcd (val xs) (val ys)))) := by
 refine Ctr.intro Tryz.func122 rfl (by kernel_rfl) Tryz.ntmps122 rfl fun w0 F0 => .cv (Cv.wk (.l [0, 1] rfl)) (.fact (Has.lenLt (Has.t (t := 0) rfl)) fun lt0 => .fact (Has.okW (Has.t (t := 0) rfl)) fun ok0 => .fact (Has.lenLt (Has.t (t := 1) rfl)) fun lt1 => .fact (Has.okW (Has.t (t := 1) rfl)) fun ok1 => .seq fun _ k1 => .region (st (.as (.cW (f := isU))) rfl (nl (.thn (k1 _ _ (.seq fun _ k2 => .region (st (.mv (.t rfl)) rfl (st (.eq (.call (nat_Norm (by omega)) (.cons (.t rfl) .nil)) (by rfl)) rfl (st (.mv (.t rfl)) rfl (st (.eq (.call (nat_Norm (by omega)) (.cons (.t rfl) .nil)) (by rfl)) rfl (st (.as (.t rfl)) rfl (st (.as (.t rfl)) rfl (nl (.thn (k2 _ _ (.seq fun _ k3 => .block (.loopF [4] (fun (z : { z : Nat × Nat // Nat.gcd z.1 z.2 = Nat.gcd (val xs) (val ys) ∧ (List.length (words z.1)) < 4294800000 ∧ (List.length (words z.2)) < 4294800000 }) => match z with | ⟨(p, q), hI⟩ => [(0, isWords (words p)), (1, isWords (words q))]) (fun M => fun (z : { z : Nat × Nat // Nat.gcd z.1 z.2 = Nat.gcd (val xs) (val ys) ∧ (List.length (words z.1)) < 4294800000 ∧ (List.length (words z.2)) < 4294800000 }) => match z with | ⟨(p, q), hI⟩ => M) (fun (z : { z : Nat × Nat // Nat.gcd z.1 z.2 = Nat.gcd (val xs) (val ys) ∧ (List.length (words z.1)) < 4294800000 ∧ (List.length (words z.2)) < 4294800000 }) => match z with | ⟨(p, q), hI⟩ => q) (⟨(val xs, val ys), rfl, hx, hy⟩) (Cv.mem (.c 0 rfl ?_ (.c 1 rfl ?_ (.l [4] rfl))) ?_) ?_)))))))))))))))))
 ·rfl
 ·rfl
 ·rfl
 rintro ⟨⟨p, q⟩, hI⟩ K4 hK4
 refine .cv (Cv.wk (.l [0, 1, 4] rfl)) ?_
 simp only [] at hI
 obtain ⟨g1, g2, g3⟩ := hI
 refine .seq fun _ k5 => .seq fun _ k6 => .region (st (.mv (.t rfl)) rfl (st (.len sl34 (.t rfl)) rfl (st (.gtI (.t rfl) (.cI 0 rfl)) rfl (nl (.thn (k6 _ _ (.cond (.t rfl) (fun hc1 => ?_) (fun hc1 => ?_))))))))
 ·have hc1 := BP.t hc1
  refine .skip (.thn (k5 _ _ (.block (.seq fun _ k7 => .region (st (.mv (.t rfl)) rfl (st (.mv (.t rfl)) rfl (st (.eq (.call (div_Mod (by simp only [val_words]; omega) (by simp only [val_words]; omega)) (.cons (.t rfl) (.cons (.t rfl) .nil))) (by simp only [val_words]; rfl)) rfl ?_)))))))
  refine st (.mv (.t rfl)) rfl (st (.ext (.t rfl) rfl) rfl (st (.ext (.t rfl) rfl) rfl (st (.as (.t rfl)) rfl (st (.as (.t rfl)) rfl (nl (.thn (k7 _ _ (.region (st (.mv (.t rfl)) rfl (st (.mv (.t rfl)) rfl (st (.as (.t rfl)) rfl (st (.as (.t rfl)) rfl (nl (.bln (.thn ?_)))))))))))))))
  have hq : q ≠ 0 := fun e => by rw [e, words_zero] at hc1; simp at hc1
  refine hK4 (⟨(q, p % q), gcd_step g1, g3, Nat.lt_of_le_of_lt (nw_mono (Nat.le_of_lt (Nat.mod_lt _ (by omega)))) g3⟩) _ _ ?_ (Cv.mem (.c 0 rfl ?_ (.c 1 rfl ?_ (.l [4] rfl))) ?_)
  ·show p % q < q; exact Nat.mod_lt _ (by omega)
  ·rfl
  ·exact SlM_eq (by rw [if_neg hq])
  ·rfl
 ·have hc1 := BP.f hc1
  refine .exit (.the (.the (.blh (.thn (k3 _ _ (.seq fun _ k8 => .region (st (.mv (.t rfl)) rfl (st (.as (.t rfl)) rfl (nl (.thn (k8 _ _ (.cv (Cv.wk (.l [4] rfl)) (.ret (rt1 (.inl rfl) Tryz.results122 rfl (.tmp (Has.t' rfl ?_) .nil)))))))))))))))
  all_goals (obtain rfl : q = 0 := bits_zero (by omega); exact SlM_eq (by rw [← g1, Nat.gcd_zero_right]))
theorem gcd_le_max (a b : Nat) : Nat.gcd a b ≤ max a b := by
 rcases Nat.eq_zero_or_pos a with h | h
 ·subst h; rw [Nat.gcd_zero_left]; exact Nat.le_max_right _ _
 ·exact Nat.le_trans (Nat.gcd_le_left b h) (Nat.le_max_left _ _)
theorem nw_max (a b : Nat) : (List.length (words (max a b))) ≤ max ((List.length (words a))) ((List.length (words b))) := by
 rcases Nat.le_total a b with h | h
 ·rw [Nat.max_eq_right h]; omega
 ·rw [Nat.max_eq_left h]; omega
end Go.Proofs.YtcfobalbkhgdmaaGreat
namespace Go.En
open Go.RowKit
section
variable {E : Env} {P : Program} {Γ : Ctx} {M : Mem} {ty : TypeId} {pos : String} {after : Array Edge} {gd : Option (Nat × Bool)} {d : Option Tmp}
 {ops : Array Oper} {Q : Exit → Act → World → Prop} {rest : List Oper} {T T' : TypeId} {x y : Operand} {α : Type} {f : α → VP} {fk : α → List VP} {xs : List α} {k : Nat}
theorem flat_len (hk : ∀ y, (fk y).length = k) : ∀ (xs : List α), (xs.flatMap fk).length = xs.length * k
 | [] => by simp
 | a :: l => by rw [List.flatMap_cons, List.length_append, hk, flat_len hk l, List.length_cons, Nat.succ_mul]; omega
theorem flat_take (hk : ∀ y, (fk y).length = k) : ∀ (n : Nat) (xs : List α), (xs.flatMap fk).take (n * k) = (xs.take n).flatMap fk
  | 0, xs => by simp
  | n + 1, [] => by simp
  | n + 1, a :: l => by
    rw [List.flatMap_cons, List.take_succ_cons, List.flatMap_cons, Nat.succ_mul, Nat.add_comm, ← hk a, List.take_length_add_append, hk a, flat_take hk n l]
theorem flat_skip (hk : ∀ y, (fk y).length = k) : ∀ (n : Nat) (xs : List α), (xs.flatMap fk).drop (n * k) = (xs.drop n).flatMap fk
  | 0, xs => by simp
  | n + 1, [] => by simp
  | n + 1, a :: l => by
    rw [List.flatMap_cons, List.drop_succ_cons, Nat.succ_mul, Nat.add_comm, ← hk a, List.drop_length_add_append, hk a, flat_skip hk n l]
theorem flat_part (hk : ∀ y, (fk y).length = k) (l h : Nat) (xs : List α) : ((xs.flatMap fk).take (h * k)).drop (l * k) = ((xs.take h).drop l).flatMap fk := by
 rw [flat_take hk, flat_skip hk]
theorem SlK_of {n : Nat} {Ss : List VP} {xs : List α} (h1 : n = xs.length) (h2 : Ss = xs.flatMap fk) : SlL k n Ss = SlK k fk xs := by subst h1; subst h2; rfl
theorem OK1.slLK {e : TypeId} {g : Bool} {z : Int} (hT : slB P T = some e) (ht : tyB P e = some (k, g)) (hk : ∀ y, (fk y).length = k) (hx : Has E Γ M x (SlK k fk xs)) (hy : Has E Γ M y (isI z)) (h : 0 ≤ z ∧ z ≤ xs.length) :
  OK1 E P Γ M ⟨d, .slice T x (some y) none none, ty, pos, after, gd⟩ (SlK k fk (xs.drop z.toNat)) :=
 OK1.slG (l := z.toNat) (h := xs.length) hT ht hx (fun a w F s cap hc => by
  simp only [Instr.sliceBounds, Option.map_some, Option.map_none, evI hy a w F s, Sem.run_bind, Sem.run_pure, Result.andThen_ok, run_bound h.1 h.2]) (by omega) (Nat.le_refl _)
  (SlK_of (by simp) (by rw [flat_part hk, List.take_length]))
theorem OK1.slHK {e : TypeId} {g : Bool} {z : Int} (hT : slB P T = some e) (ht : tyB P e = some (k, g)) (hk : ∀ y, (fk y).length = k) (hx : Has E Γ M x (SlK k fk xs)) (hy : Has E Γ M y (isI z)) (h : 0 ≤ z ∧ z ≤ xs.length) :
  OK1 E P Γ M ⟨d, .slice T x none (some y) none, ty, pos, after, gd⟩ (SlK k fk (xs.take z.toNat)) :=
 OK1.slG (l := 0) (h := z.toNat) hT ht hx (fun a w F s cap hc => by
  simp only [Instr.sliceBounds, Option.map_some, Option.map_none, evI hy a w F s, Sem.run_bind, Sem.run_pure, Result.andThen_ok, run_bound h.1 (show z ≤ (cap : Int) by omega)]) (by omega) (by omega)
  (SlK_of (by simp; omega) (by rw [flat_part hk, List.drop_zero]))
theorem All2.rep {z : List VP} {vs : List Value} {w : World} {F : Blk} (h : All2 z w F vs) : ∀ c, All2 ((List.replicate c z).flatten) w F ((List.replicate c vs).flatten)
 | 0 => trivial
 | c + 1 => by rw [List.replicate_succ, List.replicate_succ, List.flatten_cons, List.flatten_cons]; exact All2.append h (All2.rep h c)
theorem rep_flat {u : α} : ∀ c, (List.replicate c u).flatMap fk = (List.replicate c (fk u)).flatten
 | 0 => rfl
 | c + 1 => by rw [List.replicate_succ, List.replicate_succ, List.flatMap_cons, List.flatten_cons, rep_flat c]
theorem Ops.makeK {d : Nat} {e : TypeId} {g : Bool} {z : Value} {n c : Nat} {u : α} (hT : slB P T = some e) (ht : tyB P e = some (k, g)) (hz : zeroB P e = some z) (hZ : ∀ w F, All2 (fk u) w F z.cells.toList) (hk : ∀ y, (fk y).length = k) (hby : byLe P e 1024 = true)
  (hx : Has E Γ M x (isI (n : Int))) (hy : Has E Γ M y (isI (c : Int))) (hn : n ≤ c ∧ c ≤ 4294967296) (hd : Nat.blt d E.n = true)
  (kk : ∀ b, Ops E P ops Q rest ((d, isWin b 0 n c) :: Γ) ((some b, cellM ((List.replicate c u).flatMap fk)) :: M)) : Ops E P ops Q (⟨some d, .makeSlice T x y, ty, pos, after, none⟩ :: rest) Γ M := by
 intro a w F s
 refine wpList_plain rfl fun K hK => ?_
 unfold Oper.wp
 have hm : z.cells.size = k := by have := (hZ w F).len; rw [hk] at this; simpa using this.symm
 obtain ⟨i, hi, hb⟩ : ∃ i, P.info? e = some i ∧ i.bytes ≤ 1024 := by
  unfold byLe at hby
  cases hi : P.info? e with
  | none => simp [hi] at hby
  | some i => rw [hi] at hby; exact ⟨i, rfl, Nat.le_of_ble_eq_true hby⟩
 have hr : (execOp a.eval (⟨some d, .makeSlice T x y, ty, pos, after, none⟩ : Oper)).run P w = .ok (.value (.slice (some ⟨w.heap.size, 0, none⟩) n c)) { w with heap := w.heap.push (.cells ((List.replicate c z.cells.toList).flatten).toArray e) } := by
  simp only [execOp, evI hx a w F s, evI hy a w F s, Sem.run_bind, run_make hT ht hz hi hb hn.1 hn.2 hm, Result.andThen_ok, Sem.run_pure]
 rw [hr]
 have hall : All2 ((List.replicate c u).flatMap fk) w F ((List.replicate c z.cells.toList).flatten) := by rw [rep_flat]; exact (hZ w F).rep c
 have s1 := s.alloc (T := e) hall
 have hd' : d < E.n := by simpa [Nat.blt_eq] using hd
 exact hK _ _ (kk w.heap.size _ _ F (s1.put hd' ⟨rfl, hn.1, by rw [maxLen_eq]; omega⟩))
theorem flat_set (hk : ∀ y, (fk y).length = k) (z : α) : ∀ (j : Nat) (xs : List α), j < xs.length → (xs.flatMap fk).take (j * k) ++ fk z ++ (xs.flatMap fk).drop (j * k + k) = (xs.set j z).flatMap fk
  | j, xs, hj => by
    rw [← Nat.succ_mul, flat_take hk, flat_skip hk, List.set_eq_take_append_cons_drop, if_pos hj, List.flatMap_append, List.flatMap_cons, List.append_assoc]
theorem Ops.storeK {b i j : Nat} {g : Bool} {T : TypeId} {S : VP} {z : α} [sh : Shape S (fk z)] [o1 : Ones (fk z)] (hk : ∀ y, (fk y).length = k) (hx : Has E Γ M x (isPtr b (j * k))) (hy : Has E Γ M y S)
  (hM : M[i]? = some (some b, cellM (xs.flatMap fk))) (hT : tyB P T = some (k, g)) (hl : j < xs.length) {M' : Mem}
  (hM' : M.set i (some b, cellM ((xs.set j z).flatMap fk)) = M') (kk : Ops E P ops Q rest Γ M') : Ops E P ops Q (⟨none, .store T x y, ty, pos, after, none⟩ :: rest) Γ M :=
 Ops.store (Ss1 := fk z) hx hy hM hT (by rw [hk, Nat.beq_eq]) (by
  rw [Nat.ble_eq, flat_len hk, ← Nat.succ_mul]; exact Nat.mul_le_mul_right k hl) (Ss' := (xs.set j z).flatMap fk) (flat_set hk z j xs hl) hM' kk
theorem Cv.freezeL {t b o n c i : Nat} {Ss : List VP} (hW : E.W = []) (ht : look Γ t = some (isWin b o n c)) (hM : M[i]? = some (some b, cellM Ss)) (hl : o + n * k ≤ Ss.length) : Cv E Γ M ((t, SlL k n ((Ss.drop o).take (n * k))) :: Γ) (M.eraseIdx i) := by
  intro a w F s
  obtain ⟨h1, h2, h3, ob, h4, vs, T', rfl, hv⟩ := s.mem.each b _ (List.mem_of_getElem? hM)
  refine ⟨fun k => F k ∨ k = b, ?_⟩
  have hsub : ∀ k, F k → (F k ∨ k = b) := fun k hk => .inl hk
  have hi : i < M.length := by
    rcases Nat.lt_or_ge i M.length with h | h
    · exact h
    · rw [List.getElem?_eq_none h] at hM; cases hM
  have hMi : M[i] = (some b, cellM Ss) := by rw [List.getElem?_eq_getElem hi] at hM; exact Option.some.inj hM
  have hbW : E.w0.heap.size ≤ b := h1.resolve_right (by rw [hW]; simp)
  obtain ⟨e1, e2, e3⟩ := s.slots t _ ht
  · refine { defers := s.defers, size := s.size, keep := s.keep, f0 := fun k hk => .inl (s.f0 k hk), fnew := ?_, flt := ?_, slots := ?_, mem := ⟨s.mem.apart.sublist (List.eraseIdx_sublist _ _), ?_⟩ }
    · rintro k (hk | rfl)
      · exact s.fnew k hk
      · exact .inr ⟨hbW, h2⟩
    · rintro k (hk | rfl)
      · exact s.flt k hk
      · exact h2
    · intro t' S' ht'
      simp only [look] at ht'
      cases hb : Nat.beq t t' with
      | false => rw [hb] at ht'; exact S'.mono _ _ _ _ _ (s.slots t' S' ht') (fun _ _ => rfl) hsub
      | true =>
        rw [hb] at ht'
        obtain rfl : SlL k n ((Ss.drop o).take (n * k)) = S' := by simpa using ht'
        obtain rfl := Nat.eq_of_beq_eq_true hb
        have hlen : ((Ss.drop o).take (n * k)).length = n * k := by rw [List.length_take, List.length_drop]; omega
        refine ⟨some ⟨b, o, none⟩, c, e1, e2, e3, hlen, ?_⟩
        right
        refine ⟨b, o, rfl, .inr rfl, (vs.drop o).take (n * k), All2.mono (fun _ _ => rfl) hsub _ _ ((hv.drop o).take (n * k)), fun j u hj => ?_⟩
        have hjn : j < n * k := by
          rcases Nat.lt_or_ge j (n * k) with h | h
          · exact h
          · rw [List.getElem?_take_eq_none h] at hj; cases hj
        rw [List.getElem?_take_of_lt hjn, List.getElem?_drop] at hj
        simp [World.cell?, h4, hj]
    · intro k C hk
      obtain ⟨j, hji, hj⟩ := List.mem_eraseIdx_iff_getElem?.1 hk
      obtain ⟨g1, g2, g3, o2, g4, g5⟩ := s.mem.each k C (List.mem_of_getElem? hj)
      have hkb : k ≠ b := by
        intro e; subst e
        have hjl : j < M.length := by
          rcases Nat.lt_or_ge j M.length with h | h
          · exact h
          · rw [List.getElem?_eq_none h] at hj; cases hj
        have hMj : M[j] = (some k, C) := by rw [List.getElem?_eq_getElem hjl] at hj; exact Option.some.inj hj
        rcases Nat.lt_or_gt_of_ne hji with hlt | hlt
        · have hp := List.pairwise_iff_getElem.1 s.mem.apart j i hjl hi hlt
          rw [hMi, hMj] at hp; simp at hp
        · have hp := List.pairwise_iff_getElem.1 s.mem.apart i j hi hjl hlt
          rw [hMi, hMj] at hp; simp at hp
      exact ⟨g1, g2, fun h => h.elim g3 hkb, o2, g4, C.mono _ _ _ _ _ g5 (fun _ _ => rfl) hsub⟩
theorem Cv.freezeK {t b n c i : Nat} {ys : List α} (hk : ∀ y, (fk y).length = k) (hW : E.W = []) (ht : look Γ t = some (isWin b 0 n c)) (hM : M[i]? = some (some b, cellM (xs.flatMap fk))) (hl : n ≤ xs.length) (he : xs.take n = ys) :
  Cv E Γ M ((t, SlK k fk ys) :: Γ) (M.eraseIdx i) := by
 have h := Cv.freezeL (E := E) (k := k) hW ht hM (by rw [flat_len hk, Nat.zero_add]; exact Nat.mul_le_mul_right k hl)
 rw [List.drop_zero, flat_take hk, he] at h
 rwa [SlK_of (by rw [← he, List.length_take]; omega) rfl] at h
def grMK (fk : α → List VP) (g : Gr α) (ys : List α) : Option Nat × MP := (g.ob, cellM ((ys ++ g.sp).flatMap fk))
theorem Cv.grow0K (fk : α → List VP) : Cv E Γ M Γ (grMK fk Gr.nil [] :: M) := fun a w F s =>
 ⟨F, { s with mem := ⟨List.Pairwise.cons (fun x hx => .inl rfl) s.mem.apart, fun b C hb => by
  rcases List.mem_cons.1 hb with e | hb
  ·cases e
  ·exact s.mem.each b C hb⟩ }⟩
theorem All2.ofFlat {w : World} {F : Blk} {vs : List Value} (hk : ∀ y, (fk y).length = k) (h : All2 (xs.flatMap fk) w F vs) : vs.length = xs.length * k := by
 rw [← h.len, flat_len hk]
theorem Ops.appendGK {d i : Nat} {e : TypeId} {g0 : Bool} {z : Value} {u : α} {g : Gr α} {ys zs : List α} (hk : ∀ y, (fk y).length = k) (hk0 : 0 < k) (h1 : ∀ u, Ones (fk u)) (hT : slB P T = some e) (ht : tyB P e = some (k, g0)) (hz : zeroB P e = some z) (hZ : ∀ w F, All2 (fk u) w F z.cells.toList) (hby : byLe P e 1024 = true)
  (hx : Has E Γ M x (isGr g ys.length)) (hM : M[i]? = some (grMK fk g ys)) (hy : Has E Γ M y (SlK k fk zs)) (hn' : ys.length + zs.length ≤ 4294967296) (h0 : 0 < zs.length) (hd : Nat.blt d E.n = true)
  (kk : ∀ g' : Gr α, Ops E P ops Q rest ((d, isGr g' (ys.length + zs.length)) :: Γ) (M.set i (grMK fk g' (ys ++ zs)))) :
  Ops E P ops Q (⟨some d, .call ⟨.builtin .append, #[x, y], #[T, T]⟩, ty, pos, after, none⟩ :: rest) Γ M := by
 intro a w F s
 refine wpList_plain rfl fun K hK => ?_
 have hd' : d < E.n := by simpa [Nat.blt_eq] using hd
 obtain ⟨a1, cap, e2, g1, g2, g3, g4⟩ := hy a w F s
 have hu := slB_under hT
 obtain ⟨inf, hi, hb⟩ : ∃ i, P.info? e = some i ∧ i.bytes ≤ 1024 := by
  unfold byLe at hby
  cases hi : P.info? e with
  | none => simp [hi] at hby
  | some i => rw [hi] at hby; exact ⟨i, rfl, Nat.le_of_ble_eq_true hby⟩
 have hsz : inf.size = k := by
  have := run_size (P := P) (w := w) ht
  simp [sizeOf, typeInfo, go_sem, hi] at this; exact this
 have hzz : inf.zero = some z := by unfold zeroB at hz; rw [hi] at hz; simpa using hz
 have hone : z.cells.size = k := by have := (hZ w F).len; rw [hk] at this; simpa using this.symm
 have hzs : ∀ k, (Builtin.zeroCells z.cells k).toList = (List.replicate k z.cells.toList).flatten := fun k => by
  unfold Builtin.zeroCells
  rw [make_flat rfl]
 have hall : ∀ c, All2 ((List.replicate c u).flatMap fk) w F ((List.replicate c z.cells.toList).flatten) := fun c => by rw [rep_flat]; exact (hZ w F).rep c
 rcases g4 with g4 | ⟨b1, off, rfl, hF, vs, hv, hc⟩
 ·omega
 have hlen := hv.ofFlat hk
 have hnews : ∀ j u, vs[j]? = some u → w.cell? ((⟨b1, off, none⟩ : Addr).add j) = some u := fun j u hj => by rw [add_mk]; exact hc j u hj
 have hnl : vs.length = zs.length * inf.size := by rw [hsz]; exact hlen
 -- a new row
 have hfresh : ∀ (olds : List Value), All2 (ys.flatMap fk) w F olds → ∀ cp, ys.length + zs.length ≤ cp → cp ≤ maxLen →
   K (a.put (some d) (.slice (some ⟨w.heap.size, 0, none⟩) (ys.length + zs.length) cp)) { w with heap := w.heap.push (.cells (olds ++ vs ++ (Builtin.zeroCells z.cells (cp - (ys.length + zs.length))).toList).toArray e), drawn := w.drawn + 1 } := by
  intro olds ho cp h1 h2
  have hcs : All2 ((ys ++ zs ++ List.replicate (cp - (ys.length + zs.length)) u).flatMap fk) w F (olds ++ vs ++ (Builtin.zeroCells z.cells (cp - (ys.length + zs.length))).toList) := by
   rw [List.flatMap_append, List.flatMap_append, hzs]; exact All2.append (All2.append ho hv) (hall _)
  have s1 := (s.adv (Adv.drew w F)).alloc (T := e) (All2.mono (w := w) (w' := { w with drawn := w.drawn + 1 }) (fun _ _ => rfl) (fun _ h => h) _ _ hcs)
  refine hK _ _ (kk ⟨some w.heap.size, cp, List.replicate (cp - (ys.length + zs.length)) u⟩ _ _ F ((s1.swap (i := i)).put hd' (.inr ⟨_, rfl, rfl, ?_, h2⟩)))
  simp; omega
 unfold Oper.wp
 have hml : ys.length + zs.length ≤ maxLen := by rw [maxLen_eq]; omega
 rcases hx a w F s with ⟨hob, hyl, e1⟩ | ⟨b, hob, e1, hcap, hcm0⟩
 ·have hbytes : zs.length * inf.bytes ≤ 281474976710656 := by have := Nat.mul_le_mul (show zs.length ≤ 4294967296 by omega) hb; omega
  have hy0 : ys = [] := List.eq_nil_of_length_eq_zero hyl
  have hr := run_append_nil (P := P) w T ty e inf z hu hi hzz ⟨b1, off, none⟩ zs.length cap vs hnl hnews (by omega) (by omega) hbytes
  have hf := hfresh [] (by rw [hy0]; trivial) (grownCap w zs.length 0 e) (by rw [hyl, Nat.zero_add]; exact grownCap_ge _ _ _ _) (grownCap_le_maxLen _ _ _ _ (by omega))
  rw [hyl, Nat.zero_add, List.nil_append] at hf
  have hr2 : (execOp a.eval (⟨some d, .call ⟨.builtin .append, #[x, y], #[T, T]⟩, ty, pos, after, none⟩ : Oper)).run P w = .ok (.value (.slice (some ⟨w.heap.size, 0, none⟩) zs.length (grownCap w zs.length 0 e))) { w with heap := w.heap.push (.cells (vs ++ (Builtin.zeroCells z.cells (grownCap w zs.length 0 e - zs.length)).toList).toArray e), drawn := w.drawn + 1 } := by
   have earr : vs.toArray ++ Builtin.zeroCells z.cells (grownCap w zs.length 0 e - zs.length) = (vs ++ (Builtin.zeroCells z.cells (grownCap w zs.length 0 e - zs.length)).toList).toArray := by apply Array.ext'; simp
   simp only [execOp, resolve, invoke, builtin, Sem.run_bind]
   rw [← earr]
   simp [e1, e2, Sem.run_bind, hr]
   first | rfl | exact ⟨rfl, rfl⟩ | done
  rw [hr2]
  exact hf
 ·have hM' : M[i]? = some (some b, cellM ((ys ++ g.sp).flatMap fk)) := by rw [hM]; unfold grMK; rw [hob]
  obtain ⟨o, ho, us, T', rfl, hus⟩ := mem_at s hM'
  have husl := hus.ofFlat hk
  rw [List.length_append] at husl
  have hyk : ys.length * k ≤ us.length := by rw [husl]; exact Nat.mul_le_mul_right k (by omega)
  rcases Nat.lt_or_ge g.c (ys.length + zs.length) with hg | hg
  ·have holds : All2 (ys.flatMap fk) w F (us.take (ys.length * k)) := by
    have := hus.take (ys.length * k)
    rwa [flat_take hk, List.take_left' rfl] at this
   have hcell : ∀ j u, (us.take (ys.length * k))[j]? = some u → w.cell? ((⟨b, 0, none⟩ : Addr).add j) = some u := fun j u hj => by
    have hjl : j < ys.length * k := by
     rcases Nat.lt_or_ge j (ys.length * k) with h | h
     ·exact h
     ·rw [List.getElem?_take_eq_none h] at hj; cases hj
    rw [List.getElem?_take_of_lt hjl] at hj
    rw [add_mk]
    simp only [World.cell?, ho, Nat.zero_add]
    simpa using hj
   have hfit : Builtin.nextslicecap (ys.length + zs.length) g.c * inf.bytes ≤ 281474976710656 := by
    have h1 := nextslicecap_le hg
    have h2 := Nat.mul_le_mul (Nat.le_trans h1 (show 2 * (ys.length + zs.length) ≤ 8589934592 by omega)) hb
    omega
   have hr := run_append_grow (P := P) w T ty e inf z hu hi hzz ⟨b, 0, none⟩ ys.length g.c (us.take (ys.length * k)) (by rw [List.length_take, hsz]; omega) hcell ⟨b1, off, none⟩ zs.length cap vs hnl hnews hg (by omega) hfit
   have hf := hfresh _ holds (grownCap w (ys.length + zs.length) g.c e) (grownCap_ge _ _ _ _) (grownCap_le_maxLen _ _ _ _ hml)
   have hr2 : (execOp a.eval (⟨some d, .call ⟨.builtin .append, #[x, y], #[T, T]⟩, ty, pos, after, none⟩ : Oper)).run P w = .ok (.value (.slice (some ⟨w.heap.size, 0, none⟩) (ys.length + zs.length) (grownCap w (ys.length + zs.length) g.c e))) { w with heap := w.heap.push (.cells (us.take (ys.length * k) ++ vs ++ (Builtin.zeroCells z.cells (grownCap w (ys.length + zs.length) g.c e - (ys.length + zs.length))).toList).toArray e), drawn := w.drawn + 1 } := by
    have earr : (us.take (ys.length * k)).toArray ++ vs.toArray ++ Builtin.zeroCells z.cells (grownCap w (ys.length + zs.length) g.c e - (ys.length + zs.length)) = (us.take (ys.length * k) ++ vs ++ (Builtin.zeroCells z.cells (grownCap w (ys.length + zs.length) g.c e - (ys.length + zs.length))).toList).toArray := by apply Array.ext'; simp
    simp only [execOp, resolve, invoke, builtin, Sem.run_bind]
    rw [← earr]
    simp [e1, e2, Sem.run_bind, hr]
    first | rfl | exact ⟨rfl, rfl⟩ | done
   rw [hr2]
   exact hf
  ·have hvone : ∀ v ∈ vs, v.oneCell' = true := hv.one (fun S hS => by obtain ⟨u, _, hu⟩ := List.mem_flatMap.1 hS; exact (h1 u).ones S hu)
   have hsum : ys.length * k + vs.length ≤ us.length := by
    rw [hlen, husl, ← Nat.add_mul]; exact Nat.mul_le_mul_right k (by omega)
   have hst := run_storeCells_at P b (ys.length * k) T' vs 0 us.toArray w ho (by simp; omega) hvone
   simp only [Nat.add_zero] at hst
   have hfc := run_firstCells_some (P := P) w k zs.length ⟨b1, off, none⟩ zs.length cap vs (by rw [hlen]) hnews
   have hr : (Builtin.append_ #[T, T] ty #[.slice (some ⟨b, 0, none⟩) ys.length g.c, .slice (some ⟨b1, off, none⟩) zs.length cap]).run P w = .ok (.slice (some ⟨b, 0, none⟩) (ys.length + zs.length) g.c) (w.setRow b (us.take (ys.length * k) ++ vs ++ us.drop (ys.length * k + vs.length)).toArray) := by
    have hst' : (storeCells ⟨b, ys.length * k, none⟩ vs).run P w = .ok () (w.setRow b (us.take (ys.length * k) ++ vs ++ us.drop (ys.length * k + vs.length)).toArray) := by simpa using hst
    simp [Builtin.append_, run_underlying hu, sizeOf, typeInfo, hi, hsz, Builtin.lenOf, hg, hfc, Addr.add_lit, hst']
   have hr2 : (execOp a.eval (⟨some d, .call ⟨.builtin .append, #[x, y], #[T, T]⟩, ty, pos, after, none⟩ : Oper)).run P w = .ok (.value (.slice (some ⟨b, 0, none⟩) (ys.length + zs.length) g.c)) (w.setRow b (us.take (ys.length * k) ++ vs ++ us.drop (ys.length * k + vs.length)).toArray) := by
    simp only [execOp, resolve, invoke, builtin, Sem.run_bind]
    simp [e1, e2, Sem.run_bind, hr]
   rw [hr2]
   have hF : ∀ k', F k' → (w.setRow b (us.take (ys.length * k) ++ vs ++ us.drop (ys.length * k + vs.length)).toArray).heap[k']? = w.heap[k']? := fun k' hk' => setRow_ne _ _ _ _ (fun e => by
    subst e; exact (s.mem.each k' _ (List.mem_of_getElem? hM')).2.2.1 hk')
   have hnew : All2 ((ys ++ zs ++ g.sp.drop zs.length).flatMap fk) w F (us.take (ys.length * k) ++ vs ++ us.drop (ys.length * k + vs.length)) := by
    have e1 := hus.take (ys.length * k)
    rw [flat_take hk, List.take_left' rfl] at e1
    have e2 := hus.drop (ys.length * k + vs.length)
    rw [hlen, ← Nat.add_mul, flat_skip hk, List.drop_append, List.drop_of_length_le (by omega), List.nil_append, Nat.add_sub_cancel_left] at e2
    rw [List.flatMap_append, List.flatMap_append, hlen, ← Nat.add_mul]
    exact (e1.append hv).append e2
   refine hK _ _ (kk ⟨some b, g.c, g.sp.drop zs.length⟩ _ _ F ?_)
   exact (s.write (w' := w.setRow b (us.take (ys.length * k) ++ vs ++ us.drop (ys.length * k + vs.length)).toArray) (C' := cellM ((ys ++ zs ++ g.sp.drop zs.length).flatMap fk)) hM' rfl rfl rfl (setRow_size _ _ _) (fun k hk => setRow_ne _ _ _ _ hk) (setRow_heap _ _ _ _ _ _ ho) ⟨_, T', rfl, All2.mono hF (fun _ h => h) _ _ hnew⟩).put hd' (.inr ⟨b, rfl, rfl, by simp; omega, hcm0⟩)
theorem nilK {w : World} {F : Blk} : (SlK k fk ([] : List α)).h w F (.slice none 0 0) := ⟨none, 0, rfl, Nat.le_refl _, by rw [maxLen_eq]; omega, by simp, .inl rfl⟩
theorem Cv.freezeGK {t i : Nat} {g : Gr α} {ys : List α} (hk : ∀ y, (fk y).length = k) (hW : E.W = []) (ht : look Γ t = some (isGr g ys.length)) (hM : M[i]? = some (grMK fk g ys)) : Cv E Γ M ((t, SlK k fk ys) :: Γ) (M.eraseIdx i) := by
  intro a w F s
  rcases id (s.slots t _ ht) with ⟨hob, hyl, e1⟩ | ⟨b, hob, e1, hcap, hcm0⟩
  · refine ⟨F, { s with slots := ?_, mem := ⟨s.mem.apart.sublist (List.eraseIdx_sublist _ _), fun k C hk => s.mem.each k C ((List.eraseIdx_sublist _ _).subset hk)⟩ }⟩
    intro t' S' ht'
    simp only [look] at ht'
    cases hb : Nat.beq t t' with
    | false => rw [hb] at ht'; exact s.slots t' S' ht'
    | true =>
      rw [hb] at ht'
      obtain rfl : SlK k fk ys = S' := by simpa using ht'
      obtain rfl := Nat.eq_of_beq_eq_true hb
      rw [e1, List.eq_nil_of_length_eq_zero hyl]
      exact nilK
  · have hM' : M[i]? = some (some b, cellM ((ys ++ g.sp).flatMap fk)) := by rw [hM]; unfold grMK; rw [hob]
    have s2 : Sat E ((t, isWin b 0 ys.length g.c) :: Γ) M a w F := s.wider (fun t' S' ht' => by
      simp only [look] at ht'
      cases hb : Nat.beq t t' with
      | false => rw [hb] at ht'; exact s.slots t' S' ht'
      | true =>
        rw [hb] at ht'
        obtain rfl : isWin b 0 ys.length g.c = S' := by simpa using ht'
        obtain rfl := Nat.eq_of_beq_eq_true hb
        exact ⟨e1, by omega, hcm0⟩)
    obtain ⟨F', s3⟩ := Cv.freezeK (Γ := (t, isWin b 0 ys.length g.c) :: Γ) (t := t) (b := b) (n := ys.length) (c := g.c) hk hW (by simp [look, nbeq_self]) hM' (by simp) (List.take_left' rfl) a w F s2
    refine ⟨F', s3.wider fun t' S' ht' => ?_⟩
    simp only [look] at ht'
    refine s3.slots t' S' ?_
    simp only [look]
    cases hb : Nat.beq t t' with
    | false => rw [hb] at ht'; simpa using ht'
    | true => rw [hb] at ht'; simpa using ht'
theorem grMK_eq {g : Gr α} {ys ys' : List α} {r : Mem} (h : ys = ys') : (grMK fk g ys :: r : Mem) = grMK fk g ys' :: r := h ▸ rfl
theorem SlK_eq {xs xs' : List α} (h : xs = xs') : SlK k fk xs = SlK k fk xs' := h ▸ rfl
end
end Go.En
namespace Go.En
open Go.RowKit
section
variable {E : Env} {P : Program} {Γ : Ctx} {M : Mem} {ty : TypeId} {pos : String} {after : Array Edge} {gd : Option (Nat × Bool)} {d : Option Tmp}
 {T T' : TypeId} {x y : Operand} {α : Type} {fk : α → List VP} {xs : List α} {k : Nat}
theorem Has.cWK : Has E Γ M (.const (.slice none 0 0)) (SlK k fk ([] : List α)) := fun _ _ _ _ => nilK
theorem ixo2 {n : Nat} : 0 + n * 2 = n * 2 := by omega
theorem OK1.loadK {b i j : Nat} {x' : α} (hk : ∀ y, (fk y).length = k) (hx : Has E Γ M x (isPtr b (j * k))) (hM : M[i]? = some (some b, cellM (xs.flatMap fk))) (hT : tyB P T = some (k, true)) (hS : xs[j]? = some x') :
  OK1 E P Γ M ⟨d, .load T x, ty, pos, after, gd⟩ (Flat (fk x')) :=
 OK1.load hx hM hT (by
  have hj : j < xs.length := by
   rcases Nat.lt_or_ge j xs.length with h | h
   ·exact h
   ·rw [List.getElem?_eq_none h] at hS; cases hS
  rw [Nat.ble_eq, flat_len hk, ← Nat.succ_mul]; exact Nat.mul_le_mul_right k hj) (flat_drop xs j x' (fun y _ => hk y) hS)
theorem Cv.winGr {t b n c i : Nat} (ht : look Γ t = some (isWin b 0 n c)) (hM : M[i]? = some (some b, cellM (xs.flatMap fk))) (hn : n ≤ xs.length) (hc : xs.length = c) :
    Cv E Γ M ((t, isGr (⟨some b, c, xs.drop n⟩ : Gr α) n) :: Γ) (M.set i (grMK fk ⟨some b, c, xs.drop n⟩ (xs.take n))) := fun a w F s => by
  have hset : M.set i (grMK fk ⟨some b, c, xs.drop n⟩ (xs.take n)) = M := by
    refine set_self ?_
    rw [hM]; unfold grMK; simp only [List.take_append_drop]
  rw [hset]
  refine ⟨F, s.wider fun t' S' ht' => ?_⟩
  simp only [look] at ht'
  cases hb : Nat.beq t t' with
  | false => rw [hb] at ht'; exact s.slots t' S' ht'
  | true =>
    rw [hb] at ht'
    obtain rfl : isGr (⟨some b, c, xs.drop n⟩ : Gr α) n = S' := by simpa using ht'
    obtain rfl := Nat.eq_of_beq_eq_true hb
    obtain ⟨e1, e2, e3⟩ := s.slots _ _ ht
    exact .inr ⟨b, rfl, e1, by show n + (xs.drop n).length = c; rw [List.length_drop]; omega, e3⟩
end
abbrev zc (p : Bool × List Nat) : List VP := [isB p.1, isWords p.2]
theorem zc_len : ∀ p, (zc p).length = 2 := fun _ => rfl
abbrev isZs (xs : List (Bool × List Nat)) : VP := SlK 2 zc xs
end Go.En
namespace Go.En
open Go.RowKit
def isFun {ι : Type} (P : Program) (As : ι → List VP) (R : ι → VP) : VP :=
 ⟨fun w F v => ∃ (g : FuncId) (first cap : List Value) (Bs Cs : List VP), v = .func (.func g) first.toArray cap.toArray ∧ (∀ i, Ctr P g (Bs ++ As i ++ Cs) (R i)) ∧ All2 Bs w F first ∧ All2 Cs w F cap,
 fun w w' F F' v h h1 h2 => by
  obtain ⟨g, first, cap, Bs, Cs, e, hC, hB, hc⟩ := h
  exact ⟨g, first, cap, Bs, Cs, e, hC, All2.mono h1 h2 _ _ hB, All2.mono h1 h2 _ _ hc⟩⟩
instance {ι : Type} {P : Program} {As : ι → List VP} {R : ι → VP} : One (isFun P As R) := ⟨fun w F v h => by obtain ⟨g, first, cap, Bs, Cs, e, _⟩ := h; rw [e]; rfl⟩
instance {ι : Type} {P : Program} {As : ι → List VP} {R : ι → VP} : Shape (isFun P As R) [isFun P As R] := .of_one inferInstance
instance {Ss : List VP} : One (PtrL Ss) := ⟨fun w F v h => by obtain ⟨b, off, e, _⟩ := h; rw [e]; rfl⟩
instance {Ss : List VP} : Shape (PtrL Ss) [PtrL Ss] := .of_one inferInstance
section
variable {E : Env} {P : Program} {Γ : Ctx} {M : Mem} {ty : TypeId} {pos : String} {after : Array Edge} {gd : Option (Nat × Bool)} {d : Option Tmp}
 {ops : Array Oper} {Q : Exit → Act → World → Prop} {rest : List Oper} {T T' : TypeId} {x y : Operand} {α ι : Type} {As : ι → List VP} {R : ι → VP}
theorem Has.fn {g : FuncId} (h : ∀ i, Ctr P g (As i) (R i)) : Has E Γ M (.func g) (isFun P As R) :=
 fun a w F s => ⟨g, [], [], [], [], rfl, fun i => by rw [List.nil_append, List.append_nil]; exact h i, trivial, trivial⟩
theorem OK1.makeFn {g : FuncId} {xs ys : List Operand} {Bs Cs : List VP} (h : ∀ i, Ctr P g (Bs ++ As i ++ Cs) (R i)) (hx : HasL E Γ M xs Bs) (hy : HasL E Γ M ys Cs) :
  OK1 E P Γ M ⟨d, .makeFunc (.func g) xs.toArray ys.toArray, ty, pos, after, gd⟩ (isFun P As R) :=
 .run fun a w F s => by
  refine ⟨.func (.func g) (xs.map a.eval).toArray (ys.map a.eval).toArray, ?_, g, _, _, Bs, Cs, rfl, h, hx.all s, hy.all s⟩
  simp [execOp, Instr.makeFunc, go_sem]
theorem OK1.callV {xs : List Operand} {ts : Array TypeId} (i : ι) (hf : Has E Γ M x (isFun P As R)) (hx : HasL E Γ M xs (As i)) :
  OK1 E P Γ M ⟨d, .call ⟨.value x, xs.toArray, ts⟩, ty, pos, after, gd⟩ (R i) := by
 intro a w F s K Q hK
 unfold Oper.wp
 obtain ⟨g, first, cap, Bs, Cs, e, hC, hB, hc⟩ := hf a w F s
 have hr : (execOp a.eval (⟨d, .call ⟨.value x, xs.toArray, ts⟩, ty, pos, after, gd⟩ : Oper)).run P w = .ok (.enter g (first ++ xs.map a.eval ++ cap).toArray) w := by
  have := run_enter (hC i).1 (first ++ xs.map a.eval ++ cap).toArray w
  simp only [execOp, resolve, Sem.run_bind, e, Deferred.ofValue, Sem.run_pure, Result.andThen_ok, invoke]
  simpa [go_sem] using this
 rw [hr]
 refine ((hC i).2 w F _ s.flt ((hB.append (hx.all s)).append hc)).mono ?_
 rintro e w' ⟨v, rfl, hk, hv⟩
 exact hK v w' _ ⟨hk, fun b hb => .inl hb, fun b hb => hb⟩ hv
theorem Cv.freezeBox {t b i : Nat} {Ss : List VP} (hW : E.W = []) (ht : look Γ t = some (isPtr b 0)) (hM : M[i]? = some (some b, cellM Ss)) : Cv E Γ M ((t, PtrL Ss) :: Γ) (M.eraseIdx i) := by
  intro a w F s
  obtain ⟨h1, h2, h3, ob, h4, vs, T', rfl, hv⟩ := s.mem.each b _ (List.mem_of_getElem? hM)
  refine ⟨fun k => F k ∨ k = b, ?_⟩
  have hsub : ∀ k, F k → (F k ∨ k = b) := fun k hk => .inl hk
  have hi : i < M.length := by
    rcases Nat.lt_or_ge i M.length with h | h
    · exact h
    · rw [List.getElem?_eq_none h] at hM; cases hM
  have hMi : M[i] = (some b, cellM Ss) := by rw [List.getElem?_eq_getElem hi] at hM; exact Option.some.inj hM
  have hbW : E.w0.heap.size ≤ b := h1.resolve_right (by rw [hW]; simp)
  have e1 : a.tmps.getD t undef = .pointer (some ⟨b, 0, none⟩) := s.slots t _ ht
  refine { defers := s.defers, size := s.size, keep := s.keep, f0 := fun k hk => .inl (s.f0 k hk), fnew := ?_, flt := ?_, slots := ?_, mem := ⟨s.mem.apart.sublist (List.eraseIdx_sublist _ _), ?_⟩ }
  · rintro k (hk | rfl)
    · exact s.fnew k hk
    · exact .inr ⟨hbW, h2⟩
  · rintro k (hk | rfl)
    · exact s.flt k hk
    · exact h2
  · intro t' S' ht'
    simp only [look] at ht'
    cases hb : Nat.beq t t' with
    | false => rw [hb] at ht'; exact S'.mono _ _ _ _ _ (s.slots t' S' ht') (fun _ _ => rfl) hsub
    | true =>
      rw [hb] at ht'
      obtain rfl : PtrL Ss = S' := by simpa using ht'
      obtain rfl := Nat.eq_of_beq_eq_true hb
      refine ⟨b, 0, e1, .inr rfl, vs, All2.mono (fun _ _ => rfl) hsub _ _ hv, fun j u hj => ?_⟩
      simp [World.cell?, h4, hj]
  · intro k C hk
    obtain ⟨j, hji, hj⟩ := List.mem_eraseIdx_iff_getElem?.1 hk
    obtain ⟨g1, g2, g3, o2, g4, g5⟩ := s.mem.each k C (List.mem_of_getElem? hj)
    have hkb : k ≠ b := by
      intro e; subst e
      have hjl : j < M.length := by
        rcases Nat.lt_or_ge j M.length with h | h
        · exact h
        · rw [List.getElem?_eq_none h] at hj; cases hj
      have hMj : M[j] = (some k, C) := by rw [List.getElem?_eq_getElem hjl] at hj; exact Option.some.inj hj
      rcases Nat.lt_or_gt_of_ne hji with hlt | hlt
      · have hp := List.pairwise_iff_getElem.1 s.mem.apart j i hjl hi hlt
        rw [hMi, hMj] at hp; simp at hp
      · have hp := List.pairwise_iff_getElem.1 s.mem.apart i j hi hjl hlt
        rw [hMi, hMj] at hp; simp at hp
    exact ⟨g1, g2, fun h => h.elim g3 hkb, o2, g4, C.mono _ _ _ _ _ g5 (fun _ _ => rfl) hsub⟩
end
end Go.En
namespace Go.En
open Go.RowKit
section
variable {E : Env} {P : Program} {Γ : Ctx} {M : Mem} {ty : TypeId} {pos : String} {after : Array Edge} {gd : Option (Nat × Bool)} {d : Option Tmp}
 {ops : Array Oper} {Q : Exit → Act → World → Prop} {rest : List Oper} {T T' : TypeId} {x y : Operand} {α : Type} {f : α → VP} {fk : α → List VP} {xs : List α} {k : Nat}
theorem Sat.freezeBw {a : Act} {w : World} {F : Blk} {i b : Nat} {Ss : List VP} (s : Sat E Γ M a w F) (hW : ∀ k, k ∈ E.W → ∃ C, (some k, C) ∈ M.eraseIdx i) (hM : M[i]? = some (some b, cellM Ss)) :
  Sat E Γ (M.eraseIdx i) a w (fun k => F k ∨ k = b) ∧ ∃ vs T', w.heap[b]? = some (.cells (List.toArray vs) T' (0, 0)) ∧ All2 Ss w (fun k => F k ∨ k = b) vs := by
 obtain ⟨h1, h2, h3, ob, h4, vs, T', rfl, hv⟩ := s.mem.each b _ (List.mem_of_getElem? hM)
 have hsub : ∀ k, F k → (F k ∨ k = b) := fun k hk => .inl hk
 have hi : i < M.length := by
  rcases Nat.lt_or_ge i M.length with h | h
  ·exact h
  ·rw [List.getElem?_eq_none h] at hM; cases hM
 have hMi : M[i] = (some b, cellM Ss) := by rw [List.getElem?_eq_getElem hi] at hM; exact Option.some.inj hM
 have hne : ∀ k C, (some k, C) ∈ M.eraseIdx i → k ≠ b := fun k C hk e => by
  subst e
  obtain ⟨j, hji, hj⟩ := List.mem_eraseIdx_iff_getElem?.1 hk
  have hjl : j < M.length := by
   rcases Nat.lt_or_ge j M.length with h | h
   ·exact h
   ·rw [List.getElem?_eq_none h] at hj; cases hj
  have hMj : M[j] = (some k, C) := by rw [List.getElem?_eq_getElem hjl] at hj; exact Option.some.inj hj
  rcases Nat.lt_or_gt_of_ne hji with hlt | hlt
  ·have hp := List.pairwise_iff_getElem.1 s.mem.apart j i hjl hi hlt
   rw [hMi, hMj] at hp; simp at hp
  ·have hp := List.pairwise_iff_getElem.1 s.mem.apart i j hi hjl hlt
   rw [hMi, hMj] at hp; simp at hp
 have hbW : E.w0.heap.size ≤ b := h1.resolve_right fun h => by
  obtain ⟨C, hC⟩ := hW b h
  exact hne b C hC rfl
 refine ⟨?_, vs, T', h4, All2.mono (fun _ _ => rfl) hsub _ _ hv⟩
 refine { defers := s.defers, size := s.size, keep := s.keep, f0 := fun k hk => .inl (s.f0 k hk), fnew := ?_, flt := ?_, slots := fun t S ht => S.mono _ _ _ _ _ (s.slots t S ht) (fun _ _ => rfl) hsub, mem := ⟨s.mem.apart.sublist (List.eraseIdx_sublist _ _), ?_⟩ }
 ·rintro k (hk | rfl)
  ·exact s.fnew k hk
  ·exact .inr ⟨hbW, h2⟩
 ·rintro k (hk | rfl)
  ·exact s.flt k hk
  ·exact h2
 ·intro k C hk
  obtain ⟨j, hji, hj⟩ := List.mem_eraseIdx_iff_getElem?.1 hk
  obtain ⟨g1, g2, g3, o2, g4, g5⟩ := s.mem.each k C (List.mem_of_getElem? hj)
  have hkb := hne k C hk
  exact ⟨g1, g2, fun h => h.elim g3 hkb, o2, g4, C.mono _ _ _ _ _ g5 (fun _ _ => rfl) hsub⟩
theorem noW {i : Nat} (hW : E.W = []) : ∀ k, k ∈ E.W → ∃ C, (some k, C) ∈ M.eraseIdx i := fun k h => by rw [hW] at h; cases h
theorem Sat.drop1 {a : Act} {w : World} {F : Blk} {i : Nat} (s : Sat E Γ M a w F) : Sat E Γ (M.eraseIdx i) a w F :=
 {s with mem := ⟨s.mem.apart.sublist (List.eraseIdx_sublist _ _), fun k C hk => s.mem.each k C ((List.eraseIdx_sublist _ _).subset hk)⟩ }
theorem Sat.freezeGrw {a : Act} {w : World} {F : Blk} {i n : Nat} {g : Gr α} {Ts Us : List VP} (s : Sat E Γ M a w F) (hW : ∀ k, k ∈ E.W → ∃ C, (some k, C) ∈ M.eraseIdx i) (hM : M[i]? = some (g.ob, cellM Ts)) (hl : n * k ≤ Ts.length) (he : Ts.take (n * k) = Us) :
    ∃ F', (∀ b, F b → F' b) ∧ Sat E Γ (M.eraseIdx i) a w F' ∧ ∀ v, (isGr g n).h w F v → (SlL k n Us).h w F' v := by
  cases hob : g.ob with
  | none =>
    refine ⟨F, fun _ h => h, s.drop1, ?_⟩
    rintro v (⟨_, rfl, rfl⟩ | ⟨b, hb, _⟩)
    · subst he; exact ⟨none, 0, rfl, Nat.le_refl _, by rw [maxLen_eq]; omega, by simp, .inl rfl⟩
    · rw [hob] at hb; cases hb
  | some b =>
    rw [hob] at hM
    obtain ⟨s', vs, T', hb, hv⟩ := s.freezeBw hW hM
    refine ⟨_, fun _ h => .inl h, s', ?_⟩
    rintro v (⟨h0, _⟩ | ⟨b', hb', rfl, h1, h2⟩)
    · rw [hob] at h0; cases h0
    · obtain rfl : b = b' := by rw [hob] at hb'; exact Option.some.inj hb'
      have hvl := hv.len
      refine ⟨_, _, rfl, by omega, h2, by rw [← he, List.length_take]; omega, .inr ⟨b, 0, rfl, .inr rfl, vs.take (n * k), by rw [← he]; exact hv.take _, fun j u hj => ?_⟩⟩
      have hjn : j < n * k := by
        rcases Nat.lt_or_ge j (n * k) with h | h
        · exact h
        · rw [List.getElem?_take_eq_none h] at hj; cases hj
      rw [List.getElem?_take_of_lt hjn] at hj
      simp [World.cell?, hb, hj]
theorem Sat.freezeGr {a : Act} {w : World} {F : Blk} {i n : Nat} {g : Gr α} {Ts Us : List VP} (s : Sat E Γ M a w F) (hW : E.W = []) (hM : M[i]? = some (g.ob, cellM Ts)) (hl : n * k ≤ Ts.length) (he : Ts.take (n * k) = Us) :
  ∃ F', (∀ b, F b → F' b) ∧ Sat E Γ (M.eraseIdx i) a w F' ∧ ∀ v, (isGr g n).h w F v → (SlL k n Us).h w F' v := s.freezeGrw (noW hW) hM hl he
theorem Sat.memSet {a : Act} {w : World} {F : Blk} {i b : Nat} {C C' : MP} (s : Sat E Γ M a w F) (hM : M[i]? = some (some b, C)) (h : ∀ o, C.h w F o → C'.h w F o) : Sat E Γ (M.set i (some b, C')) a w F := by
 obtain ⟨h1, h2, h3, o, ho, hC⟩ := s.mem.each b C (List.mem_of_getElem? hM)
 exact s.write hM rfl rfl rfl rfl (fun _ _ => rfl) ho (h o hC)
theorem All2.setAt : ∀ {Ss : List VP} {w : World} {F : Blk} {vs : List Value} (o : Nat) {S S' : VP}, All2 Ss w F vs → Ss[o]? = some S → (∀ v, S.h w F v → S'.h w F v) → All2 (Ss.set o S') w F vs
  | [], _, _, _, o, _, _, _, h, _ => by simp at h
  | S0 :: Ss, _, _, v :: vs, 0, S, S', h, e, k => by
    obtain rfl : S0 = S := by simpa using e
    exact ⟨k v h.1, h.2⟩
  | S0 :: Ss, _, _, v :: vs, o + 1, S, S', h, e, k => ⟨h.1, All2.setAt o h.2 (by simpa using e) k⟩
  | _ :: _, _, _, [], _, _, _, h, _, _ => h.elim
theorem Cv.growF {i b o : Nat} {Ss Ts : List VP} (α : Type) (hM : M[i]? = some (some b, cellM Ss)) (ho : Ss[o]? = some nilS) (hT : Ss.set o (isGr (Gr.nil : Gr α) 0) = Ts) : Cv E Γ M Γ ((none, cellM []) :: M.set i (some b, cellM Ts)) := fun a w F s => by
 have s1 : Sat E Γ (M.set i (some b, cellM Ts)) a w F := s.memSet hM fun ob ⟨vs, ty, e, h⟩ => ⟨vs, ty, e, by
  rw [← hT]
  exact h.setAt o ho (fun v hv => by rw [show v = .slice none 0 0 from hv]; exact gr0)⟩
 exact ⟨F, { s1 with mem := ⟨List.Pairwise.cons (fun x hx => .inl rfl) s1.mem.apart, fun b C hb => by
  rcases List.mem_cons.1 hb with e | hb
  ·cases e
  ·exact s1.mem.each b C hb⟩ }⟩
theorem Cv.freezeFw {i j b o n : Nat} {g : Gr α} {Ss Ss' Ts Us : List VP} (hW : ∀ k, k ∈ E.W → ∃ C, (some k, C) ∈ M.eraseIdx i) (hM : M[i]? = some (g.ob, cellM Ts)) (hM2 : (M.eraseIdx i)[j]? = some (some b, cellM Ss)) (ho : Ss[o]? = some (isGr g n)) (hl : n * k ≤ Ts.length) (he : Ts.take (n * k) = Us)
    (hT : Ss.set o (SlL k n Us) = Ss') : Cv E Γ M Γ ((M.eraseIdx i).set j (some b, cellM Ss')) := fun a w F s => by
  obtain ⟨F', hsub, s', hv⟩ := s.freezeGrw hW hM hl he
  refine ⟨F', ?_⟩
  -- the field's cell as it was known before
  obtain ⟨_, _, _, ob, hob, vs, ty, e, hvs⟩ := s.drop1 (i := i) |>.mem.each b _ (List.mem_of_getElem? hM2)
  obtain ⟨_, _, _, ob2, hob2, vs2, ty2, e2, hvs2⟩ := s'.mem.each b _ (List.mem_of_getElem? hM2)
  have hsame : ∀ o', w.heap[b]? = some o' → o' = ob := fun o' h => by rw [hob] at h; exact (Option.some.inj h).symm
  refine s'.write hM2 rfl rfl rfl rfl (fun _ _ => rfl) hob ⟨vs, ty, e, ?_⟩
  rw [← hT]
  obtain ⟨v, hv1, hv2⟩ := hvs.get o _ ho
  have h3 : All2 Ss w F' vs := All2.mono (fun _ _ => rfl) hsub _ _ hvs
  -- place by place
  have key : ∀ {Ss : List VP} {vs : List Value} (o : Nat), All2 Ss w F' vs → vs[o]? = some v → All2 (Ss.set o (SlL k n Us)) w F' vs := by
    intro Ss
    induction Ss with
    | nil => intro vs o h _; simpa using h
    | cons S0 Ss ih =>
      intro vs o h e
      cases vs with
      | nil => exact h.elim
      | cons u us =>
        cases o with
        | zero =>
          obtain rfl : u = v := by simpa using e
          exact ⟨hv u hv2, h.2⟩
        | succ o => exact ⟨h.1, ih o h.2 (by simpa using e)⟩
  exact key o h3 hv1
theorem Cv.freezeF {i j b o n : Nat} {g : Gr α} {Ss Ss' Ts Us : List VP} (hW : E.W = []) (hM : M[i]? = some (g.ob, cellM Ts)) (hM2 : (M.eraseIdx i)[j]? = some (some b, cellM Ss)) (ho : Ss[o]? = some (isGr g n)) (hl : n * k ≤ Ts.length) (he : Ts.take (n * k) = Us)
  (hT : Ss.set o (SlL k n Us) = Ss') : Cv E Γ M Γ ((M.eraseIdx i).set j (some b, cellM Ss')) := Cv.freezeFw (noW hW) hM hM2 ho hl he hT
theorem gr_takeM {g : Gr α} {ys : List α} : (((ys ++ g.sp).map f).take (ys.length * 1)) = ys.map f := by rw [Nat.mul_one, List.map_append, List.take_left' (by simp)]
theorem gr_lenM {g : Gr α} {ys : List α} : ys.length * 1 ≤ ((ys ++ g.sp).map f).length := by simp
theorem gr_takeK {g : Gr α} {ys : List α} (hk : ∀ y, (fk y).length = k) : (((ys ++ g.sp).flatMap fk).take (ys.length * k)) = ys.flatMap fk := by rw [flat_take hk, List.take_left' rfl]
theorem gr_lenK {g : Gr α} {ys : List α} (hk : ∀ y, (fk y).length = k) : ys.length * k ≤ ((ys ++ g.sp).flatMap fk).length := by rw [flat_len hk, List.length_append]; exact Nat.mul_le_mul_right k (by omega)
end
end Go.En
namespace Go.En
open Go.RowKit
section
variable {E : Env} {P : Program} {Γ : Ctx} {M : Mem} {ty : TypeId} {pos : String} {after : Array Edge} {gd : Option (Nat × Bool)} {d : Option Tmp}
 {ops : Array Oper} {Q : Exit → Act → World → Prop} {rest : List Oper} {T T' : TypeId} {x y : Operand} {α : Type} {f : α → VP} {fk : α → List VP} {xs : List α} {k : Nat}
theorem append_none {w : World} {e : TypeId} {inf : TypeInfo} {base b2 : Option Addr} {n c c2 : Nat} (hu : P.underlying T = some (.slice e)) (hi : P.info? e = some inf) (hn : n ≤ c) :
  (Builtin.append_ #[T, T] ty #[.slice base n c, .slice b2 0 c2]).run P w = .ok (.slice base n c) w := by
 cases base <;> cases b2 <;> simp [Builtin.append_, run_underlying hu, sizeOf, typeInfo, hi, Builtin.lenOf, Builtin.firstCells, loadCells, loadCellsFrom, storeCells, hn]
theorem Ops.appendGK0 {d i : Nat} {e : TypeId} {g0 : Bool} {z : Value} {u : α} {g : Gr α} {ys zs : List α} (hk : ∀ y, (fk y).length = k) (hk0 : 0 < k) (h1 : ∀ u, Ones (fk u)) (hT : slB P T = some e) (ht : tyB P e = some (k, g0)) (hz : zeroB P e = some z) (hZ : ∀ w F, All2 (fk u) w F z.cells.toList) (hby : byLe P e 1024 = true)
  (hx : Has E Γ M x (isGr g ys.length)) (hM : M[i]? = some (grMK fk g ys)) (hy : Has E Γ M y (SlK k fk zs)) (hn' : ys.length + zs.length ≤ 4294967296) (hd : Nat.blt d E.n = true)
  (kk : ∀ g' : Gr α, Ops E P ops Q rest ((d, isGr g' (ys.length + zs.length)) :: Γ) (M.set i (grMK fk g' (ys ++ zs)))) :
  Ops E P ops Q (⟨some d, .call ⟨.builtin .append, #[x, y], #[T, T]⟩, ty, pos, after, none⟩ :: rest) Γ M := by
 rcases Nat.eq_zero_or_pos zs.length with h0 | h0
 ·obtain rfl : zs = [] := List.eq_nil_of_length_eq_zero h0
  intro a w F s
  refine wpList_plain rfl fun K hK => ?_
  have hd' : d < E.n := by simpa [Nat.blt_eq] using hd
  obtain ⟨a1, cap, e2, g1, g2, g3, g4⟩ := hy a w F s
  have hu := slB_under hT
  obtain ⟨inf, hi⟩ : ∃ i, P.info? e = some i := by
   unfold byLe at hby
   cases hi : P.info? e with
   | none => simp [hi] at hby
   | some i => exact ⟨i, rfl⟩
  have hset : M.set i (grMK fk g (ys ++ [])) = M := set_self (by rw [hM, List.append_nil])
  have kk1 := kk g
  rw [hset] at kk1
  have hval := hx a w F s
  obtain ⟨base, c, e1, hnc⟩ : ∃ base c, a.eval x = .slice base ys.length c ∧ ys.length ≤ c := by
   rcases hval with ⟨_, hyl, e1⟩ | ⟨b, _, e1, h, _⟩
   ·exact ⟨none, 0, by rw [e1, hyl], by omega⟩
   ·exact ⟨_, _, e1, by omega⟩
  have hr := append_none (P := P) (T := T) (ty := ty) (w := w) (base := base) (b2 := a1) (n := ys.length) (c := c) (c2 := cap) hu hi hnc
  unfold Oper.wp
  have hr2 : (execOp a.eval (⟨some d, .call ⟨.builtin .append, #[x, y], #[T, T]⟩, ty, pos, after, none⟩ : Oper)).run P w = .ok (.value (.slice base ys.length c)) w := by
   simp only [execOp, resolve, invoke, builtin, Sem.run_bind]
   simp [e1, e2, Sem.run_bind, hr]
  rw [hr2]
  refine hK _ _ (kk1 _ _ F (s.put hd' ?_))
  rw [← e1]; exact hval
 ·exact Ops.appendGK hk hk0 h1 hT ht hz hZ hby hx hM hy hn' h0 hd kk
theorem Cv.winGrK {t b n c i : Nat} {ys : List α} (ht : look Γ t = some (isWin b 0 n c)) (hM : M[i]? = some (some b, cellM (xs.flatMap fk))) (hn : n ≤ xs.length) (hc : xs.length = c) (hy : xs.take n = ys) :
  Cv E Γ M ((t, isGr (⟨some b, c, xs.drop n⟩ : Gr α) ys.length) :: Γ) (M.set i (grMK fk ⟨some b, c, xs.drop n⟩ ys)) := by
 have e : ys.length = n := by rw [← hy, List.length_take]; omega
 rw [e, ← hy]
 exact Cv.winGr ht hM hn hc
theorem Cv.winGrM {t b n c i : Nat} {ys : List α} (ht : look Γ t = some (isWin b 0 n c)) (hM : M[i]? = some (some b, cellM (xs.map f))) (hn : n ≤ xs.length) (hc : xs.length = c) (hy : xs.take n = ys) :
    Cv E Γ M ((t, isGr (⟨some b, c, xs.drop n⟩ : Gr α) ys.length) :: Γ) (M.set i (grM f ⟨some b, c, xs.drop n⟩ ys)) := fun a w F s => by
  subst hy
  have e : (xs.take n).length = n := by rw [List.length_take]; omega
  rw [e]
  have hset : M.set i (grM f ⟨some b, c, xs.drop n⟩ (xs.take n)) = M := by
    refine set_self ?_
    rw [hM]; unfold grM; simp only [List.take_append_drop]
  rw [hset]
  refine ⟨F, s.wider fun t' S' ht' => ?_⟩
  simp only [look] at ht'
  cases hb : Nat.beq t t' with
  | false => rw [hb] at ht'; exact s.slots t' S' ht'
  | true =>
    rw [hb] at ht'
    obtain rfl : isGr (⟨some b, c, xs.drop n⟩ : Gr α) n = S' := by simpa using ht'
    obtain rfl := Nat.eq_of_beq_eq_true hb
    obtain ⟨e1, e2, e3⟩ := s.slots _ _ ht
    exact .inr ⟨b, rfl, e1, by show n + (xs.drop n).length = c; rw [List.length_drop]; omega, e3⟩
theorem Cv.freezeGn {t i n : Nat} {g : Gr α} {ys : List α} (hW : E.W = []) (ht : look Γ t = some (isGr g n)) (hM : M[i]? = some (grM f g ys)) (hn : n = ys.length) : Cv E Γ M ((t, SlM f ys) :: Γ) (M.eraseIdx i) := by
 subst hn; exact Cv.freezeG hW ht hM
theorem Cv.freezeGKn {t i n : Nat} {g : Gr α} {ys : List α} (hk : ∀ y, (fk y).length = k) (hW : E.W = []) (ht : look Γ t = some (isGr g n)) (hM : M[i]? = some (grMK fk g ys)) (hn : n = ys.length) : Cv E Γ M ((t, SlK k fk ys) :: Γ) (M.eraseIdx i) := by
 subst hn; exact Cv.freezeGK hk hW ht hM
end
end Go.En
namespace Go.Nt
abbrev D : Nat := 65536
def dval : List Nat → Nat
 | [] => 0
 | x :: xs => x + D * dval xs
end Go.Nt
namespace Go.Nt
def zv (n : Bool) (xs : List Nat) : Int := if n = true then -(val xs : Int) else (val xs : Int)
theorem zv_nf (z : Int) : zv (decide (z < 0)) (words z.natAbs) = z := by
 unfold zv
 rw [val_words]
 by_cases h : z < 0
 ·rw [decide_eq_true h, if_pos rfl]; omega
 ·rw [decide_eq_false h, if_neg (by decide)]; omega
theorem zv_abs (n : Bool) (xs : List Nat) : (zv n xs).natAbs = val xs := by unfold zv; split <;> omega
theorem zv_neg (n : Bool) (xs : List Nat) : decide (zv n xs < 0) = (n && decide (val xs ≠ 0)) := by
 unfold zv
 cases n
 ·rw [if_neg (by decide), Bool.false_and]; exact decide_eq_false (by omega)
 ·rw [if_pos rfl, Bool.true_and]; exact decide_eq_decide.2 (by omega)
theorem zv_nw (n : Bool) (xs : List Nat) : (List.length (words (zv n xs).natAbs)) = (List.length (words (val xs))) := by rw [zv_abs]
theorem zv_false (xs : List Nat) : zv false xs = (val xs : Int) := by unfold zv; rw [if_neg (by decide)]
theorem zv_not (n : Bool) (xs : List Nat) : zv (!n) xs = - zv n xs := by
 unfold zv; cases n <;> simp
def sgn (z : Int) : Int := if z = 0 then 0 else if z < 0 then -1 else 1
def cmpZ (x y : Int) : Int := if x < y then -1 else if y < x then 1 else 0
theorem zv_add_same {m n : Bool} (h : m = n) (xs ys : List Nat) : zv m xs + zv n ys = zv m (words (val xs + val ys)) := by
 subst h; unfold zv; rw [val_words]; cases m <;> simp <;> omega
theorem zv_add_sub {m n : Bool} (h : m ≠ n) {xs ys : List Nat} (hle : val ys ≤ val xs) : zv m xs + zv n ys = zv m (words (val xs - val ys)) := by
 unfold zv; rw [val_words]; cases m <;> cases n <;> simp at h ⊢ <;> omega
theorem zv_mul (m n : Bool) (xs ys : List Nat) : zv m xs * zv n ys = zv (!(m == n)) (words (val xs * val ys)) := by
 unfold zv; rw [val_words]; cases m <;> cases n <;> simp [Int.neg_mul, Int.mul_neg]
theorem zv_tdiv (m n : Bool) (xs ys : List Nat) : (zv m xs).tdiv (zv n ys) = zv (!(m == n)) (words (val xs / val ys)) := by
 have h : ((val xs : Int)).tdiv (val ys : Int) = ((val xs / val ys : Nat) : Int) := Int.ofNat_tdiv _ _ ▸ rfl
 unfold zv; rw [val_words]; cases m <;> cases n <;> simp [Int.neg_tdiv, Int.tdiv_neg, h]
theorem zv_tmod (m n : Bool) (xs ys : List Nat) : (zv m xs).tmod (zv n ys) = zv m (words (val xs % val ys)) := by
 have h : ((val xs : Int)).tmod (val ys : Int) = ((val xs % val ys : Nat) : Int) := Int.ofNat_tmod _ _ ▸ rfl
 unfold zv; rw [val_words]; cases m <;> cases n <;> simp [Int.neg_tmod, Int.tmod_neg, h]
end Go.Nt
namespace Go.Nt
theorem nw_add_le (a b : Nat) : (List.length (words (a + b))) ≤ max ((List.length (words a))) ((List.length (words b))) + 1 := nw_le (add_lt (lt_pow_of (Nat.le_max_left _ _)) (lt_pow_of (Nat.le_max_right _ _)))
theorem nw_mul_le (a b : Nat) : (List.length (words (a * b))) ≤ (List.length (words a)) + (List.length (words b)) := nw_le (by rw [Nat.pow_add]; exact Nat.mul_lt_mul_of_lt_of_lt (nw_lt a) (nw_lt b))
theorem nz_add (x y : Int) : (List.length (words (x + y).natAbs)) ≤ max ((List.length (words x.natAbs))) ((List.length (words y.natAbs))) + 1 := Nat.le_trans (nw_mono (Int.natAbs_add_le x y)) (nw_add_le _ _)
theorem nz_sub (x y : Int) : (List.length (words (x - y).natAbs)) ≤ max ((List.length (words x.natAbs))) ((List.length (words y.natAbs))) + 1 := by
 have := nz_add x (-y); rwa [Int.natAbs_neg, ← Int.sub_eq_add_neg] at this
theorem nz_mul (x y : Int) : (List.length (words (x * y).natAbs)) ≤ (List.length (words x.natAbs)) + (List.length (words y.natAbs)) := by rw [Int.natAbs_mul]; exact nw_mul_le _ _
theorem nz_tdiv (x y : Int) : (List.length (words (x.tdiv y).natAbs)) ≤ (List.length (words x.natAbs)) := by rw [Int.natAbs_tdiv]; exact nw_mono (Nat.div_le_self _ _)
theorem nz_tmod (x y : Int) : (List.length (words (x.tmod y).natAbs)) ≤ (List.length (words x.natAbs)) := by rw [Int.natAbs_tmod]; exact nw_mono (Nat.mod_le _ _)
theorem nw_one : (List.length (words 1)) = 1 := by rw [words_small (by decide)]; rfl
theorem nw_small' {n : Nat} (h : n < 18446744073709551616) : (List.length (words n)) ≤ 1 := nw_le (by simpa using h)
/-! ### rests from 0 on -/
/-! ### the greatest common divisor -/
def cof (a b x next : Int) : Int × Int := if h : b = 0 then (if a < 0 then (-a, -x) else (a, x)) else cof b (a.tmod b) next (x - a.tdiv b * next)
termination_by b.natAbs
decreasing_by
 rw [Int.natAbs_tmod]; exact Nat.mod_lt _ (by omega)
end Go.Nt
namespace Go.Proofs.YtcfobalbkhgdmaaGreat
open Go.En Go.RowKit
set_option maxRecDepth 10000
set_option maxHeartbeats 4000000
open Go.Nt
def upW (n : Nat) (xs : List Nat) : List Nat := if xs.length = 0 then [] else List.replicate n 0 ++ xs
theorem upW_nil {n : Nat} {xs : List Nat} (h : xs.length = 0) : [] = upW n xs := by unfold upW; rw [if_pos h]
theorem upW_app {n : Nat} {xs : List Nat} (h : xs.length ≠ 0) : List.replicate n 0 ++ xs = upW n xs := by unfold upW; rw [if_neg h]
theorem upW_val (n : Nat) (xs : List Nat) : val (upW n xs) = W ^ n * val xs := by
 unfold upW
 split
 ·rename_i h; rw [List.eq_nil_of_length_eq_zero h]; rfl
 ·rw [val_append, val_replicate, List.length_replicate, Nat.zero_add]
theorem upW_nw {n : Nat} {xs : List Nat} (h : Ok xs) : (List.length (words (val (upW n xs)))) ≤ n + xs.length := by
 rw [upW_val]
 refine nw_le ?_
 rw [Nat.pow_add]
 exact Nat.mul_lt_mul_of_pos_left (val_lt h) (pow_pos' n)
theorem ok_take {xs : List Nat} (h : Ok xs) (n : Nat) : Ok (xs.take n) := fun x hx => h x (List.mem_of_mem_take hx)
theorem ok_drop {xs : List Nat} (h : Ok xs) (n : Nat) : Ok (xs.drop n) := fun x hx => h x (List.mem_of_mem_drop hx)
theorem lowW_nw (a n : Nat) : (List.length (words (val ((words a).take n)))) ≤ min n ((List.length (words a))) := by
 have := nw_val (ok_take (words_ok a) n)
 rwa [List.length_take] at this
theorem highW_nw (a n : Nat) : (List.length (words (val ((words a).drop n)))) ≤ (List.length (words a)) - n := by
 have := nw_val (ok_drop (words_ok a) n)
 rwa [List.length_drop] at this
theorem halves (a n : Nat) : val ((words a).take n) + W ^ n * val ((words a).drop n) = a := by
 rcases Nat.lt_or_ge n (words a).length with h | h
 ·have e := val_append ((words a).take n) ((words a).drop n)
  rw [List.take_append_drop, val_words, List.length_take, Nat.min_eq_left (Nat.le_of_lt h)] at e
  exact e.symm
 ·rw [List.take_of_length_le h, List.drop_eq_nil_of_le h, val_words]; exact Nat.add_zero _
theorem kara (p q r s n : Nat) : p * r + W ^ n * ((p + q) * (r + s) - p * r - q * s) + W ^ (2 * n) * (q * s) = (p + W ^ n * q) * (r + W ^ n * s) := by
 have e : (p + q) * (r + s) - p * r - q * s = p * s + q * r := by
  rw [Nat.add_mul, Nat.mul_add, Nat.mul_add]; omega
 rw [e, Nat.two_mul, Nat.pow_add]
 generalize W ^ n = w
 simp only [Nat.add_mul, Nat.mul_add, Nat.mul_assoc, Nat.mul_left_comm, Nat.mul_comm, Nat.add_assoc, Nat.add_left_comm, Nat.add_comm]
theorem mul_low {xs : List Nat} {n : Nat} : Ctr Tryz.prog 115 [isWords xs, isI (n : Int)] (isWords (xs.take n)) := by
 refine Ctr.intro Tryz.func115 rfl (by kernel_rfl) Tryz.ntmps115 rfl fun w0 F0 => .cv (Cv.wk (.l [0, 1] rfl)) (.fact (Has.lenLt (Has.t (t := 0) rfl)) fun lt0 => .fact (Has.okW (Has.t (t := 0) rfl)) fun ok0 => .fact (Has.rngI (Has.t (t := 1) rfl)) fun lt1 => .seq fun _ k1 => .region (st (.as (.cW (f := isU))) rfl (nl (.thn (k1 _ _ (.seq fun _ k2 => .seq fun _ k3 => .region (st (.mv (.t rfl)) rfl (st (.len sl34 (.t rfl)) rfl (st (.mv (.t rfl)) rfl (st (.leI (.t rfl) (.t rfl)) rfl (nl (.thn (k3 _ _ (.cond (.t rfl) (fun hc1 => ?_) (fun hc1 => ?_)))))))))))))))
 ·have hc1 := BP.t hc1
  refine .seq fun _ k4 => .region (st (.mv (.t rfl)) rfl (st (.as (.t rfl)) rfl (nl (.thn (k4 _ _ (.cv (Cv.wk (.l [0, 1, 4] rfl)) (.ret (.thr (rt1 (.inl rfl) Tryz.results115 rfl (.tmp (Has.t' rfl ?_) .nil))))))))))
  all_goals (exact SlM_eq (List.take_of_length_le (by omega)).symm)
 ·have hc1 := BP.f hc1
  refine .skip (.thn (k2 _ _ (.seq fun _ k5 => .region (st (.mv (.t rfl)) rfl (st (.mv (.t rfl)) rfl (st (.slHM sl34 ty62 (.t rfl) (.t rfl) ⟨by omega, by omega⟩) rfl (st (.as (.t rfl)) rfl (nl (.thn (k5 _ _ (.cv (Cv.wk (.l [4] rfl)) (.ret (rt1 (.inl rfl) Tryz.results115 rfl (.tmp (Has.t' rfl ?_) .nil))))))))))))))
  all_goals (exact SlM_eq (by rw [Int.toNat_natCast]))
theorem mul_high {xs : List Nat} {n : Nat} : Ctr Tryz.prog 116 [isWords xs, isI (n : Int)] (isWords (xs.drop n)) := by
 refine Ctr.intro Tryz.func116 rfl (by kernel_rfl) Tryz.ntmps116 rfl fun w0 F0 => .cv (Cv.wk (.l [0, 1] rfl)) (.fact (Has.lenLt (Has.t (t := 0) rfl)) fun lt0 => .fact (Has.okW (Has.t (t := 0) rfl)) fun ok0 => .fact (Has.rngI (Has.t (t := 1) rfl)) fun lt1 => .seq fun _ k1 => .region (st (.as (.cW (f := isU))) rfl (nl (.thn (k1 _ _ (.seq fun _ k2 => .seq fun _ k3 => .region (st (.mv (.t rfl)) rfl (st (.len sl34 (.t rfl)) rfl (st (.mv (.t rfl)) rfl (st (.leI (.t rfl) (.t rfl)) rfl (nl (.thn (k3 _ _ (.cond (.t rfl) (fun hc1 => ?_) (fun hc1 => ?_)))))))))))))))
 ·have hc1 := BP.t hc1
  refine .seq fun _ k4 => .region (st (.as (.cW (f := isU))) rfl (nl (.thn (k4 _ _ (.ret (.thr (rt1 (.inl rfl) Tryz.results116 rfl (.tmp (Has.t' rfl ?_) .nil))))))))
  all_goals (exact SlM_eq (List.drop_eq_nil_of_le (by omega)).symm)
 ·have hc1 := BP.f hc1
  refine .skip (.thn (k2 _ _ (.seq fun _ k5 => .region (st (.mv (.t rfl)) rfl (st (.mv (.t rfl)) rfl (st (.slLM sl34 ty62 (.t rfl) (.t rfl) ⟨by omega, by omega⟩) rfl (st (.as (.t rfl)) rfl (nl (.thn (k5 _ _ (.cv (Cv.wk (.l [4] rfl)) (.ret (rt1 (.inl rfl) Tryz.results116 rfl (.tmp (Has.t' rfl ?_) .nil))))))))))))))
  all_goals (exact SlM_eq (by rw [Int.toNat_natCast]))
theorem mul_less {xs ys : List Nat} (hx : (List.length (words (val xs))) < 4294967296) : Ctr Tryz.prog 117 [isWords xs, isWords ys] (isWords (words (val xs - val ys))) := by
 refine Ctr.intro Tryz.func117 rfl (by kernel_rfl) Tryz.ntmps117 rfl fun w0 F0 => .cv (Cv.wk (.l [0, 1] rfl)) (.fact (Has.lenLt (Has.t (t := 0) rfl)) fun lt0 => .fact (Has.okW (Has.t (t := 0) rfl)) fun ok0 => .fact (Has.lenLt (Has.t (t := 1) rfl)) fun lt1 => .fact (Has.okW (Has.t (t := 1) rfl)) fun ok1 => .seq fun _ k1 => .region (st (.as (.cW (f := isU))) rfl (nl (.thn (k1 _ _ (.seq fun _ k2 => .region (st (.mv (.t rfl)) rfl (st (.mv (.t rfl)) rfl (st (.call (nat_Sub (by with_reducible assumption)) (.cons (.t rfl) (.cons (.t rfl) .nil))) rfl (st (.mv (.t rfl)) rfl (st (.ext (.t rfl) rfl) rfl (st (.ext (.t rfl) rfl) rfl (st (.as (.t rfl)) rfl (st (.as (.t rfl)) rfl (nl (.thn (k2 _ _ (.cv (Cv.wk (.l [4, 5] rfl)) (.seq fun _ k3 => .region (st (.mv (.t rfl)) rfl (st (.as (.t rfl)) rfl (nl (.thn (k3 _ _ (.ret (rt1 (.inl rfl) Tryz.results117 rfl (.tmp (Has.t' rfl ?_) .nil)))))))))))))))))))))))))))
 all_goals (rfl)
theorem mul_up {xs : List Nat} {n : Nat} (hn : n + xs.length ≤ 4294967296) : Ctr Tryz.prog 133 [isWords xs, isI (n : Int)] (isWords (upW n xs)) := by
 refine Ctr.intro Tryz.func133 rfl (by kernel_rfl) Tryz.ntmps133 rfl fun w0 F0 => .cv (Cv.wk (.l [0, 1] rfl)) (.fact (Has.lenLt (Has.t (t := 0) rfl)) fun lt0 => .fact (Has.okW (Has.t (t := 0) rfl)) fun ok0 => .fact (Has.rngI (Has.t (t := 1) rfl)) fun lt1 => .seq fun _ k1 => .region (st (.as (.cW (f := isU))) rfl (nl (.thn (k1 _ _ (.seq fun _ k2 => .seq fun _ k3 => .region (st (.mv (.t rfl)) rfl (st (.len sl34 (.t rfl)) rfl (st (.eqI (.t rfl) (.cI 0 rfl)) rfl (nl (.thn (k3 _ _ (.cond (.t rfl) (fun hc1 => ?_) (fun hc1 => ?_))))))))))))))
 ·have hc1 := BP.t hc1
  refine .seq fun _ k4 => .region (st (.as (.cW (f := isU))) rfl (nl (.thn (k4 _ _ (.ret (.thr (rt1 (.inl rfl) Tryz.results133 rfl (.tmp (Has.t' rfl ?_) .nil))))))))
  all_goals (exact SlM_eq (upW_nil (by omega)))
 ·have hc1 := BP.f hc1
  refine .skip (.thn (k2 _ _ (.seq fun _ k5 => .region (st (.mv (.t rfl)) rfl (st (.mv (.t rfl)) rfl (st (.mv (.t rfl)) rfl (st (.len sl34 (.t rfl)) rfl (st (.eq (.addI (.t rfl) (.t rfl) (by omega) (by omega)) ((show isI _ = isI ((n + xs.length : Nat) : Int) from isI_eq (by omega)))) rfl (.make (f := isU) (u := 0) (n := n) (c := n + xs.length) sl34 ty62 zero62 (fun _ _ => ⟨⟨rfl, by decide⟩, trivial⟩) by62 (Has.t' rfl rfl) (Has.t' rfl rfl) ⟨by omega, by omega⟩ rfl fun b1 => st (.mv (.t rfl)) rfl (.cv (Cv.winGrM (f := isU) (t := 13) (i := 0) (ys := List.replicate n 0) rfl rfl (by simp) (by simp) (by simp)) ?_))))))))))
  refine .memEq (M' := [grM _ _ _]) rfl (.appendG (f := isU) (u := 0) sl34 ty62 zero62 (fun _ _ => ⟨⟨rfl, by decide⟩, trivial⟩) (fun _ => inferInstance) by62 (.t rfl) (i := 0) rfl (.t rfl) (by rw [List.length_replicate]; exact hn) (by omega) rfl fun gr1 => ?_)
  refine .memEq (M' := [grM _ _ _]) rfl (.cv (Cv.freezeGn (t := 15) (i := 0) (ys := List.replicate n 0 ++ xs) rfl rfl rfl (by simp)) ?_)
  refine .memEq (M' := []) rfl (.cv (Cv.wk (.l [0, 1, 4, 5, 6, 7, 8, 9, 10, 11, 12, 14, 15] rfl)) (st (.as (.t rfl)) rfl (nl (.thn (k5 _ _ (.cv (Cv.wk (.l [4] rfl)) (.ret (rt1 (.inl rfl) Tryz.results133 rfl (.tmp (Has.t' rfl ?_) .nil)))))))))
  all_goals (exact SlM_eq (upW_app (by omega)))
theorem mul_joined {xs ys zs : List Nat} {n : Nat} (hx : (List.length (words (val xs))) ≤ 2100000000) (hn : n ≤ 1000000000) (hy : ys.length ≤ 2000000000) (hz : zs.length ≤ 2000000000) : Ctr Tryz.prog 118 [isWords xs, isWords ys, isWords zs, isI (n : Int)] (isWords (words (val xs + W ^ n * val ys + W ^ (2 * n) * val zs))) := by
 refine Ctr.intro Tryz.func118 rfl (by kernel_rfl) Tryz.ntmps118 rfl fun w0 F0 => .cv (Cv.wk (.l [0, 1, 2, 3] rfl)) (.fact (Has.lenLt (Has.t (t := 0) rfl)) fun lt0 => .fact (Has.okW (Has.t (t := 0) rfl)) fun ok0 => .fact (Has.lenLt (Has.t (t := 1) rfl)) fun lt1 => .fact (Has.okW (Has.t (t := 1) rfl)) fun ok1 => .fact (Has.lenLt (Has.t (t := 2) rfl)) fun lt2 => .fact (Has.okW (Has.t (t := 2) rfl)) fun ok2 => .fact (Has.rngI (Has.t (t := 3) rfl)) fun lt3 => ?_)
 have u1 := upW_nw (n := n) ok1
 have u2 := upW_nw (n := 2 * n) ok2
 have h1 := nw_add_le (val xs) (val (upW n ys))
 refine .seq fun _ k1 => .region (st (.as (.cW (f := isU))) rfl (nl (.thn (k1 _ _ (.seq fun _ k2 => .region (st (.as (Has.fn (ι := { p : List Nat × Nat // p.2 + p.1.length ≤ 4294967296 }) (As := fun p => [isWords p.1.1, isI (p.1.2 : Int)]) (R := fun p => isWords (upW p.1.2 p.1.1)) (fun p => mul_up p.2))) rfl (nl (.thn (k2 _ _ (.seq fun _ k3 => .region (st (.mv (.t rfl)) rfl (st (.mv (.t rfl)) rfl (st (.mv (.t rfl)) rfl ?_)))))))))))))
 refine st (.mv (.t rfl)) rfl (st (.callV ⟨(ys, n), by show n + ys.length ≤ _; omega⟩ (.t rfl) (.cons (.t rfl) (.cons (.t rfl) .nil))) rfl ?_)
 refine st (.call (nat_Add (by omega) (by simp only [val_words]; omega)) (.cons (.t rfl) (.cons (.t rfl) .nil))) rfl ?_
 refine st (.mv (.t rfl)) rfl (st (.mv (.t rfl)) rfl (st (.mv (.t rfl)) rfl (st (.eq (.mulI (.cI 2 rfl) (.t rfl) (by omega) (by omega)) ((show isI _ = isI ((2 * n : Nat) : Int) from isI_eq (by omega)))) rfl ?_)))
 refine st (.callV ⟨(zs, 2 * n), by show 2 * n + zs.length ≤ _; omega⟩ (.t rfl) (.cons (.t rfl) (.cons (.t rfl) .nil))) rfl ?_
 refine st (.call (nat_Add (by simp only [val_words]; omega) (by simp only [val_words]; omega)) (.cons (.t rfl) (.cons (.t rfl) .nil))) rfl ?_
 refine st (.as (.t rfl)) rfl (nl (.thn (k3 _ _ (.cv (Cv.wk (.l [8] rfl)) (.ret (rt1 (.inl rfl) Tryz.results118 rfl (.tmp (Has.t' rfl ?_) .nil)))))))
 all_goals (exact SlM_eq (by rw [val_words, upW_val, upW_val]))
theorem mul_MulStep {xs ys : List Nat} (hx : (List.length (words (val xs))) ≤ 1000000000) (hy : (List.length (words (val ys))) ≤ 1000000000) (IH : ∀ us vs : List Nat, max ((List.length (words (val us)))) ((List.length (words (val vs)))) < max ((List.length (words (val xs)))) ((List.length (words (val ys)))) → (List.length (words (val us))) ≤ 1000000000 → (List.length (words (val vs))) ≤ 1000000000 → Ctr Tryz.prog 90 [isWords us, isWords vs] (isWords (words (val us * val vs)))) : Ctr Tryz.prog 90 [isWords xs, isWords ys] (isWords (words (val xs * val ys))) := by
 refine Ctr.intro Tryz.func90 rfl (by kernel_rfl) Tryz.ntmps90 rfl fun w0 F0 => .cv (Cv.wk (.l [0, 1] rfl)) (.fact (Has.lenLt (Has.t (t := 0) rfl)) fun lt0 => .fact (Has.okW (Has.t (t := 0) rfl)) fun ok0 => .fact (Has.lenLt (Has.t (t := 1) rfl)) fun lt1 => .fact (Has.okW (Has.t (t := 1) rfl)) fun ok1 => ?_)
 obtain ⟨N, hN⟩ : ∃ N, N = (max ((List.length (words (val xs)))) ((List.length (words (val ys)))) + 1) / 2 := ⟨_, rfl⟩
 have kp := lowW_nw (val xs) N
 have kq := highW_nw (val xs) N
 have kr := lowW_nw (val ys) N
 have ks := highW_nw (val ys) N
 have ka := nw_add_le (val ((words (val xs)).take N)) (val ((words (val xs)).drop N))
 have kb := nw_add_le (val ((words (val ys)).take N)) (val ((words (val ys)).drop N))
 have ea := halves (val xs) N
 have eb := halves (val ys) N
 obtain ⟨p, hp⟩ : ∃ p, p = (words (val xs)).take N := ⟨_, rfl⟩
 obtain ⟨q, hq⟩ : ∃ q, q = (words (val xs)).drop N := ⟨_, rfl⟩
 obtain ⟨r, hr⟩ : ∃ r, r = (words (val ys)).take N := ⟨_, rfl⟩
 obtain ⟨s, hs⟩ : ∃ s, s = (words (val ys)).drop N := ⟨_, rfl⟩
 rw [← hp] at kp ka ea
 rw [← hq] at kq ka ea
 rw [← hr] at kr kb eb
 rw [← hs] at ks kb eb
 have kpr := nw_mul_le (val p) (val r)
 have kqs := nw_mul_le (val q) (val s)
 have kc := nw_mul_le (val p + val q) (val r + val s)
 have kc2 := nw_mono (Nat.sub_le ((val p + val q) * (val r + val s)) (val p * val r))
 have kc3 := nw_mono (Nat.sub_le ((val p + val q) * (val r + val s) - val p * val r) (val q * val s))
 refine .seq fun _ k1 => .region (st (.as (.cW (f := isU))) rfl (nl (.thn (k1 _ _ (.seq fun _ k2 => .region (st (.mv (.t rfl)) rfl (st (.eq (.call (nat_Norm (by omega)) (.cons (.t rfl) .nil)) (by rfl)) rfl (st (.mv (.t rfl)) rfl (st (.eq (.call (nat_Norm (by omega)) (.cons (.t rfl) .nil)) (by rfl)) rfl (st (.as (.t rfl)) rfl (st (.as (.t rfl)) rfl (nl (.thn (k2 _ _ (.seq fun _ k3 => .seq fun _ k4 => .region (st (.mv (.t rfl)) rfl (st (.len sl34 (.t rfl)) rfl (st (.mv (.t rfl)) rfl (st (.len sl34 (.t rfl)) rfl (st (.minI (.t rfl) (.t rfl)) rfl (st (.leI (.t rfl) (.cI 8 rfl)) rfl (nl (.thn (k4 _ _ (.cv (Cv.wk (.l [0, 1, 4, 22] rfl)) (.cond (.t rfl) (fun hc1 => ?_) (fun hc1 => ?_)))))))))))))))))))))))))))
 ·have hc1 := BP.t hc1
  have HM : (List.length (words (val xs))) ≤ 8 ∨ (List.length (words (val ys))) ≤ 8 := (by revert hc1; split <;> intro hc1 <;> omega)
  refine .seq fun _ k5 => .region (st (.mv (.t rfl)) rfl (st (.mv (.t rfl)) rfl (st (.eq (.call (nat_Mul (by simp only [val_words]; omega)) (.cons (.t rfl) (.cons (.t rfl) .nil))) (by simp only [val_words]; rfl)) rfl ?_)))
  refine st (.as (.t rfl)) rfl (nl (.thn (k5 _ _ (.ret (.thr (rt1 (.inl rfl) Tryz.results90 rfl (.tmp (Has.t' rfl ?_) .nil)))))))
  all_goals (rfl)
 ·have hc1 := BP.f hc1
  have HM : 8 < (List.length (words (val xs))) ∧ 8 < (List.length (words (val ys))) := (by revert hc1; split <;> intro hc1 <;> omega)
  refine .skip (.thn (k3 _ _ (.seq fun _ k6 => .region (st (.mv (.t rfl)) rfl (st (.len sl34 (.t rfl)) rfl (st (.mv (.t rfl)) rfl (st (.len sl34 (.t rfl)) rfl (st (.maxI (.t rfl) (.t rfl)) rfl (st (.addI (.t rfl) (.cI 1 rfl) (by omega) (by omega)) rfl (st (.eq (.quoI (.t rfl) (.cI 2 rfl) (by omega) (by omega) (by omega)) ((show isI _ = isI (N : Int) from isI_eq (by rw [hN]; split <;> omega)))) rfl ?_))))))))))
  refine st (.as (.t rfl)) rfl (nl (.thn (k6 _ _ (.cv (Cv.wk (.l [0, 1, 4, 5] rfl)) (.seq fun _ k7 => .region (st (.mv (.t rfl)) rfl (st (.mv (.t rfl)) rfl (st (.eq (.call (mul_low) (.cons (.t rfl) (.cons (.t rfl) .nil))) ((show isWords ((words (val xs)).take N) = isWords p from SlM_eq hp.symm))) rfl (st (.mv (.t rfl)) rfl (st (.mv (.t rfl)) rfl (st (.eq (.call (mul_high) (.cons (.t rfl) (.cons (.t rfl) .nil))) ((show isWords ((words (val xs)).drop N) = isWords q from SlM_eq hq.symm))) rfl (st (.mv (.t rfl)) rfl (st (.mv (.t rfl)) rfl (st (.eq (.call (mul_low) (.cons (.t rfl) (.cons (.t rfl) .nil))) ((show isWords ((words (val ys)).take N) = isWords r from SlM_eq hr.symm))) rfl (st (.mv (.t rfl)) rfl (st (.mv (.t rfl)) rfl (st (.eq (.call (mul_high) (.cons (.t rfl) (.cons (.t rfl) .nil))) ((show isWords ((words (val ys)).drop N) = isWords s from SlM_eq hs.symm))) rfl (st (.as (.t rfl)) rfl (st (.as (.t rfl)) rfl (st (.as (.t rfl)) rfl (st (.as (.t rfl)) rfl (nl (.thn (k7 _ _ (.cv (Cv.wk (.l [4, 5, 6, 7, 8, 9] rfl)) (.seq fun _ k8 => .region (st (.mv (.t rfl)) rfl (st (.mv (.t rfl)) rfl (st (.call (IH _ _ (by omega) (by omega) (by omega)) (.cons (.t rfl) (.cons (.t rfl) .nil))) rfl (st (.mv (.t rfl)) rfl (st (.mv (.t rfl)) rfl (st (.call (IH _ _ (by omega) (by omega) (by omega)) (.cons (.t rfl) (.cons (.t rfl) .nil))) rfl (st (.as (.t rfl)) rfl (st (.as (.t rfl)) rfl (nl (.thn (k8 _ _ (.cv (Cv.wk (.l [4, 5, 6, 7, 8, 9, 10, 11] rfl)) (.seq fun _ k9 => .region (st (.mv (.t rfl)) rfl (st (.mv (.t rfl)) rfl (st (.eq (.call (nat_Add (by omega) (by omega)) (.cons (.t rfl) (.cons (.t rfl) .nil))) ((show isWords (words (val p + val q)) = _ from rfl))) rfl (st (.mv (.t rfl)) rfl (st (.mv (.t rfl)) rfl ?_))))))))))))))))))))))))))))))))))))))))))))
  refine st (.call (nat_Add (by omega) (by omega)) (.cons (.t rfl) (.cons (.t rfl) .nil))) rfl (st (.eq (.call (IH _ _ (by simp only [val_words]; omega) (by simp only [val_words]; omega) (by simp only [val_words]; omega)) (.cons (.t rfl) (.cons (.t rfl) .nil))) ((show isWords _ = isWords (words ((val p + val q) * (val r + val s))) from SlM_eq (by rw [val_words, val_words])))) rfl ?_)
  refine st (.mv (.t rfl)) rfl (st (.eq (.call (mul_less (by simp only [val_words]; omega)) (.cons (.t rfl) (.cons (.t rfl) .nil))) ((show isWords _ = isWords (words ((val p + val q) * (val r + val s) - val p * val r)) from SlM_eq (by rw [val_words, val_words])))) rfl ?_)
  refine st (.mv (.t rfl)) rfl (st (.eq (.call (mul_less (by simp only [val_words]; omega)) (.cons (.t rfl) (.cons (.t rfl) .nil))) ((show isWords _ = isWords (words ((val p + val q) * (val r + val s) - val p * val r - val q * val s)) from SlM_eq (by rw [val_words, val_words])))) rfl ?_)
  refine st (.as (.t rfl)) rfl (nl (.thn (k9 _ _ (.cv (Cv.wk (.l [4, 5, 10, 11, 12] rfl)) (.seq fun _ k10 => .region (st (.mv (.t rfl)) rfl (st (.mv (.t rfl)) rfl (st (.mv (.t rfl)) rfl (st (.mv (.t rfl)) rfl (st (.call (mul_joined (by simp only [val_words]; omega) (by omega) (by omega) (by omega)) (.cons (.t rfl) (.cons (.t rfl) (.cons (.t rfl) (.cons (.t rfl) .nil))))) rfl ?_))))))))))
  refine st (.as (.t rfl)) rfl (nl (.thn (k10 _ _ (.cv (Cv.wk (.l [4] rfl)) (.ret (rt1 (.inl rfl) Tryz.results90 rfl (.tmp (Has.t' rfl ?_) .nil)))))))
  all_goals (exact SlM_eq (by simp only [val_words]; rw [kara, ea, eb]))
theorem mul_Mul : ∀ {xs ys : List Nat}, (List.length (words (val xs))) ≤ 1000000000 → (List.length (words (val ys))) ≤ 1000000000 → Ctr Tryz.prog 90 [isWords xs, isWords ys] (isWords (words (val xs * val ys))) := by
 have h : ∀ N, ∀ xs ys : List Nat, max ((List.length (words (val xs)))) ((List.length (words (val ys)))) ≤ N → (List.length (words (val xs))) ≤ 1000000000 → (List.length (words (val ys))) ≤ 1000000000 → Ctr Tryz.prog 90 [isWords xs, isWords ys] (isWords (words (val xs * val ys))) := by
  intro N
  induction N with
  | zero => intro xs ys h hx hy; exact mul_MulStep hx hy (fun us vs hl => absurd hl (by omega))
  | succ N ih => intro xs ys h hx hy; exact mul_MulStep hx hy (fun us vs hl => ih us vs (by omega))
 intro xs ys hx hy
 exact h _ xs ys (Nat.le_refl _) hx hy
end Go.Proofs.YtcfobalbkhgdmaaGreat
namespace Go.En
open Go.RowKit
section
variable {E : Env} {P : Program} {Γ : Ctx} {M : Mem} {ty : TypeId} {pos : String} {after : Array Edge} {gd : Option (Nat × Bool)} {d : Option Tmp}
 {ops : Array Oper} {Q : Exit → Act → World → Prop} {rest : List Oper}
theorem Sat.sub {M' : Mem} {a : Act} {w : World} {F : Blk} (s : Sat E Γ M a w F) (h : M'.Sublist M) : Sat E Γ M' a w F :=
 {s with mem := ⟨s.mem.apart.sublist h, fun b C hb => s.mem.each b C (h.subset hb)⟩ }
def StS (E : Env) (P : Program) (Δ : Ctx) (M : Mem) (o : Oper) (M' : Mem) : Prop := o.guard = none ∧ ∀ a w F, Sat E Δ M a w F → ∀ (K : Act → World → Prop) (Q : Exit → Act → World → Prop),
 (∀ w', (∀ b, F b → w'.heap[b]? = w.heap[b]?) → (∀ Γ'', Sat E Γ'' M a w F → Sat E Γ'' M' a w' F) → K a w') → o.wp P a w K Q
theorem StS.store {x y : Operand} {b off i n : Nat} {g : Bool} {T : TypeId} {Ss Ss1 : List VP} {S : VP} [sh : Shape S Ss1] [o1 : Ones Ss1] (hx : Has E Γ M x (isPtr b off)) (hy : Has E Γ M y S)
  (hM : M[i]? = some (some b, cellM Ss)) (hT : tyB P T = some (n, g)) (hn : Nat.beq Ss1.length n = true) (hl : Nat.ble (off + n) Ss.length = true) {Ss' : List VP} {M' : Mem} (hS : Ss.take off ++ Ss1 ++ Ss.drop (off + n) = Ss')
  (hM' : M.set i (some b, cellM Ss') = M') : StS E P Γ M ⟨none, .store T x y, ty, pos, after, none⟩ M' := by
 refine ⟨rfl, fun a w F s K Q hK => ?_⟩
 obtain ⟨o, hb, vs, T', rfl, hv⟩ := mem_at s hM
 have h1 : a.eval x = .pointer (some ⟨b, off, none⟩) := hx a w F s
 have hy' := sh.cells _ _ _ (hy a w F s)
 have hn' : Ss1.length = n := Nat.eq_of_beq_eq_true hn
 have hl' := Nat.le_of_ble_eq_true hl
 have e1 := hv.len
 have e2 := hy'.len
 have hcs : (a.eval y).cells.size = n := by rw [← Array.length_toList, ← e2, hn']
 unfold Oper.wp
 have hr : (execOp a.eval (⟨none, .store T x y, ty, pos, after, none⟩ : Oper)).run P w = .ok .skip (w.setRow b (vs.take off ++ (a.eval y).cells.toList ++ vs.drop (off + n)).toArray) := by
  have h2 := run_storeCells_at P b off T' (a.eval y).cells.toList 0 vs.toArray w hb (by simp; omega) (hy'.one o1.ones)
  simp only [Nat.add_zero, Array.length_toList, hcs] at h2
  simp only [execOp, h1, Instr.storeAt, Instr.sureAddr, storeVar, Sem.run_bind, Sem.run_pure, Result.andThen_ok, run_size hT, hcs]
  simp only [ne_eq, not_true_eq_false, if_false, h2, Result.andThen_ok]
 rw [hr]
 have hF : ∀ k, F k → (w.setRow b (vs.take off ++ (a.eval y).cells.toList ++ vs.drop (off + n)).toArray).heap[k]? = w.heap[k]? := fun k hk => setRow_ne _ _ _ _ (fun e => by
  subst e; exact (s.mem.each k _ (List.mem_of_getElem? hM)).2.2.1 hk)
 refine hK _ hF fun Γ'' s'' => ?_
 rw [← hM']
 refine s''.write hM rfl rfl rfl (setRow_size _ _ _) (fun k hk => setRow_ne _ _ _ _ hk) (setRow_heap _ _ _ _ _ _ hb) ⟨_, T', rfl, ?_⟩
 refine All2.mono hF (fun _ h => h) _ _ ?_
 rw [← hS]
 exact ((hv.take off).append hy').append (hv.drop _)
def DrH (E : Env) (P : Program) (id : Nat) (l : List Oper) (Γ : Ctx) (M Ms : Mem) (Q : Exit → Act → World → Prop) (i : Nat) (Θ : Ctx) : Prop :=
 ∀ Ss, DrW E P l Γ Ms i Ss → (∀ t S, look Θ t = some S → ∃ (j : Nat) (o : Oper), j < i ∧ l[j]? = some o ∧ o.dst = some t ∧ Ss[j]? = some S) → Tri E P (.region id l.toArray true) Γ M Q
def keepM : List Bool → Mem → Mem
 | true :: bs, m :: M => m :: keepM bs M
 | false :: bs, _ :: M => keepM bs M
 | _, _ => []
theorem Tri.drh {id : Nat} {l : List Oper} {Ms : Mem} (bs : List Bool) (e : keepM bs M = Ms) (h : DrH E P id l Γ M Ms Q 0 []) : Tri E P (.region id l.toArray true) Γ M Q := h [] .nil (fun t S ht => by simp [look] at ht)
theorem DrH.sx {id i d : Nat} {l : List Oper} {Θ : Ctx} {S : VP} {o : Oper} {Ms : Mem} (ts : List Nat) (h1 : l[i]? = some o) (h2 : o.dst = some d) (h3 : Nat.blt d E.n = true)
    (h4 : behindB l i ts = true) (h5 : OKX E P l.toArray (keepc ts Θ ++ Γ) Ms o S) (k : DrH E P id l Γ M Ms Q (i + 1) ((d, S) :: Θ)) : DrH E P id l Γ M Ms Q i Θ := by
  intro Ss hD hΘ
  obtain ⟨hlen, _⟩ := hD.at
  refine k (Ss ++ [S]) (.snoc _ hD h1 h2 h3 (fun t S' ht => ?_) h5) (fun t S' ht => ?_)
  · rw [look_append] at ht
    cases hl : look (keepc ts Θ) t with
    | none => rw [hl] at ht; exact .inr (by simpa using ht)
    | some S'' =>
      rw [hl] at ht
      obtain rfl : S'' = S' := by simpa using ht
      obtain ⟨hm, hl2⟩ := look_keepc _ _ _ hl
      obtain ⟨j, oj, b0, b1, b2, b3⟩ := hΘ t S'' hl2
      refine .inl ⟨j, oj, ?_, b1, b2, b3⟩
      have := List.all_eq_true.1 h4 j (by simpa using b0)
      rw [b1] at this
      simp only [Option.bind_some, b2, Bool.or_eq_true] at this
      rcases this with h | h
      · exact h
      · have := List.all_eq_true.1 h t hm
        simp [Nat.beq_refl] at this
  · simp only [look] at ht
    cases hb : Nat.beq d t with
    | true =>
      rw [hb] at ht; simp at ht; subst ht
      obtain rfl := Nat.eq_of_beq_eq_true hb
      exact ⟨i, o, by omega, h1, h2, by rw [List.getElem?_append_right (by omega)]; simp [hlen]⟩
    | false =>
      rw [hb] at ht
      obtain ⟨j, oj, b0, b1, b2, b3⟩ := hΘ t S' ht
      exact ⟨j, oj, by omega, b1, b2, by rw [List.getElem?_append_left (by omega)]; exact b3⟩
theorem DrH.st {id i d : Nat} {l : List Oper} {Θ : Ctx} {S : VP} {o : Oper} {Ms : Mem} (ts : List Nat) (h1 : l[i]? = some o) (h2 : o.dst = some d) (h3 : Nat.blt d E.n = true)
  (h4 : behindB l i ts = true) (h5 : OKG E P l.toArray (keepc ts Θ ++ Γ) Ms o S) (k : DrH E P id l Γ M Ms Q (i + 1) ((d, S) :: Θ)) : DrH E P id l Γ M Ms Q i Θ := DrH.sx ts h1 h2 h3 h4 h5.x k
theorem DrH.s {id i d : Nat} {l : List Oper} {Θ : Ctx} {S : VP} {o : Oper} {Ms : Mem} (ts : List Nat) (h1 : l[i]? = some o) (h2 : o.dst = some d) (h3 : Nat.blt d E.n = true) (h5 : OKG E P l.toArray (keepc ts Θ ++ Γ) Ms o S) (k : DrH E P id l Γ M Ms Q (i + 1) ((d, S) :: Θ)) (h4 : behindB l i ts = true := by kernel_rfl) : DrH E P id l Γ M Ms Q i Θ :=
 DrH.st ts h1 h2 h3 h4 h5 k
def chainB (l : List Oper) (n1 m : Nat) : Bool := (List.range m).all fun j => (((masks l [])[n1 + m]?).getD 0).testBit (n1 + j)
end
end Go.En
namespace Go.En
open Go.RowKit
section
variable {E : Env} {P : Program} {Γ : Ctx} {M : Mem} {ty : TypeId} {pos : String} {after : Array Edge} {gd : Option (Nat × Bool)} {d : Option Tmp}
 {ops : Array Oper} {Q : Exit → Act → World → Prop} {rest : List Oper}
def isOP (o : Option Nat) : VP := .pure fun v => ∀ b, o = some b → v = .pointer (some ⟨b, 0, none⟩)
def gctx : List Nat → List (Option Nat) → Ctx
 | d :: ds, o :: B => (d, isOP o) :: gctx ds B
 | _, _ => []
def gmem : List MP → List (Option Nat) → Mem
 | C :: Cs, o :: B => (o, C) :: gmem Cs B
 | _, _ => []
theorem Has.op {t b : Nat} (h : look Γ t = some (isOP (some b))) : Has E Γ M (.tmp t) (isPtr b 0) := fun a w F s => s.slots t _ h b rfl
theorem look_gctx_at : ∀ (ds : List Nat) (B : List (Option Nat)) (t : Nat) (S : VP), look (gctx ds B) t = some S → ∃ (j : Nat) (o : Option Nat), ds[j]? = some t ∧ B[j]? = some o ∧ S = isOP o
  | [], B, t, S, h => by simp [gctx, look] at h
  | d :: ds, [], t, S, h => by simp [gctx, look] at h
  | d :: ds, o :: B, t, S, h => by
    simp only [gctx, look] at h
    cases hb : Nat.beq d t with
    | true => rw [hb] at h; simp at h; exact ⟨0, o, by simp [Nat.eq_of_beq_eq_true hb], rfl, h.symm⟩
    | false => rw [hb] at h; obtain ⟨j, o', h1, h2, h3⟩ := look_gctx_at ds B t S h; exact ⟨j + 1, o', by simpa using h1, by simpa using h2, h3⟩
theorem look_gctx (ds : List Nat) (B : List (Option Nat)) (t : Nat) (S : VP) (h : look (gctx ds B) t = some S) : ∃ j : Nat, ds[j]? = some t := by
 obtain ⟨j, o, h1, _⟩ := look_gctx_at ds B t S h; exact ⟨j, h1⟩
theorem look_gctx_set : ∀ (ds : List Nat) (B : List (Option Nat)) (j b : Nat) (t : Nat) (S : VP), look (gctx ds (B.set j (some b))) t = some S → (ds[j]? = some t ∧ S = isOP (some b)) ∨ look (gctx ds B) t = some S
  | [], B, j, b, t, S, h => by simp [gctx, look] at h
  | d :: ds, [], j, b, t, S, h => by simp [gctx, look] at h
  | d :: ds, o :: B, 0, b, t, S, h => by
    simp only [List.set_cons_zero, gctx, look] at h ⊢
    cases hb : Nat.beq d t with
    | true => rw [hb] at h; simp at h; exact .inl ⟨by simp [Nat.eq_of_beq_eq_true hb], h.symm⟩
    | false => rw [hb] at h; exact .inr h
  | d :: ds, o :: B, j + 1, b, t, S, h => by
    simp only [List.set_cons_succ, gctx, look] at h ⊢
    cases hb : Nat.beq d t with
    | true => rw [hb] at h; exact .inr h
    | false =>
      rw [hb] at h
      rcases look_gctx_set ds B j b t S h with h1 | h1
      · exact .inl ⟨by simpa using h1.1, h1.2⟩
      · exact .inr h1
theorem gmem_set : ∀ (Cs : List MP) (B : List (Option Nat)) (q b : Nat) {n : Nat} {M : Mem} {C : MP}, B.length = n → Cs.length = n → Cs[q]? = some C → q < n → (gmem Cs B ++ M).set q (some b, C) = gmem Cs (B.set q (some b)) ++ M
  | [], B, q, b, n, M, C, h1, h2, h3, h4 => by simp at h3
  | C0 :: Cs, [], q, b, n, M, C, h1, h2, h3, h4 => by simp at h1; omega
  | C0 :: Cs, o :: B, 0, b, n, M, C, h1, h2, h3, h4 => by simp at h3; subst h3; rfl
  | C0 :: Cs, o :: B, q + 1, b, n, M, C, h1, h2, h3, h4 => by
    obtain ⟨n, rfl⟩ : ∃ k, n = k + 1 := ⟨n - 1, by omega⟩
    have := gmem_set Cs B q b (n := n) (M := M) (C := C) (by simpa using h1) (by simpa using h2) (by simpa using h3) (by omega)
    simp only [gmem, List.cons_append, List.set_cons_succ, this]
theorem all_some : ∀ {B : List (Option Nat)}, (∀ (j : Nat) (o : Option Nat), B[j]? = some o → o ≠ none) → ∃ bs : List Nat, bs.length = B.length ∧ B = bs.map some
  | [], _ => ⟨[], rfl, rfl⟩
  | none :: B, h => absurd rfl (h 0 none rfl)
  | some b :: B, h => by
    obtain ⟨bs, h1, h2⟩ := all_some (B := B) fun j o hj => h (j + 1) o (by simpa using hj)
    exact ⟨b :: bs, by simp [h1], by rw [h2]; rfl⟩
structure AlAt (E : Env) (P : Program) (l : List Oper) (n0 n1 k : Nat) (ds : List Nat) (Cs : Nat → List MP) (j : Nat) : Prop where
 full : ∃ (d : Nat) (T : TypeId) (z : Value) (Zs : List VP) (ty : TypeId) (pos : String) (after : Array Edge), ds[j]? = some d ∧ l[n0 + j]? = some ⟨some d, .alloc T, ty, pos, after, none⟩ ∧ d < E.n ∧ zeroB P T = some z ∧ (∀ w F, All2 Zs w F z.cells.toList) ∧
  ∀ m, m ≤ k → (Cs m)[j]? = some (cellM Zs) ∨ ∃ m', m' < m ∧ (((masks l [])[n1 + m']?).getD 0).testBit (n0 + j) = true
theorem AlAt.ex {l : List Oper} {n0 n1 k : Nat} {ds : List Nat} {Cs : Nat → List MP} {j : Nat} (h : AlAt E P l n0 n1 k ds Cs j) : ∃ (d : Nat) (T : TypeId) (z : Value) (ty : TypeId) (pos : String) (after : Array Edge), ds[j]? = some d ∧ l[n0 + j]? = some ⟨some d, .alloc T, ty, pos, after, none⟩ ∧ True := by
 obtain ⟨d, T, z, Zs, ty, pos, after, q1, q2, _⟩ := h.full; exact ⟨d, T, z, ty, pos, after, q1, q2, trivial⟩
inductive Als (E : Env) (P : Program) (l : List Oper) : Nat → List Nat → List (List VP) → Prop
 | nil {i : Nat} : Als E P l i [] []
 | cons {i d : Nat} {T : TypeId} {z : Value} {Zs : List VP} {ds : List Nat} {zs : List (List VP)} {ty : TypeId} {pos : String} {after : Array Edge} (h1 : l[i]? = some ⟨some d, .alloc T, ty, pos, after, none⟩) (h2 : Nat.blt d E.n = true)
   (h3 : zeroB P T = some z) (h4 : ∀ w F, All2 Zs w F z.cells.toList) (r : Als E P l (i + 1) ds zs) : Als E P l i (d :: ds) (Zs :: zs)
theorem Als.len {l : List Oper} : ∀ {i : Nat} {ds : List Nat} {zs : List (List VP)}, Als E P l i ds zs → zs.length = ds.length
 | _, _, _, .nil => rfl
 | _, _, _, .cons _ _ _ _ r => congrArg (· + 1) r.len
theorem Als.at {l : List Oper} : ∀ {i : Nat} {ds : List Nat} {zs : List (List VP)}, Als E P l i ds zs → ∀ q, q < ds.length → ∃ (d : Nat) (T : TypeId) (z : Value) (Zs : List VP) (ty : TypeId) (pos : String) (after : Array Edge), ds[q]? = some d ∧ l[i + q]? = some ⟨some d, .alloc T, ty, pos, after, none⟩ ∧ d < E.n ∧ zeroB P T = some z ∧ (∀ w F, All2 Zs w F z.cells.toList) ∧ zs[q]? = some Zs
  | _, _, _, .nil, q, h => by simp at h
  | i, _, _, .cons h1 h2 h3 h4 r, 0, _ => ⟨_, _, _, _, _, _, _, rfl, h1, by simpa [Nat.blt_eq] using h2, h3, h4, rfl⟩
  | i, _, _, .cons h1 h2 h3 h4 r, q + 1, h => by
    obtain ⟨d, T, z, Zs, ty, pos, after, a1, a2, a3, a4, a5, a6⟩ := r.at q (by simpa using h)
    exact ⟨d, T, z, Zs, ty, pos, after, by simpa using a1, by rw [show i + (q + 1) = i + 1 + q by omega]; exact a2, a3, a4, a5, by simpa using a6⟩
theorem look_left {A B : Ctx} {t : Nat} {S : VP} (h : look A t = some S) : look (A ++ B) t = some S := by rw [look_append, h]; rfl
theorem Has.up {Δ X : Ctx} {M' : Mem} {y : Operand} {S : VP} (h : Has E Δ [] y S) : Has E (Δ ++ X) M' y S := fun a w F s => h a w F ((s.wider fun t S ht => s.slots t S (look_left ht)).sub (List.nil_sublist _))
theorem gmem_at : ∀ (Cs : List MP) (B : List (Option Nat)) (q : Nat) {o : Option Nat} {C : MP} {M : Mem}, B[q]? = some o → Cs[q]? = some C → (gmem Cs B ++ M)[q]? = some (o, C)
  | [], B, q, o, C, M, h1, h2 => by simp at h2
  | C0 :: Cs, [], q, o, C, M, h1, h2 => by simp at h1
  | C0 :: Cs, o0 :: B, 0, o, C, M, h1, h2 => by simp at h1 h2; subst h1; subst h2; rfl
  | C0 :: Cs, o0 :: B, q + 1, o, C, M, h1, h2 => by
    have := gmem_at Cs B q (M := M) (by simpa using h1) (by simpa using h2)
    simpa [gmem] using this
theorem gmem_setC : ∀ (Cs : List MP) (B : List (Option Nat)) (q : Nat) {o : Option Nat} {C : MP} {M : Mem}, B[q]? = some o → (gmem Cs B ++ M).set q (o, C) = gmem (Cs.set q C) B ++ M ∨ Cs.length ≤ q
  | [], B, q, o, C, M, h1 => .inr (by simp)
  | C0 :: Cs, [], q, o, C, M, h1 => by simp at h1
  | C0 :: Cs, o0 :: B, 0, o, C, M, h1 => by simp at h1; subst h1; exact .inl rfl
  | C0 :: Cs, o0 :: B, q + 1, o, C, M, h1 => by
    rcases gmem_setC Cs B q (C := C) (M := M) (by simpa using h1) with h | h
    · exact .inl (by simp only [gmem, List.cons_append, List.set_cons_succ, h])
    · exact .inr (by simpa using h)
theorem gmem_len : ∀ (Cs : List MP) (B : List (Option Nat)), Cs.length = B.length → (gmem Cs B).length = B.length
 | [], [], _ => rfl
 | [], _ :: _, h => by simp at h
 | _ :: _, [], h => by simp at h
 | C :: Cs, o :: B, h => by simp [gmem, gmem_len Cs B (by simpa using h)]
theorem look_gctx_of : ∀ (ds : List Nat) (B : List (Option Nat)) (q d : Nat) (o : Option Nat), (∀ i, i < q → ds[i]? ≠ some d) → ds[q]? = some d → B[q]? = some o → look (gctx ds B) d = some (isOP o)
  | [], B, q, d, o, h0, h1, h2 => by simp at h1
  | e :: ds, [], q, d, o, h0, h1, h2 => by simp at h2
  | e :: ds, o' :: B, 0, d, o, h0, h1, h2 => by simp at h1 h2; subst h1; subst h2; simp [gctx, look, nbeq_self]
  | e :: ds, o' :: B, q + 1, d, o, h0, h1, h2 => by
    have hne : Nat.beq e d = false := by
      cases hb : Nat.beq e d with
      | false => rfl
      | true => exact absurd (by simp [Nat.eq_of_beq_eq_true hb]) (h0 0 (by omega))
    simp only [gctx, look, hne]
    exact look_gctx_of ds B q d o (fun i hi => by simpa using h0 (i + 1) (by omega)) (by simpa using h1) (by simpa using h2)
theorem len1 {bs : List Nat} (h : bs.length = 1) : ∃ a, bs = [a] := by match bs, h with | [a], _ => exact ⟨a, rfl⟩
end
end Go.En
