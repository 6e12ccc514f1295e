/- The law ZcharCompanions, as it is stated, of the given program, for every input; no condition. -/
import Derived.Test.YtcfobalbkhgdmaaGreatQZcharCompanions4
import Derived.Deep.SlicePairs
import Derived.Test.YtcfobalbkhgdmaaGreatRows
namespace Go.Proofs.YtcfobalbkhgdmaaGreat
open Go.En Go.RowKit
set_option maxRecDepth 10000
set_option maxHeartbeats 4000000
open Go.Nt
open Go.Pz
open Go.Mz
open Go.Mu
open Go.Qe
theorem sl_IndexIQ {xs : List Int} {v : Int} : Ctr Tryz.prog 80 [SlM isI xs, isI v] (isI (ixf (fun x => decide (v = x)) xs)) := by
 refine Ctr.intro Tryz.func80 rfl (by kernel_rfl) Tryz.ntmps80 rfl fun w0 F0 => .cv (Cv.wk (.l [0, 1] rfl)) (.fact (Has.lenLt (Has.t (t := 0) rfl)) fun lt0 => .fact (Has.rngI (Has.t (t := 1) rfl)) fun lt1 => .seq fun _ k1 => .region (st (.as (.cI 0 rfl)) rfl (nl (.thn (k1 _ _ (.seq fun _ k2 => .seq fun _ k3 => .region (st (.mv (.t rfl)) rfl (st (.len sl91 (.t rfl)) rfl (st (.mv (.cI 0 rfl)) rfl (nl (.thn (k3 _ _ (.block (.loopF [0, 1, 7] (fun (z : { i : Nat // i ≤ xs.length ∧ ∀ j, j < i → decide (v = xs.getD j 0) = false }) => match z with | ⟨i, hI⟩ => [(8, isI (i : Int))]) (fun M => fun (z : { i : Nat // i ≤ xs.length ∧ ∀ j, j < i → decide (v = xs.getD j 0) = false }) => match z with | ⟨i, hI⟩ => M) (fun (z : { i : Nat // i ≤ xs.length ∧ ∀ j, j < i → decide (v = xs.getD j 0) = false }) => match z with | ⟨i, hI⟩ => xs.length - i) (⟨0, Nat.zero_le _, fun j hj => absurd hj (Nat.not_lt_zero _)⟩) (Cv.mem (.c 8 rfl ?_ (.l [0, 1, 7] rfl)) ?_) ?_))))))))))))))
 ·rfl
 ·rfl
 rintro ⟨i, hi, hq⟩ K4 hK4
 refine .cv (Cv.wk (.l [8, 0, 1, 7] rfl)) (.seq fun _ k5 => .region (st (.ltI (.t rfl) (.t rfl)) rfl (nl (.thn (k5 _ _ (.seq fun _ k6 => .cond (.t rfl) (fun hc1 => ?_) (fun hc1 => ?_)))))))
 ·have hc1 := BP.t hc1
  refine .skip (.thn (k6 _ _ (.seq fun _ k7 => .block (.seq fun _ k8 => .region (st (.mv (.t rfl)) rfl (st (.as (.t rfl)) rfl (nl (.thn (k8 _ _ (.seq fun _ k9 => .region (st (.mv (.t rfl)) rfl (st (.mv (.t rfl)) rfl (st (.mv (.t rfl)) rfl (st (.ixP sl91 ty3 (.t rfl) (.t rfl) ⟨by omega, by omega⟩ (getD_some (d := 0) (by first | omega | (simp only [Int.toNat_natCast, List.length_set]; omega)))) rfl ?_))))))))))))))
  refine st (.loadP1 (.t rfl) ty3) rfl (st (.eqI (.t rfl) (.t rfl)) rfl (nl (.thn (k9 _ _ (.cond (.t rfl) (fun hc2 => ?_) (fun hc2 => ?_))))))
  ·have hc2 := BP.t hc2
   have HQ := hc2
   refine .seq fun _ k10 => .region (st (.mv (.t rfl)) rfl (st (.as (.t rfl)) rfl (nl (.thn (k10 _ _ (.ret (.blr (.thr (.thr (.blr (.thr (rt1 (.inl rfl) Tryz.results80 rfl (.tmp (Has.t' rfl ?_) .nil)))))))))))))
   all_goals (exact isI_eq (ixf_at (q := fun x => decide (v = x)) (d := 0) (by omega) hq (by simpa using HQ)))
  ·have hc2 := BP.f hc2
   have HQ := hc2
   refine .skip (.bln (.thn (k7 _ _ (.region (st (.addI (.t rfl) (.cI 1 rfl) (by first | omega | assumption) (by first | omega | assumption)) rfl (st (.mv (.t rfl)) rfl (nl (.thn ?_))))))))
   refine hK4 (⟨i + 1, by omega, fun j hj => by rcases Nat.lt_or_ge j i with h | h; exact hq j h; obtain rfl : j = i := (by omega); simpa using HQ⟩) _ _ ?_ (Cv.mem (.c 8 rfl ?_ (.l [0, 1, 7] rfl)) ?_)
   ·show xs.length - (i + 1) < xs.length - i; omega
   ·exact isI_eq (by omega)
   ·rfl
 ·have hc1 := BP.f hc1
  refine .exit (.the (.the (.blh (.thn (k2 _ _ (.cv (Cv.wk .nil) (.seq fun _ k11 => .region (st (.as (.cI (-1) rfl)) rfl (nl (.thn (k11 _ _ (.ret (rt1 (.inl rfl) Tryz.results80 rfl (.tmp (Has.t' rfl ?_) .nil))))))))))))))
  all_goals (exact isI_eq (ixf_none (q := fun x => decide (v = x)) (d := 0) (i := i) (by omega) hq))
theorem sl_IndexFuncR1 {K : Nat} {L : List Rat} {t : Rat → Bool} (hb : QB L K) (hl : L.length ≤ 128) : Ctr Tryz.prog 107 [isQs L, isFun (ι := { q : Rat // qs q ≤ K }) Tryz.prog (fun p => [isQ p.1]) (fun p => isB (t p.1))] (isI (ixf t L)) := by
 refine Ctr.intro Tryz.func107 rfl (by kernel_rfl) Tryz.ntmps107 rfl fun w0 F0 => .cv (Cv.wk (.l [0, 1] rfl)) ?_
 have hml : (L.map nq).length = L.length := List.length_map _
 refine .seq fun _ k1 => .region (st (.as (.cI 0 rfl)) rfl (nl (.thn (k1 _ _ (.seq fun _ k2 => .seq fun _ k3 => .region (st (.mv (.t rfl)) rfl (st (.len sl68 (.t rfl)) rfl (st (.mv (.cI 0 rfl)) rfl (nl (.thn (k3 _ _ (.block (.loopF [0, 1, 7] (fun (z : { i : Nat // i ≤ L.length ∧ ∀ j, j < i → t (L.getD j 0) = false }) => match z with | ⟨i, hI⟩ => [(8, isI (i : Int))]) (fun M => fun (z : { i : Nat // i ≤ L.length ∧ ∀ j, j < i → t (L.getD j 0) = false }) => match z with | ⟨i, hI⟩ => M) (fun (z : { i : Nat // i ≤ L.length ∧ ∀ j, j < i → t (L.getD j 0) = false }) => match z with | ⟨i, hI⟩ => L.length - i) (⟨0, Nat.zero_le _, fun j hj => absurd hj (Nat.not_lt_zero _)⟩) (Cv.mem (.c 8 rfl ?_ (.l [0, 1, 7] rfl)) ?_) ?_)))))))))))))
 ·rfl
 ·rfl
 rintro ⟨i, hi, hq⟩ K4 hK4
 refine .cv (Cv.wk (.l [8, 0, 1, 7] rfl)) (.seq fun _ k5 => .region (st (.ltI (.t rfl) (.t rfl)) rfl (nl (.thn (k5 _ _ (.seq fun _ k6 => .cond (.t rfl) (fun hc1 => ?_) (fun hc1 => ?_)))))))
 ·have hc1 := BP.t hc1
  refine .skip (.thn (k6 _ _ (.seq fun _ k7 => .block (.seq fun _ k8 => .region (st (.mv (.t rfl)) rfl (st (.as (.t rfl)) rfl (nl (.thn (k8 _ _ (.seq fun _ k9 => .region (st (.mv (.t rfl)) rfl (st (.mv (.t rfl)) rfl (st (.mv (.t rfl)) rfl (st (.ixK sl68 ty75 (.t rfl) (.t rfl) rc_len ⟨by omega, by omega⟩ (getQ (i := i) (by omega))) rfl (st (.loadP (.t rfl) ty75 rfl (Ss' := [_, _, _, _]) rfl) rfl (st (.callV ⟨qf L i, hb i⟩ (.t rfl) (.cons (.t rfl) .nil)) rfl (nl (.thn (k9 _ _ (.cond (.t rfl) (fun hc2 => ?_) (fun hc2 => ?_)))))))))))))))))))))
  ·have hc2 := BP.t hc2
   have HQ : t (L.getD i 0) = true := hc2
   refine .seq fun _ k10 => .region (st (.mv (.t rfl)) rfl (st (.as (.t rfl)) rfl (nl (.thn (k10 _ _ (.ret (.blr (.thr (.thr (.blr (.thr (rt1 (.inl rfl) Tryz.results107 rfl (.tmp (Has.t' rfl ?_) .nil)))))))))))))
   all_goals (exact isI_eq (ixf_at (d := 0) (by omega) hq HQ))
  ·have hc2 := BP.f hc2
   have HQ : t (L.getD i 0) = false := hc2
   refine .skip (.bln (.thn (k7 _ _ (.region (st (.addI (.t rfl) (.cI 1 rfl) (by first | omega | assumption) (by first | omega | assumption)) rfl (st (.mv (.t rfl)) rfl (nl (.thn ?_))))))))
   refine hK4 (⟨i + 1, by omega, fun j hj => by rcases Nat.lt_or_ge j i with h | h; exact hq j h; obtain rfl : j = i := (by omega); exact HQ⟩) _ _ ?_ (Cv.mem (.c 8 rfl ?_ (.l [0, 1, 7] rfl)) ?_)
   ·show L.length - (i + 1) < L.length - i; omega
   ·exact isI_eq (by omega)
   ·rfl
 ·have hc1 := BP.f hc1
  refine .exit (.the (.the (.blh (.thn (k2 _ _ (.cv (Cv.wk .nil) (.seq fun _ k11 => .region (st (.as (.cI (-1) rfl)) rfl (nl (.thn (k11 _ _ (.ret (rt1 (.inl rfl) Tryz.results107 rfl (.tmp (Has.t' rfl ?_) .nil))))))))))))))
  all_goals (exact isI_eq (ixf_none (d := 0) (i := i) (by omega) hq))
theorem sl_ContainsFuncQ {K : Nat} {L : List Rat} {t : Rat → Bool} (hb : QB L K) (hl : L.length ≤ 128) : Ctr Tryz.prog 75 [isQs L, isFun (ι := { q : Rat // qs q ≤ K }) Tryz.prog (fun p => [isQ p.1]) (fun p => isB (t p.1))] (isB (decide (0 ≤ ixf t L))) := by
 refine Ctr.intro Tryz.func75 rfl (by kernel_rfl) Tryz.ntmps75 rfl fun w0 F0 => .cv (Cv.wk (.l [0, 1] rfl)) (.seq fun _ k1 => .region (st (.as (.cB false)) rfl (nl (.thn (k1 _ _ (.seq fun _ k2 => .region (st (.mv (.t rfl)) rfl (st (.mv (.t rfl)) rfl (st (.call (sl_IndexFuncR1 hb hl) (.cons (.t rfl) (.cons (.t rfl) .nil))) rfl (st (.geI (.t rfl) (.cI 0 rfl)) rfl (st (.as (.t rfl)) rfl (nl (.thn (k2 _ _ (.cv (Cv.wk (.l [4] rfl)) (.ret (rt1 (.inl rfl) Tryz.results75 rfl (.tmp (Has.t' rfl ?_) .nil))))))))))))))))))
 all_goals (rfl)
theorem qmat_Solve_1 {q : Rat} {K : Nat} (hq : qs q ≤ K) (hK : K ≤ 900000000) : Ctr Tryz.prog 76 [isQ q] (isB (nzr q)) := by
 refine Ctr.intro Tryz.func76 rfl (by kernel_rfl) Tryz.ntmps76 rfl fun w0 F0 => .cv (Cv.wk (.l [0] rfl)) (.seq fun _ k1 => .region (.box (.t rfl) rfl fun b1 => st (.as (.cB false)) rfl (nl (.thn (k1 _ _ (.seq fun _ k2 => .region (st (.load (.t rfl) (i := 0) rfl ty75 rfl (Ss' := [_, _, _, _]) rfl) rfl (st (.call (rat_Sign hq (by omega)) (.cons (.t rfl) .nil)) rfl (st (.neI (.t rfl) (.cI 0 rfl)) rfl (st (.as (.t rfl)) rfl (nl (.thn (k2 _ _ (.cv (Cv.wk (.l [2] rfl)) (.ret (rt1 (.inl rfl) Tryz.results76 rfl (.tmp (Has.t' rfl ?_) .nil)))))))))))))))))
 all_goals (exact isB_eq (by simp [nzr, sgn_eq0, Rat.num_eq_zero]))
theorem qmat_Solve_2 {R C W K i k : Nat} {s : QS} (hs : s.rows.length = R) (hw : ∀ r ∈ s.rows, r.length = W) {r : Int} {xs : List Rat} (hps : s.ps.length ≤ R) (hC : C ≤ 64) (hk : C + k < W) (hW : W ≤ 128) : Ctr Tryz.prog 79 [isI (i : Int), isI (k : Int), PtrL [wkFQ C s], ptMQ r (C : Int) xs] (isQ (solQ s C i k)) := by
 refine Ctr.intro Tryz.func79 rfl (by kernel_rfl) Tryz.ntmps79 rfl fun w0 F0 => .cv (Cv.wk (.l [0, 1, 2, 3] rfl)) (.fact (Has.rngI (Has.t (t := 0) rfl)) fun lt0 => .fact (Has.rngI (Has.t (t := 1) rfl)) fun lt1 => ?_)
 obtain ⟨z0, hz0⟩ : ∃ z0 : Int, z0 = ixf (fun x => decide ((i : Int) = x)) (pv s.ps) := ⟨_, rfl⟩
 have hpv := pv_len s.ps
 refine .seq fun _ k1 => .region (.alloc [isB false, SlM isU [], isB false, SlM isU []] zero75 (fun _ _ => ⟨rfl, nilM _ _, rfl, nilM _ _, trivial⟩) rfl fun b1 => nl (.thn (k1 _ _ (.seq fun _ k2 => .seq fun _ k3 => .region (st (.loadP1 (.t rfl) ty102) rfl (st (.nilcP (.t rfl)) rfl (st (.fieldAddrP (.t rfl) fld106_2 ty91 (Ss' := [_]) rfl) rfl (st (.loadP1 (.t rfl) ty91) rfl (st (.mv (.t rfl)) rfl (st (.eq (.call (sl_IndexIQ) (.cons (.t rfl) (.cons (.t rfl) .nil))) ((show isI _ = isI z0 from isI_eq hz0.symm))) rfl (st (.as (.t rfl)) rfl (nl (.thn (k3 _ _ (.cv (Cv.wk (.l [1, 2, 3, 6, 7] rfl)) (.seq fun _ k4 => .region (st (.mv (.t rfl)) rfl (st (.geI (.t rfl) (.cI 0 rfl)) rfl (nl (.thn (k4 _ _ (.cond (.t rfl) (fun hc1 => ?_) (fun hc1 => ?_)))))))))))))))))))))))
 ·have hc1 := BP.t hc1
  obtain ⟨n0, rfl, hn0, hn1⟩ := ixq_yes hz0 (by omega)
  have hidx : idxQ s.ps i = n0 := hn0.symm
  have hrl : (s.rows.getD n0 []).length = W := hw _ (by rw [List.getD, List.getElem?_eq_getElem (by omega)]; exact List.getElem_mem _)
  have hrm : ((s.rows.getD n0 []).map nq).length = W := by rw [List.length_map]; exact hrl
  refine .seq fun _ k5 => .dr (.s [] rfl rfl rfl (.o rfl (.loadP1 (.t rfl) ty102)) (.s [16] rfl rfl rfl (.o rfl (.nilcP (.t rfl))) (.s [17] rfl rfl rfl (.o rfl (.fieldAddrP (.t rfl) fld106_0 ty104 (Ss' := [_, _, _]) rfl)) (.s [18] rfl rfl rfl (.o rfl (.loadP1 (.t rfl) ty104)) (.s [] rfl rfl rfl (.o rfl (.mv (.t rfl))) (.s [19, 20] rfl rfl rfl (.o rfl (.ixP sl104 ty68 (.t rfl) (.t rfl) ⟨by omega, by omega⟩ (getD_some (d := []) (by first | omega | (simp only [Int.toNat_natCast, List.length_set]; omega))))) ?_))))))
  refine .s [21] rfl rfl rfl (.o rfl (.eq (.loadP1 (.t rfl) ty68) ((show isQs _ = isQs (s.rows.getD n0 []) from rfl)))) (.s [] rfl rfl rfl (.o rfl (.fieldAddrP (.t rfl) fld70_1 ty3 (Ss' := [_, _]) rfl)) (.s [23] rfl rfl rfl (.o rfl (.loadP1 (.t rfl) ty3)) (.s [] rfl rfl rfl (.o rfl (.mv (.t rfl))) (.s [24, 25] rfl rfl rfl (.o rfl (.eq (.addI (.t rfl) (.t rfl) (by first | omega | assumption) (by first | omega | assumption)) ((show isI _ = isI ((C + k : Nat) : Int) from isI_eq (by omega))))) (.fin (n := 11) mixed (by kernel_rfl) (by kernel_rfl) (by kernel_rfl) (.cv (Cv.wk (.l [6, 22, 26] rfl)) (st (.ixK sl68 ty75 (.t rfl) (.t rfl) rc_len ⟨by omega, by omega⟩ (getQ (i := C + k) (by omega))) rfl (st (.loadP (.t rfl) ty75 rfl (Ss' := [_, _, _, _]) rfl) rfl (.store (.t rfl) (.t rfl) (i := 0) rfl ty75 rfl rfl (Ss' := [_, _, _, _]) rfl (M' := [(some _, cellM [_, _, _, _])]) rfl (nl (.thn (k5 _ _ (.ret (.thr (rt1 (.inl rfl) Tryz.results79 rfl (.cell rfl (i := 0) rfl ty75 rfl ?_ .nil))))))))))))))))
  all_goals (exact isQ_eq (by unfold solQ; rw [hidx, if_pos (by omega)]; rfl))
 ·have hc1 := BP.f hc1
  have hidx : ¬ idxQ s.ps i < s.ps.length := fun h => ixq_no hz0 (by omega) (by rw [hpv]; exact h)
  refine .skip (.thn (k2 _ _ (.cv (Cv.wk (.l [6] rfl)) (.seq fun _ k6 => .region (st (.call (qmat_zero) .nil) rfl (.store (.t rfl) (.t rfl) (i := 0) rfl ty75 rfl rfl (Ss' := [_, _, _, _]) rfl (M' := [(some _, cellM [_, _, _, _])]) rfl (nl (.thn (k6 _ _ (.ret (rt1 (.inl rfl) Tryz.results79 rfl (.cell rfl (i := 0) rfl ty75 rfl ?_ .nil))))))))))))
  all_goals (exact isQ_eq (by unfold solQ; rw [if_neg hidx]))
theorem ixq_lt {α : Type} {q : α → Bool} {xs : List α} (h : 0 ≤ ixf q xs) : ixn q xs < xs.length := Classical.byContradiction fun h1 => by
 unfold ixf at h
 rw [if_neg h1] at h; omega
theorem ixq_of_lt {α : Type} {q : α → Bool} {xs : List α} (h : ixn q xs < xs.length) : 0 ≤ ixf q xs := by
 unfold ixf
 rw [if_pos h]; omega
theorem qmat_Solve {R C D K : Nat} {xs ys : List Rat} (hx : QB xs K) (hy : QB ys K) (hK1 : 1 ≤ K) (hK : 8 ^ C * K ≤ 100000000) (hR : R ≤ 64) (hC : C ≤ 64) (hD : D ≤ 64) (hxl : xs.length = R * C) (hyl : ys.length = R * D) (hgood : ¬ badQ (redQ R C D xs ys) C) : Ctr Tryz.prog 40 [isMQ R C xs, isMQ R D ys] (isTup [isMQ C D (tabQ (C * D) D fun i k => solQ (redQ R C D xs ys) C i k), isI 0]) := by
 refine Ctr.intro Tryz.func40 rfl (by kernel_rfl) Tryz.ntmps40 rfl fun w0 F0 => .cv (Cv.wk (.l [0, 1] rfl)) ?_
 have hRC := side_le hR hC
 have hRD := side_le hR hD
 have hf1 := formB_true hR hC (show (xs.map nq).length = R * C by rw [List.length_map]; exact hxl)
 have hf2 := formB_true hR hD (show (ys.map nq).length = R * D by rw [List.length_map]; exact hyl)
 have hok := (qred_QI (W := C + D) (rowsQ_len R C D xs ys) (fun r hr => rowsQ_row hr) C (by omega)).1
 have hqa := qred_qb (W := C + D) (rowsQ_len R C D xs ys) (fun r hr => rowsQ_row hr) hK1 (fun r hr => rowsQ_qb hx hy hK1 hr) C (by omega)
 obtain ⟨s, hs⟩ : ∃ s, s = redQ R C D xs ys := ⟨_, rfl⟩
 have hok1 : s.rows.length = R := by rw [hs]; exact hok.len
 have hok2 : ∀ r ∈ s.rows, r.length = C + D := by rw [hs]; exact hok.row
 have hok3 : s.ps.length ≤ R := by rw [hs]; exact hok.ps
 have hok4 : ∀ r ∈ s.rows, QB r (8 ^ C * K) := by rw [hs]; exact hqa
 have hpv := pv_len s.ps
 have hsq : ∀ i k, qs (solQ s C i k) ≤ 8 ^ C * K := fun i k => by
  have h1 : 1 ≤ 8 ^ C * K := Nat.mul_pos (Nat.pow_pos (by decide)) hK1
  unfold solQ
  split
  ·exact hok4 _ (getD_mem (by omega)) _
  ·exact Nat.le_trans qs_zero h1
 rw [← hs]
 rw [← hs] at hgood
 refine .seq fun _ k1 => .region (.box (.t rfl) rfl fun b1 => .box (.t rfl) rfl fun b2 => .alloc [isI 0, isI 0, nilS] zero70 (fun _ _ => ⟨⟨rfl, by decide, by decide⟩, ⟨rfl, by decide, by decide⟩, rfl, trivial⟩) rfl fun b3 => st (.as (.cI 0 rfl)) rfl (nl (.thn (k1 _ _ (.seq fun _ k2 => .seq fun _ k3 => .region (st (.load (.t rfl) (i := 2) rfl ty70 rfl (Ss' := [_, _, _]) rfl) rfl (st (.eq (.call (qmat_Formed) (.cons (.t rfl) .nil)) ((show isB _ = isB true from isB_eq (hf1)))) rfl (st (.not (.t rfl)) rfl (st (.mv (.t rfl)) rfl (stF rfl rfl (fun hg => .load (.t rfl) (i := 1) rfl ty70 rfl (Ss' := [_, _, _]) rfl) rfl (stF rfl rfl (fun hg => .eq (.call (qmat_Formed) (.cons (Has.g rfl hg) .nil)) ((show isB _ = isB true from isB_eq (hf2)))) rfl (stF rfl rfl (fun hg => .not (Has.g rfl hg)) rfl (st (.pickOr (.t rfl) (fun h => Has.g rfl (ng h))) rfl (st (.mv (.t rfl)) rfl (stF rfl rfl (fun hg => .fieldAddr (.t rfl) fld70_0 ty3) rfl (stF rfl rfl (fun hg => .load1 (Has.g rfl hg) (i := 2) rfl ty3 rfl) rfl (stF rfl rfl (fun hg => .fieldAddr (.t rfl) fld70_0 ty3) rfl (stF rfl rfl (fun hg => .load1 (Has.g rfl hg) (i := 1) rfl ty3 rfl) rfl (stF rfl rfl (fun hg => .neI (Has.g rfl hg) (Has.g rfl hg)) rfl (st (.pickOr (.t rfl) (fun h => Has.g rfl (ng h))) rfl (nl (.thn (k3 _ _ (.cv (Cv.wk (.l [2, 3, 4, 5, 23] rfl)) (.cond (.t rfl) (fun hc1 => ?_) (fun hc1 => ?_))))))))))))))))))))))))))
 ·have hc1 := BP.t hc1
  exfalso; simp at hc1
 ·have hc1 := BP.f hc1
  refine .skip (.thn (k2 _ _ (.seq fun _ k4 => .region (st (.load (.t rfl) (i := 2) rfl ty70 rfl (Ss' := [_, _, _]) rfl) rfl ?_))))
  refine st (.load (.t rfl) (i := 1) rfl ty70 rfl (Ss' := [_, _, _]) rfl) rfl (st (.eq (.call (qmat_reduced hx hy hK1 hK hR hC hD hxl hyl) (.cons (.t rfl) (.cons (.t rfl) .nil))) ((show wkFQ C _ = wkFQ C s from by rw [hs]; rfl))) rfl ?_)
  refine .alloc [nilP] zero102 (fun _ _ => ⟨rfl, trivial⟩) rfl fun b4 => .store (.t rfl) (.t rfl) (i := 0) rfl ty102 rfl rfl (Ss' := [_]) rfl (M' := [(some _, cellM [_]), _, _, _]) rfl (nl (.thn (k4 _ _ (.seq fun _ k5 => .seq fun _ k6 => .dr (.s [] rfl rfl rfl (.o rfl (.load1 (.t rfl) (i := 0) rfl ty102 rfl)) (.s [28] rfl rfl rfl (.o rfl (.nilcP (.t rfl))) (.s [29] rfl rfl rfl (.o rfl (.fieldAddrP (.t rfl) fld106_0 ty104 (Ss' := [_, _, _]) rfl)) (.s [30] rfl rfl rfl (.o rfl (.loadP1 (.t rfl) ty104)) (.s [] rfl rfl rfl (.o rfl (.load1 (.t rfl) (i := 0) rfl ty102 rfl)) (.s [32] rfl rfl rfl (.o rfl (.nilcP (.t rfl))) (.s [33] rfl rfl rfl (.o rfl (.fieldAddrP (.t rfl) fld106_2 ty91 (Ss' := [_]) rfl)) (.s [34] rfl rfl rfl (.o rfl (.loadP1 (.t rfl) ty91)) (.s [35] rfl rfl rfl (.o rfl (.len sl91 (.t rfl))) ?_)))))))))))))
  refine .s [31, 36] rfl rfl rfl (.o rfl (.eq (.slLM sl104 ty68 (.t rfl) (.t rfl) ⟨by omega, by omega⟩) ((show SlM isQs _ = SlM isQs (s.rows.drop s.ps.length) from by rw [← hpv]; rfl)))) ?_
  refine .s [37] rfl rfl rfl (.o rfl (.len sl104 (.t rfl))) (.s [] rfl rfl rfl (.o rfl (.mv (.cI 0 rfl))) (.fin (n := 12) mixed (by kernel_rfl) (by kernel_rfl) (by kernel_rfl) (.cv (Cv.wk (.l [2, 3, 4, 5, 6, 37, 38, 39] rfl)) (nl (.thn (k6 _ _ (.block (.loopF [2, 3, 4, 6, 37, 38] (fun (z : { i : Nat // i ≤ (s.rows.drop s.ps.length).length }) => match z with | ⟨i, hI⟩ => [(39, isI (i : Int))]) (fun M => fun (z : { i : Nat // i ≤ (s.rows.drop s.ps.length).length }) => match z with | ⟨i, hI⟩ => M) (fun (z : { i : Nat // i ≤ (s.rows.drop s.ps.length).length }) => match z with | ⟨i, hI⟩ => (s.rows.drop s.ps.length).length - i) (⟨0, Nat.zero_le _⟩) (Cv.mem (.c 39 rfl ?_ (.l [2, 3, 4, 6, 37, 38] rfl)) ?_) ?_))))))))
  ·rfl
  ·rfl
  rintro ⟨i, hi⟩ K7 hK7
  refine .cv (Cv.wk (.l [39, 2, 3, 4, 6, 37, 38] rfl)) (.seq fun _ k8 => .region (st (.ltI (.t rfl) (.t rfl)) rfl (nl (.thn (k8 _ _ (.seq fun _ k9 => .cond (.t rfl) (fun hc2 => ?_) (fun hc2 => ?_)))))))
  ·have hc2 := BP.t hc2
   have hdl : (s.rows.drop s.ps.length).length = R - s.ps.length := by rw [List.length_drop, hok1]
   have hrm : (s.rows.drop s.ps.length).getD i [] ∈ s.rows.drop s.ps.length := getD_mem (by omega)
   have hrl := hok2 _ (List.mem_of_mem_drop hrm)
   have hrq := hok4 _ (List.mem_of_mem_drop hrm)
   have hrlm : (((s.rows.drop s.ps.length).getD i []).map nq).length = C + D := by rw [List.length_map]; exact hrl
   have hdq : ∀ c, QB (((s.rows.drop s.ps.length).getD i []).drop c) (8 ^ C * K) := fun c j => by unfold qf; rw [List.getD_eq_getElem?_getD, List.getElem?_drop, ← List.getD_eq_getElem?_getD]; exact hrq _
   refine .skip (.thn (k9 _ _ (.seq fun _ k10 => .block (.seq fun _ k11 => .region (st (.ixP sl104 ty68 (.t rfl) (.t rfl) ⟨by omega, by omega⟩ (getD_some (d := []) (by first | omega | (simp only [Int.toNat_natCast, List.length_set]; omega)))) rfl ?_)))))
   refine st (.eq (.loadP1 (.t rfl) ty68) ((show isQs _ = isQs ((s.rows.drop s.ps.length).getD i []) from rfl))) rfl (st (.as (.t rfl)) rfl (nl (.thn (k11 _ _ (.seq fun _ k12 => .region (st (.mv (.t rfl)) rfl (st (.fieldAddr (.t rfl) fld70_1 ty3) rfl (st (.load1 (.t rfl) (i := 3) rfl ty3 rfl) rfl (st (.eq (.slLK sl68 ty75 rc_len (.t rfl) (.t rfl) ⟨by omega, by omega⟩) ((show SlK 4 rc ((((s.rows.drop s.ps.length).getD i []).map nq).drop C) = isQs (((s.rows.drop s.ps.length).getD i []).drop C) from by rw [← List.map_drop]))) rfl (st (.eq (.call (sl_ContainsFuncQ (t := nzr) (hdq C) (by rw [List.length_drop]; omega)) (.cons (.t rfl) (.cons (Has.fn (ι := { q : Rat // qs q ≤ 8 ^ C * K }) (As := fun p => [isQ p.1]) (R := fun p => isB (nzr p.1)) (fun p => qmat_Solve_1 p.2 (by omega))) .nil))) ((show isB _ = isB (decide (0 ≤ ixf nzr (((s.rows.drop s.ps.length).getD i []).drop C))) from rfl))) rfl ?_))))))))))
   refine nl (.thn (k12 _ _ (.cond (.t rfl) (fun hc3 => ?_) (fun hc3 => ?_))))
   ·have hc3 := BP.t hc3
    exact absurd ⟨_, hrm, ixq_lt hc3⟩ hgood
   ·have hc3 := BP.f hc3
    refine .skip (.bln (.thn (k10 _ _ (.region (st (.addI (.t rfl) (.cI 1 rfl) (by first | omega | assumption) (by first | omega | assumption)) rfl (st (.mv (.t rfl)) rfl (nl (.thn (hK7 (⟨i + 1, by omega⟩) _ _ ?_ (Cv.mem (.c 39 rfl ?_ (.l [2, 3, 4, 6, 37, 38] rfl)) ?_))))))))))
    ·show (s.rows.drop s.ps.length).length - (i + 1) < (s.rows.drop s.ps.length).length - i; omega
    ·exact isI_eq (by omega)
    ·rfl
  ·have hc2 := BP.f hc2
   refine .exit (.the (.the (.blh (.thn (k5 _ _ (.seq fun _ k13 => .region (st (.fieldAddr (.t rfl) fld70_1 ty3) rfl (st (.load1 (.t rfl) (i := 3) rfl ty3 rfl) rfl (st (.fieldAddr (.t rfl) fld70_1 ty3) rfl (st (.load1 (.t rfl) (i := 2) rfl ty3 rfl) rfl (.cv (Cv.freezeBox (t := 6) (i := 0) rfl rfl rfl) (.memEq (M' := [_, _, _]) rfl (.cv (Cv.wk (.l [2, 3, 4, 6, 37, 38, 39, 40, 50, 51, 52, 53] rfl)) (.cv (Cv.freezeBox (t := 2) (i := 2) rfl rfl rfl) (.memEq (M' := [_, _]) rfl (.cv (Cv.wk (.l [2, 3, 4, 6, 37, 38, 39, 40, 51, 52, 53] rfl)) (st (.makeFn (ι := PI C D) (As := fun p => [isI (p.1.1 : Int), isI (p.1.2 : Int)]) (R := fun p => isQ (solQ s C p.1.1 p.1.2)) (fun p => qmat_Solve_2 (K := 0) hok1 hok2 hok3 hC (by have := p.2.2; omega) (by omega)) .nil (.cons (.t rfl) (.cons (.t rfl) .nil))) rfl ?_)))))))))))))))))
   refine st (.call (qmat_made (f := fun i k => solQ s C i k) hC hD (fun i k _ _ => hsq i k) (by omega)) (.cons (.t rfl) (.cons (.t rfl) (.cons (.t rfl) .nil)))) rfl (.store (.t rfl) (.t rfl) (i := 0) rfl ty70 rfl rfl (Ss' := [_, _, _]) rfl (M' := [(some _, cellM [_, _, _]), _]) rfl (st (.as (.cI 0 rfl)) rfl (nl (.thn (k13 _ _ (.cv (Cv.wk (.l [4, 5] rfl)) (.ret (rtN (.inl rfl) Tryz.results40 rfl rfl (.cell rfl (i := 0) rfl ty70 rfl ?_ (.tmp (Has.t' rfl ?_) .nil))))))))))
   ·rfl
   ·rfl
theorem qmat_Solve_none {R C D K : Nat} {xs ys : List Rat} (hx : QB xs K) (hy : QB ys K) (hK1 : 1 ≤ K) (hK : 8 ^ C * K ≤ 100000000) (hR : R ≤ 64) (hC : C ≤ 64) (hD : D ≤ 64) (hxl : xs.length = R * C) (hyl : ys.length = R * D) (hbad : badQ (redQ R C D xs ys) C) : Ctr Tryz.prog 40 [isMQ R C xs, isMQ R D ys] (isTup [isMQ 0 0 ([] : List Rat), isI 10]) := by
 refine Ctr.intro Tryz.func40 rfl (by kernel_rfl) Tryz.ntmps40 rfl fun w0 F0 => .cv (Cv.wk (.l [0, 1] rfl)) ?_
 have hRC := side_le hR hC
 have hRD := side_le hR hD
 have hf1 := formB_true hR hC (show (xs.map nq).length = R * C by rw [List.length_map]; exact hxl)
 have hf2 := formB_true hR hD (show (ys.map nq).length = R * D by rw [List.length_map]; exact hyl)
 have hok := (qred_QI (W := C + D) (rowsQ_len R C D xs ys) (fun r hr => rowsQ_row hr) C (by omega)).1
 have hqa := qred_qb (W := C + D) (rowsQ_len R C D xs ys) (fun r hr => rowsQ_row hr) hK1 (fun r hr => rowsQ_qb hx hy hK1 hr) C (by omega)
 obtain ⟨s, hs⟩ : ∃ s, s = redQ R C D xs ys := ⟨_, rfl⟩
 have hok1 : s.rows.length = R := by rw [hs]; exact hok.len
 have hok2 : ∀ r ∈ s.rows, r.length = C + D := by rw [hs]; exact hok.row
 have hok3 : s.ps.length ≤ R := by rw [hs]; exact hok.ps
 have hok4 : ∀ r ∈ s.rows, QB r (8 ^ C * K) := by rw [hs]; exact hqa
 have hpv := pv_len s.ps
 have hsq : ∀ i k, qs (solQ s C i k) ≤ 8 ^ C * K := fun i k => by
  have h1 : 1 ≤ 8 ^ C * K := Nat.mul_pos (Nat.pow_pos (by decide)) hK1
  unfold solQ
  split
  ·exact hok4 _ (getD_mem (by omega)) _
  ·exact Nat.le_trans qs_zero h1
 rw [← hs] at hbad
 refine .seq fun _ k1 => .region (.box (.t rfl) rfl fun b1 => .box (.t rfl) rfl fun b2 => .alloc [isI 0, isI 0, SlK 4 rc ([] : List ((Bool × List Nat) × Bool × List Nat))] zero70 (fun _ _ => ⟨⟨rfl, by decide, by decide⟩, ⟨rfl, by decide, by decide⟩, nilK, trivial⟩) rfl fun b3 => st (.as (.cI 0 rfl)) rfl (nl (.thn (k1 _ _ (.seq fun _ k2 => .seq fun _ k3 => .region (st (.load (.t rfl) (i := 2) rfl ty70 rfl (Ss' := [_, _, _]) rfl) rfl (st (.eq (.call (qmat_Formed) (.cons (.t rfl) .nil)) ((show isB _ = isB true from isB_eq (hf1)))) rfl (st (.not (.t rfl)) rfl (st (.mv (.t rfl)) rfl (stF rfl rfl (fun hg => .load (.t rfl) (i := 1) rfl ty70 rfl (Ss' := [_, _, _]) rfl) rfl (stF rfl rfl (fun hg => .eq (.call (qmat_Formed) (.cons (Has.g rfl hg) .nil)) ((show isB _ = isB true from isB_eq (hf2)))) rfl (stF rfl rfl (fun hg => .not (Has.g rfl hg)) rfl (st (.pickOr (.t rfl) (fun h => Has.g rfl (ng h))) rfl (st (.mv (.t rfl)) rfl (stF rfl rfl (fun hg => .fieldAddr (.t rfl) fld70_0 ty3) rfl (stF rfl rfl (fun hg => .load1 (Has.g rfl hg) (i := 2) rfl ty3 rfl) rfl (stF rfl rfl (fun hg => .fieldAddr (.t rfl) fld70_0 ty3) rfl (stF rfl rfl (fun hg => .load1 (Has.g rfl hg) (i := 1) rfl ty3 rfl) rfl (stF rfl rfl (fun hg => .neI (Has.g rfl hg) (Has.g rfl hg)) rfl (st (.pickOr (.t rfl) (fun h => Has.g rfl (ng h))) rfl (nl (.thn (k3 _ _ (.cv (Cv.wk (.l [2, 3, 4, 5, 23] rfl)) (.cond (.t rfl) (fun hc1 => ?_) (fun hc1 => ?_))))))))))))))))))))))))))
 ·have hc1 := BP.t hc1
  exfalso; simp at hc1
 ·have hc1 := BP.f hc1
  refine .skip (.thn (k2 _ _ (.seq fun _ k4 => .region (st (.load (.t rfl) (i := 2) rfl ty70 rfl (Ss' := [_, _, _]) rfl) rfl ?_))))
  refine st (.load (.t rfl) (i := 1) rfl ty70 rfl (Ss' := [_, _, _]) rfl) rfl (st (.eq (.call (qmat_reduced hx hy hK1 hK hR hC hD hxl hyl) (.cons (.t rfl) (.cons (.t rfl) .nil))) ((show wkFQ C _ = wkFQ C s from by rw [hs]; rfl))) rfl ?_)
  refine .alloc [nilP] zero102 (fun _ _ => ⟨rfl, trivial⟩) rfl fun b4 => .store (.t rfl) (.t rfl) (i := 0) rfl ty102 rfl rfl (Ss' := [_]) rfl (M' := [(some _, cellM [_]), _, _, _]) rfl (nl (.thn (k4 _ _ (.seq fun _ k5 => .seq fun _ k6 => .dr (.s [] rfl rfl rfl (.o rfl (.load1 (.t rfl) (i := 0) rfl ty102 rfl)) (.s [28] rfl rfl rfl (.o rfl (.nilcP (.t rfl))) (.s [29] rfl rfl rfl (.o rfl (.fieldAddrP (.t rfl) fld106_0 ty104 (Ss' := [_, _, _]) rfl)) (.s [30] rfl rfl rfl (.o rfl (.loadP1 (.t rfl) ty104)) (.s [] rfl rfl rfl (.o rfl (.load1 (.t rfl) (i := 0) rfl ty102 rfl)) (.s [32] rfl rfl rfl (.o rfl (.nilcP (.t rfl))) (.s [33] rfl rfl rfl (.o rfl (.fieldAddrP (.t rfl) fld106_2 ty91 (Ss' := [_]) rfl)) (.s [34] rfl rfl rfl (.o rfl (.loadP1 (.t rfl) ty91)) (.s [35] rfl rfl rfl (.o rfl (.len sl91 (.t rfl))) ?_)))))))))))))
  refine .s [31, 36] rfl rfl rfl (.o rfl (.eq (.slLM sl104 ty68 (.t rfl) (.t rfl) ⟨by omega, by omega⟩) ((show SlM isQs _ = SlM isQs (s.rows.drop s.ps.length) from by rw [← hpv]; rfl)))) ?_
  refine .s [37] rfl rfl rfl (.o rfl (.len sl104 (.t rfl))) (.s [] rfl rfl rfl (.o rfl (.mv (.cI 0 rfl))) (.fin (n := 12) mixed (by kernel_rfl) (by kernel_rfl) (by kernel_rfl) (.cv (Cv.wk (.l [2, 3, 4, 5, 6, 37, 38, 39] rfl)) (nl (.thn (k6 _ _ (.block (.loopF [2, 3, 4, 6, 37, 38] (fun (z : { i : Nat // i ≤ (s.rows.drop s.ps.length).length ∧ ∀ j, j < i → ¬ ixn nzr (((s.rows.drop s.ps.length).getD j []).drop C) < (((s.rows.drop s.ps.length).getD j []).drop C).length }) => match z with | ⟨i, hI⟩ => [(39, isI (i : Int))]) (fun M => fun (z : { i : Nat // i ≤ (s.rows.drop s.ps.length).length ∧ ∀ j, j < i → ¬ ixn nzr (((s.rows.drop s.ps.length).getD j []).drop C) < (((s.rows.drop s.ps.length).getD j []).drop C).length }) => match z with | ⟨i, hI⟩ => M) (fun (z : { i : Nat // i ≤ (s.rows.drop s.ps.length).length ∧ ∀ j, j < i → ¬ ixn nzr (((s.rows.drop s.ps.length).getD j []).drop C) < (((s.rows.drop s.ps.length).getD j []).drop C).length }) => match z with | ⟨i, hI⟩ => (s.rows.drop s.ps.length).length - i) (⟨0, Nat.zero_le _, fun j hj => absurd hj (Nat.not_lt_zero _)⟩) (Cv.mem (.c 39 rfl ?_ (.l [2, 3, 4, 6, 37, 38] rfl)) ?_) ?_))))))))
  ·rfl
  ·rfl
  rintro ⟨i, hi, hq2⟩ K7 hK7
  refine .cv (Cv.wk (.l [39, 2, 3, 4, 6, 37, 38] rfl)) (.seq fun _ k8 => .region (st (.ltI (.t rfl) (.t rfl)) rfl (nl (.thn (k8 _ _ (.seq fun _ k9 => .cond (.t rfl) (fun hc2 => ?_) (fun hc2 => ?_)))))))
  ·have hc2 := BP.t hc2
   have hdl : (s.rows.drop s.ps.length).length = R - s.ps.length := by rw [List.length_drop, hok1]
   have hrm : (s.rows.drop s.ps.length).getD i [] ∈ s.rows.drop s.ps.length := getD_mem (by omega)
   have hrl := hok2 _ (List.mem_of_mem_drop hrm)
   have hrq := hok4 _ (List.mem_of_mem_drop hrm)
   have hrlm : (((s.rows.drop s.ps.length).getD i []).map nq).length = C + D := by rw [List.length_map]; exact hrl
   have hdq : ∀ c, QB (((s.rows.drop s.ps.length).getD i []).drop c) (8 ^ C * K) := fun c j => by unfold qf; rw [List.getD_eq_getElem?_getD, List.getElem?_drop, ← List.getD_eq_getElem?_getD]; exact hrq _
   refine .skip (.thn (k9 _ _ (.seq fun _ k10 => .block (.seq fun _ k11 => .region (st (.ixP sl104 ty68 (.t rfl) (.t rfl) ⟨by omega, by omega⟩ (getD_some (d := []) (by first | omega | (simp only [Int.toNat_natCast, List.length_set]; omega)))) rfl ?_)))))
   refine st (.eq (.loadP1 (.t rfl) ty68) ((show isQs _ = isQs ((s.rows.drop s.ps.length).getD i []) from rfl))) rfl (st (.as (.t rfl)) rfl (nl (.thn (k11 _ _ (.seq fun _ k12 => .region (st (.mv (.t rfl)) rfl (st (.fieldAddr (.t rfl) fld70_1 ty3) rfl (st (.load1 (.t rfl) (i := 3) rfl ty3 rfl) rfl (st (.eq (.slLK sl68 ty75 rc_len (.t rfl) (.t rfl) ⟨by omega, by omega⟩) ((show SlK 4 rc ((((s.rows.drop s.ps.length).getD i []).map nq).drop C) = isQs (((s.rows.drop s.ps.length).getD i []).drop C) from by rw [← List.map_drop]))) rfl (st (.eq (.call (sl_ContainsFuncQ (t := nzr) (hdq C) (by rw [List.length_drop]; omega)) (.cons (.t rfl) (.cons (Has.fn (ι := { q : Rat // qs q ≤ 8 ^ C * K }) (As := fun p => [isQ p.1]) (R := fun p => isB (nzr p.1)) (fun p => qmat_Solve_1 p.2 (by omega))) .nil))) ((show isB _ = isB (decide (0 ≤ ixf nzr (((s.rows.drop s.ps.length).getD i []).drop C))) from rfl))) rfl ?_))))))))))
   refine nl (.thn (k12 _ _ (.cond (.t rfl) (fun hc3 => ?_) (fun hc3 => ?_))))
   ·have hc3 := BP.t hc3
    skip
    refine .seq fun _ k13 => .region (st (.build [isI 0, isI 0, SlK 4 rc ([] : List ((Bool × List Nat) × Bool × List Nat))] pl70 zero70 (fun _ _ => ⟨⟨rfl, by decide, by decide⟩, ⟨rfl, by decide, by decide⟩, nilK, trivial⟩) .nil (Z'' := [_, _, _]) rfl) rfl (.store (.t rfl) (.t rfl) (i := 1) rfl ty70 rfl rfl (Ss' := [_, _, _]) rfl (M' := [_, (some _, cellM [_, _, _]), _, _]) rfl (st (.as (.cI 10 rfl)) rfl (nl (.thn (k13 _ _ (.ret (.blr (.thr (.thr (.blr (.thr (rtN (.inl rfl) Tryz.results40 rfl rfl (.cell rfl (i := 1) rfl ty70 rfl ?_ (.tmp (Has.t' rfl ?_) .nil)))))))))))))))
    ·rfl
    ·rfl
   ·have hc3 := BP.f hc3
    have HQ := hc3
    refine .skip (.bln (.thn (k10 _ _ (.region (st (.addI (.t rfl) (.cI 1 rfl) (by first | omega | assumption) (by first | omega | assumption)) rfl (st (.mv (.t rfl)) rfl (nl (.thn ?_))))))))
    refine hK7 (⟨i + 1, by omega, fun j hj => by rcases Nat.lt_or_ge j i with h | h; exact hq2 j h; obtain rfl : j = i := (by omega); exact fun h => by have := ixq_of_lt h; omega⟩) _ _ ?_ (Cv.mem (.c 39 rfl ?_ (.l [2, 3, 4, 6, 37, 38] rfl)) ?_)
    ·show (s.rows.drop s.ps.length).length - (i + 1) < (s.rows.drop s.ps.length).length - i; omega
    ·exact isI_eq (by omega)
    ·rfl
  ·have hc2 := BP.f hc2
   exfalso; obtain ⟨x, hx9, hx2⟩ := hbad; obtain ⟨j, hj⟩ := List.mem_iff_getElem?.1 hx9; exact hq2 j (by have := (List.getElem?_eq_some_iff.1 hj).1; omega) (by rw [List.getD, hj]; exact hx2)
end Go.Proofs.YtcfobalbkhgdmaaGreat
namespace Go.En
open Go.RowKit
section
variable {E : Env} {P : Program} {Γ : Ctx} {M : Mem} {ty : TypeId} {pos : String} {after : Array Edge} {gd : Option (Nat × Bool)} {d : Option Tmp}
 {ops : Array Oper} {Q : Exit → Act → World → Prop} {rest : List Oper}
theorem callX_wp {Δ : Ctx} {g : FuncId} {xs : List Operand} {ts : Array TypeId} {args : List VP} {Mp Mr : Mem} {R : VP → Mem → Prop} {d : Nat} (hf : CtrX P g args Mp R) (hx : HasL E Δ (Mp ++ Mr) xs args) {a : Act} {w : World} {F : Blk} (s : Sat E Δ (Mp ++ Mr) a w F) {K : Act → World → Prop} {Q : Exit → Act → World → Prop}
    (hK : ∀ v w' F' S M', R S M' → (∀ b, F b → w'.heap[b]? = w.heap[b]?) → (∀ b, F b → F' b) → (∀ Γ'' M1, Sat E Γ'' (Mp ++ M1) a w F → Sat E Γ'' (M' ++ M1) a w' F') → S.h w' F' v → K (a.put (some d) v) w') :
    (⟨some d, .call ⟨.value (.func g), xs.toArray, ts⟩, ty, pos, after, none⟩ : Oper).wp P a w K Q := by
  unfold Oper.wp
  have hr : (execOp a.eval (⟨some d, .call ⟨.value (.func g), xs.toArray, ts⟩, ty, pos, after, none⟩ : Oper)).run P w = .ok (.enter g (xs.map a.eval).toArray) w := by
    have := run_enter hf.1 (xs.map a.eval).toArray w
    simpa [go_sem] using this
  rw [hr]
  have hargs := hx.all s
  have hapart := List.pairwise_append.1 s.mem.apart
  have hmp : MemIn Mp w F := ⟨hapart.1, fun b C hb => by
    obtain ⟨_, h2, h3, h4⟩ := s.mem.each b C (List.mem_append_left _ hb)
    exact ⟨h2, h3, h4⟩⟩
  refine (hf.2 w F _ s.flt hmp hargs).mono ?_
  rintro e w' ⟨v, S, M', F', rfl, hR', hk, hsub, hnew, hv, hap, heach⟩
  have hW : ∀ b, b ∈ blks Mp → ¬ F b := fun b hb hF => by
    obtain ⟨C, hC⟩ := mem_blks.1 hb
    exact (hmp.each b C hC).2.1 hF
  have hsame : ∀ b, F b → w'.heap[b]? = w.heap[b]? := fun b hb => hk.block b (s.flt b hb) (fun h => hW b h hb)
  refine hK v w' F' S M' hR' hsame hsub (fun Γ'' M1 s => ?_) hv
  have hapart := List.pairwise_append.1 s.mem.apart
  have hown : ∀ b, b ∈ blks Mp → E.w0.heap.size ≤ b ∨ b ∈ E.W := fun b hb => by
    obtain ⟨C, hC⟩ := mem_blks.1 hb
    exact (s.mem.each b C (List.mem_append_left _ hC)).1
  have hrest : ∀ (b : Nat) (C : MP), (some b, C) ∈ M1 → b ∉ blks Mp ∧ b < w.heap.size := fun b C hb => by
    refine ⟨fun h => ?_, (s.mem.each b C (List.mem_append_right _ hb)).2.1⟩
    obtain ⟨C', hC'⟩ := mem_blks.1 h
    have := hapart.2.2 _ hC' _ hb
    rcases this with h | h
    · cases h
    · exact h rfl
  exact {
    defers := s.defers, size := s.size
    keep := by
      refine ⟨hk.os.trans s.keep.os, hk.tape.trans s.keep.tape, hk.output.trans s.keep.output, Nat.le_trans s.keep.size hk.size, fun k hk0 hkW => ?_⟩
      rw [hk.block k (Nat.lt_of_lt_of_le hk0 s.keep.size) (fun h => by rcases hown k h with h' | h'; omega; exact hkW h')]
      exact s.keep.block k hk0 hkW
    f0 := fun b h => hsub b (s.f0 b h)
    fnew := fun b h => by
      rcases hnew b h with h1 | h1
      · rcases s.fnew b h1 with h2 | h2
        · exact .inl h2
        · exact .inr ⟨h2.1, Nat.lt_of_lt_of_le h2.2 hk.size⟩
      · exact .inr ⟨Nat.le_trans s.keep.size h1.1, h1.2⟩
    flt := fun b h => by
      rcases hnew b h with h1 | h1
      · exact Nat.lt_of_lt_of_le (s.flt b h1) hk.size
      · exact h1.2
    slots := fun t S h => S.mono _ _ _ _ _ (s.slots t S h) hsame hsub
    mem := by
      refine ⟨List.pairwise_append.2 ⟨hap, hapart.2.1, ?_⟩, ?_⟩
      · rintro ⟨k, C⟩ h1 ⟨k', C'⟩ h2
        cases k with
        | none => exact .inl rfl
        | some b =>
          refine .inr fun e => ?_
          subst e
          obtain ⟨g1, _⟩ := heach b C h1
          obtain ⟨g2, g3⟩ := hrest b C' h2
          rcases g1 with g1 | g1
          · omega
          · exact g2 g1
      · intro b C hb
        rcases List.mem_append.1 hb with h | h
        · obtain ⟨g1, g2, g3, g4⟩ := heach b C h
          refine ⟨?_, g2, g3, g4⟩
          rcases g1 with g1 | g1
          · exact .inl (Nat.le_trans s.keep.size g1)
          · exact hown b g1
        · obtain ⟨g1, g2, g3, o, g4, g5⟩ := s.mem.each b C (List.mem_append_right _ h)
          obtain ⟨r1, r2⟩ := hrest b C h
          refine ⟨g1, Nat.lt_of_lt_of_le g2 hk.size, fun hF => ?_, o, (hk.block b g2 r1).trans g4, C.mono _ _ _ _ _ g5 hsame hsub⟩
          rcases hnew b hF with h1 | h1
          · exact g3 h1
          · omega }
theorem Sat.perm {a : Act} {w : World} {F : Blk} {M' : Mem} (h : M.Perm M') (s : Sat E Γ M a w F) : Sat E Γ M' a w F :=
 {s with mem := ⟨(h.pairwise_iff (fun {x y} hxy => by
  rcases hxy with h1 | h1
  ·by_cases h2 : y.1 = none
   ·exact .inl h2
   ·exact .inr (fun e => h2 (e.trans h1))
  ·exact .inr (fun e => h1 e.symm))).1 s.mem.apart, fun b C hb => s.mem.each b C (h.mem_iff.2 hb)⟩ }
theorem HasL.perm {xs : List Operand} {Ss : List VP} {M' : Mem} (h : M'.Perm M) (hx : HasL E Γ M xs Ss) : HasL E Γ M' xs Ss := by
 induction hx with
 | nil => exact .nil
 | cons h1 _ ih => exact .cons (fun a w F s => h1 a w F (s.perm h)) ih
theorem OKX.call {Δ : Ctx} {g : FuncId} {xs : List Operand} {ts : Array TypeId} {args : List VP} {Mp Mr : Mem} {R : VP → Mem → Prop} {d : Nat} {S0 : VP} (hf : CtrX P g args Mp R) (hp : M.Perm (Mp ++ Mr)) (hx : HasL E Δ M xs args) (hR : ∀ S M', R S M' → S = S0 ∧ M' = Mp) :
  OKX E P ops Δ M ⟨some d, .call ⟨.value (.func g), xs.toArray, ts⟩, ty, pos, after, none⟩ S0 := fun a w F s K Q hK => by
 refine (if_pos (c := Region.wanted _ _) (by simp [Region.wanted])).mpr ?_
 refine .inl (callX_wp hf (hx.perm hp.symm) (s.perm hp) fun v w' F' S M' hR' h1 h2 h3 hv => ?_)
 obtain ⟨rfl, rfl⟩ := hR S M' hR'
 refine hK v w' F' ⟨h1, h2, fun Γ'' M1 hs s1 => ?_⟩ hv
 obtain ⟨Rr, hRr⟩ := hs.exists_perm_append
 have hq : M1.Perm (M' ++ (Mr ++ Rr)) := by rw [← List.append_assoc]; exact hRr.trans (hp.append_right Rr)
 exact (h3 Γ'' _ (s1.perm hq)).perm hq.symm
theorem CtrX.imp {f : FuncId} {args : List VP} {M : Mem} {R R' : VP → Mem → Prop} (h : CtrX P f args M R) (hR : ∀ S M', R S M' → R' S M') : CtrX P f args M R' :=
 ⟨h.1, fun w F vs hF hM hargs => (h.2 w F vs hF hM hargs).mono (by
  rintro e w' ⟨v, S', M', F', rfl, hr, rest⟩
  exact ⟨v, S', M', F', rfl, hR S' M' hr, rest⟩)⟩
end
end Go.En
namespace Go.Proofs.YtcfobalbkhgdmaaGreat
open Go.En Go.RowKit
set_option maxRecDepth 10000
set_option maxHeartbeats 4000000
open Go.Nt
open Go.Pz
open Go.Mz
open Go.Hn
open Go.Hp
open Go.Dt
open Go.Ch
open Go.Mi
open Go.Mu
open Go.Qe
theorem qmat_SolveM {N d K : Nat} {ls : List (Int × Int × List Int)} {m : List Int} {P : Nat → Nat → Int} {x : Nat → Int} (hmin : MinI P N d x) (hd : ls.length ≤ d) (hN : N ≤ 64) (hd64 : d ≤ 64) (hP : ∀ k u, k < (ls.map fun p => p.2.2).length → u < N → cf ((ls.map fun p => p.2.2).getD k []) u = P k u) (hm : ∀ u, u < N → cf m u = P (ls.map fun p => p.2.2).length u) (hb : ∀ p ∈ ls, Bd p.2.2 K) (hmb : Bd m K) (hK1 : 1 ≤ K) (hK : 8 ^ d * K ≤ 100000000) :
  Ctr Tryz.prog 40 [isMQ N ls.length (flQ (ls.map fun p => p.2.2) N), isMQ N 1 (flQ [m] N)] (isTup [isMQ (if ls.length < d then 0 else ls.length) (if ls.length < d then 0 else 1) (if ls.length < d then [] else xsQ x d), isI (if ls.length < d then 10 else 0)]) := by
 have hl : (ls.map fun p => p.2.2).length = ls.length := List.length_map _
 have hKC := pw_size hd hK
 have hx := flQ_qb (l := ls.map fun p => p.2.2) (fun a ha => by obtain ⟨p, hp, rfl⟩ := List.mem_map.1 ha; exact hb p hp) hK1 N
 have hy := flQ_qb (l := [m]) (fun a ha => by obtain rfl := List.mem_singleton.1 ha; exact hmb) hK1 N
 have h1 := flQ_len (ls.map fun p => p.2.2) N
 have h2 := flQ_len [m] N
 rw [← hl]
 rw [← hl] at hd hKC
 by_cases h : (ls.map fun p => p.2.2).length < d
 ·rw [if_pos h, if_pos h, if_pos h, if_pos h]
  exact qmat_Solve_none hx hy hK1 hKC hN (by omega) (by decide) h1 h2 (min_lt hmin h hP hm)
 ·have he : (ls.map fun p => p.2.2).length = d := by omega
  rw [if_neg h, if_neg h, if_neg h, if_neg h, ← min_sol hmin he hP hm]
  exact qmat_Solve hx hy hK1 hKC hN (by omega) (by decide) h1 h2 (min_eq hmin he hP hm).1
theorem zchar_Min {n K d : Nat} {x : Nat → Int} {xs : List (Bool × List Nat)} (hx : Bd (vals xs) K) (hn : n ≤ 8) (hl : xs.length = n * n) (hmin : MinI (pe n (vals xs)) (n * n) d x) (hd64 : d ≤ 64) (hS : 8 ^ d * (1 + d * (K + n)) ≤ 100000000) : Ctr Tryz.prog 13 [isM (n : Int) (n : Int) xs] (isTup [isP (mnL x d), isI 0]) := by
 refine Ctr.intro Tryz.func13 rfl (by kernel_rfl) Tryz.ntmps13 rfl fun w0 F0 => .cv (Cv.wk (.l [0] rfl)) ?_
 have hn64 : n ≤ 64 := (by omega)
 have hRC := side_le hn64 hn64
 have hnn : n * n ≤ 64 := Nat.mul_le_mul hn hn
 have hfo := formB_true hn64 hn64 hl
 have hfs : (formB (n : Int) (n : Int) xs.length && decide ((n : Int) = (n : Int))) = true := by rw [hfo]; simp
 have hS0 := pw_size0 hS
 have hKs : K ≤ (1 + d * (K + n)) ∨ d = 0 := by rcases Nat.eq_zero_or_pos d with h | h; exact .inr h; exact .inl (by have := Nat.le_mul_of_pos_left (K + n) h; omega)
 have hpb : ∀ j, j ≤ d → Bd (pwL n (vals xs) j) (1 + d * (K + n)) := fun j hj => (pwL_bd hx j).mono (Nat.add_le_add_left (Nat.mul_le_mul_right _ hj) _)
 refine .seq fun _ k1 => .region (.box (.t rfl) rfl fun b1 => st (.as (.cWK (k := 2) (fk := zc))) rfl (st (.as (.cI 0 rfl)) rfl (nl (.thn (k1 _ _ (.seq fun _ k2 => .seq fun _ k3 => .region (st (.load (.t rfl) (i := 0) rfl ty27 rfl (Ss' := [_, _, _]) rfl) rfl (st (.eq (.call (zchar_square) (.cons (.t rfl) .nil)) ((show isB _ = isB true from isB_eq (hfs)))) rfl (st (.not (.t rfl)) rfl (nl (.thn (k3 _ _ (.cond (.t rfl) (fun hc1 => ?_) (fun hc1 => ?_))))))))))))))
 ·have hc1 := BP.t hc1
  exfalso; simp at hc1
 ·have hc1 := BP.f hc1
  refine .skip (.thn (k2 _ _ (.seq fun _ k4 => .region (st (.fieldAddr (.t rfl) fld27_0 ty3) rfl (st (.load1 (.t rfl) (i := 0) rfl ty3 rfl) rfl (st (.fieldAddr (.t rfl) fld27_0 ty3) rfl (st (.load1 (.t rfl) (i := 0) rfl ty3 rfl) rfl (st (.eq (.mulI (.t rfl) (.t rfl) (by first | omega | assumption) (by first | omega | assumption)) ((show isI _ = isI ((n * n : Nat) : Int) from isI_eq (Int.natCast_mul n n).symm))) rfl (st (.as (.t rfl)) rfl (nl (.thn (k4 _ _ (.cv (Cv.wk (.l [1, 2, 3, 4] rfl)) (.seq fun _ k5 => .seq fun _ k6 => .region (st (.fieldAddr (.t rfl) fld27_0 ty3) rfl (st (.load1 (.t rfl) (i := 0) rfl ty3 rfl) rfl (st (.gtI (.t rfl) (.cI 8 rfl)) rfl (nl (.thn (k6 _ _ (.cond (.t rfl) (fun hc2 => ?_) (fun hc2 => ?_))))))))))))))))))))))
  ·have hc2 := BP.t hc2
   exfalso; omega
  ·have hc2 := BP.f hc2
   refine .skip (.thn (k5 _ _ (.seq fun _ k7 => .region (.cv (Cv.grow0K (α := Int × Int × List Int) mc) (st (.as (Has.cGr (α := Int × Int × List Int))) rfl (nl (.thn (k7 _ _ (.seq fun _ k8 => .region (st (.fieldAddr (.t rfl) fld27_0 ty3) rfl (st (.load1 (.t rfl) (i := 1) rfl ty3 rfl) rfl (st (.call (zmat_Identity hn64) (.cons (.t rfl) .nil)) rfl (st (.ext (.t rfl) rfl) rfl (st (.ext (.t rfl) rfl) rfl (st (.call (zchar_must) (.cons (.t rfl) (.cons (.t rfl) .nil))) rfl (.alloc [isI 0, isI 0, nilS] zero27 (fun _ _ => ⟨⟨rfl, by decide, by decide⟩, ⟨rfl, by decide, by decide⟩, rfl, trivial⟩) rfl fun b2 => .store (.t rfl) (.t rfl) (i := 0) rfl ty27 rfl rfl (Ss' := [_, _, _]) rfl (M' := [(some _, cellM [_, _, _]), _, _]) rfl (nl (.thn (k8 _ _ (.cv (Cv.wk (.l [1, 2, 3, 4, 5, 6] rfl)) (.block (.cv (Cv.freezeBox (t := 6) (i := 0) rfl rfl rfl) (.memEq (M' := [_, _]) rfl (.cv (Cv.wk (.l [1, 2, 3, 4, 5, 6] rfl)) (.loopF [1, 4] (fun (z : { z : Nat × Gr (Int × Int × List Int) // z.1 ≤ d }) => match z with | ⟨(k, gl), hI⟩ => [(5, isGr gl (lsK n (vals xs) k).length), (6, PtrL [isI (n : Int), isI (n : Int), isP (pwL n (vals xs) k)])]) (fun M => fun (z : { z : Nat × Gr (Int × Int × List Int) // z.1 ≤ d }) => match z with | ⟨(k, gl), hI⟩ => [grMK mc gl (lsK n (vals xs) k), (some b1, cellM [isI (n : Int), isI (n : Int), SlK 2 zc xs])]) (fun (z : { z : Nat × Gr (Int × Int × List Int) // z.1 ≤ d }) => match z with | ⟨(k, gl), hI⟩ => d - k) (⟨(0, Gr.nil), Nat.zero_le _⟩) (Cv.mem (.c 5 rfl ?_ (.c 6 rfl ?_ (.l [1, 4] rfl))) ?_) ?_)))))))))))))))))))))))))
   ·rfl
   ·rfl
   ·rfl
   rintro ⟨⟨k, gl⟩, hI⟩ K9 hK9
   refine .cv (Cv.wk (.l [5, 6, 1, 4] rfl)) (.memEq (M' := [grMK mc gl (lsK n (vals xs) k), (some b1, cellM [isI (n : Int), isI (n : Int), SlK 2 zc xs])]) rfl ?_)
   simp only [] at hI
   refine .seq fun _ k10 => .block (.seq fun _ k11 => .drh [true, true] (Ms := [_, _]) rfl (.s [] rfl rfl rfl (.o rfl (.mv (.t rfl))) (.s [] rfl rfl rfl (.o rfl (.mv (.t rfl))) ?_)))
   refine .sx (i := 2) [42, 43] rfl rfl rfl (by kernel_rfl) (OKX.call (zchar_flatX (K := (1 + d * (K + n))) (ls := lsK n (vals xs) k) (gl := gl) (N := n * n) (fun p hp => by obtain ⟨j, hj, e⟩ := lsK_mem hp; rw [e]; exact hpb j (by omega)) (fun p hp => by obtain ⟨j, hj, e⟩ := lsK_mem hp; rw [e]; exact pwL_len _ _ _) (by omega) hnn (by rw [lsK_len]; omega)) (List.Perm.refl _) (.cons (.t rfl) (.cons (.t rfl) .nil)) (by rintro _ _ ⟨rfl, rfl⟩; exact ⟨rfl, rfl⟩)) ?_
   refine .s [] rfl rfl rfl (.o rfl (.loadP (.t rfl) ty27 rfl (Ss' := [_, _, _]) rfl)) (.s [45] rfl rfl rfl (.o rfl (.buildS [isI 0, isI 0, nilS] sl65 ty27 zero27 (fun _ _ => ⟨⟨rfl, by decide, by decide⟩, ⟨rfl, by decide, by decide⟩, rfl, trivial⟩) rfl rfl (.cons (.t rfl) rfl rfl rfl .nil) rfl (S := SlK 3 mc [((n : Int), (n : Int), pwL n (vals xs) k)]) rfl)) (.s [] rfl rfl rfl (.o rfl (.mv (.t rfl))) ?_))
   refine .s [46, 47] rfl rfl rfl (.o rfl (.eq (.call (zchar_flat (K := (1 + d * (K + n))) (ls := [((n : Int), (n : Int), pwL n (vals xs) k)]) (fun p hp => by obtain rfl := List.mem_singleton.1 hp; exact hpb k hI) (fun p hp => by obtain rfl := List.mem_singleton.1 hp; exact pwL_len _ _ _) (by omega) hnn (show 1 ≤ 64 by decide)) (.cons (.t rfl) (.cons (.t rfl) .nil))) ((show _ = isMQ ((n * n : Nat) : Int) 1 (flQ [pwL n (vals xs) k] (n * n)) from rfl)))) ?_
   refine .s [44, 48] rfl rfl rfl (.o rfl (.call (qmat_SolveM (ls := lsK n (vals xs) k) (m := pwL n (vals xs) k) (K := (1 + d * (K + n))) hmin (by rw [lsK_len]; exact hI) hnn hd64 (fun j u hj hu => lsK_at hj) (fun u hu => by rw [lsK_vals, pws_len]; rfl) (fun p hp => by obtain ⟨j, hj, e⟩ := lsK_mem hp; rw [e]; exact hpb j (by omega)) (hpb k hI) (by omega) hS) (.cons (.t rfl) (.cons (.t rfl) .nil)))) ?_
   refine .s [49] rfl rfl rfl (.o rfl (.mv (.t rfl))) (.s [41] rfl rfl rfl (.o rfl (.ext (.t rfl) rfl)) (.s [41] rfl rfl rfl (.o rfl (.ext (.t rfl) rfl)) (.als2 (n1 := 12) (ds := [7]) (zs := [[isI 0, isI 0, nilS]]) rfl (.cons rfl rfl zero70 (fun _ _ => ⟨⟨rfl, by decide, by decide⟩, ⟨rfl, by decide, by decide⟩, rfl, trivial⟩) .nil) (.cons_cons _ (.cons_cons _ .slnil)) (Cs := [_]) rfl (.new [50] 0 (Ss' := [_, _, _]) (Cs' := [cellM [_, _, _]]) rfl (by kernel_rfl) (by kernel_rfl) rfl rfl rfl (by kernel_rfl) rfl (.t rfl) ty70 rfl rfl rfl rfl (.fin (n := 13) mixed rfl (by kernel_rfl) (by kernel_rfl) (by kernel_rfl) (fun bs hbs => ?_))))))
   obtain ⟨b3, rfl⟩ := len1 hbs
   refine .memEq (M' := [_, _, _]) rfl (.cv (Cv.wk (.k 1 rfl (.k 4 rfl (.k 5 rfl (.k 6 rfl (.k 42 rfl (.k 43 rfl (.k 44 rfl (.k 45 rfl (.k 46 rfl (.k 47 rfl (.k 48 rfl (.k 49 rfl (.k 41 rfl (.k 50 rfl (.k 51 rfl (.cons (t := 7) (Has.op rfl) .nil))))))))))))))))) (st (.as (.t rfl)) rfl (nl (.thn (k11 _ _ (.seq fun _ k12 => .seq fun _ k13 => .region (st (.mv (.t rfl)) rfl (st (.eqI (.t rfl) (.cI 0 rfl)) rfl (nl (.thn (k13 _ _ (.cond (.t rfl) (fun hc3 => ?_) (fun hc3 => ?_)))))))))))))
   ·have hc3 := BP.t hc3
    have hnd : ¬ (lsK n (vals xs) k).length < d := fun h => by rw [if_pos h] at hc3; exact absurd hc3 (by decide)
    have hkd : k = d := by rw [lsK_len] at hnd; omega
    refine .seq fun _ k14 => .region (.cv (Cv.grow0K (α := Bool × List Nat) zc) (st (.as (Has.cGr (α := Bool × List Nat))) rfl (nl (.thn (k14 _ _ (.seq fun _ k15 => .seq fun _ k16 => .region (st (.fieldAddr (.t rfl) fld70_2 ty68) rfl (st (.eq (.load1 (.t rfl) (i := 1) rfl ty68 rfl) ((show _ = isQs (xsQ x d) from isQs_eq (if_neg hnd)))) rfl (st (.eq (.len sl68 (.t rfl)) ((show isI _ = isI (d : Int) from isI_eq (by rw [List.length_map, xsQ_len])))) rfl (st (.mv (.cI 0 rfl)) rfl (nl (.thn (k16 _ _ (.block (.loopF [1, 4, 5, 6, 42, 43, 44, 45, 46, 47, 48, 49, 41, 50, 51, 7, 8, 52, 53, 54, 55, 56] (fun (z : { z : Nat × Gr (Bool × List Nat) // z.1 ≤ d }) => match z with | ⟨(j, g9), hJ⟩ => [(57, isI (j : Int)), (9, isGr g9 ((ngL x j).map nz).length)]) (fun M => fun (z : { z : Nat × Gr (Bool × List Nat) // z.1 ≤ d }) => match z with | ⟨(j, g9), hJ⟩ => [grMK zc g9 ((ngL x j).map nz), (some b3, cellM [isI (if (lsK n (vals xs) k).length < d then 0 else ((lsK n (vals xs) k).length : Int)), isI (if (lsK n (vals xs) k).length < d then 0 else 1), isQs (if (lsK n (vals xs) k).length < d then [] else xsQ x d)]), grMK mc gl (lsK n (vals xs) k), (some b1, cellM [isI (n : Int), isI (n : Int), SlK 2 zc xs])]) (fun (z : { z : Nat × Gr (Bool × List Nat) // z.1 ≤ d }) => match z with | ⟨(j, g9), hJ⟩ => d - j) (⟨(0, Gr.nil), Nat.zero_le _⟩) (Cv.mem (.c 57 rfl ?_ (.c 9 rfl ?_ (.l [1, 4, 5, 6, 42, 43, 44, 45, 46, 47, 48, 49, 41, 50, 51, 7, 8, 52, 53, 54, 55, 56] rfl))) ?_) ?_)))))))))))))))
    ·rfl
    ·rfl
    ·rfl
    rintro ⟨⟨j, g9⟩, hJ⟩ K17 hK17
    refine .cv (Cv.wk (.l [57, 9, 1, 4, 5, 6, 42, 43, 44, 45, 46, 47, 48, 49, 41, 50, 51, 7, 8, 52, 53, 54, 55, 56] rfl)) (.memEq (M' := [grMK zc g9 ((ngL x j).map nz), (some b3, cellM [isI (if (lsK n (vals xs) k).length < d then 0 else ((lsK n (vals xs) k).length : Int)), isI (if (lsK n (vals xs) k).length < d then 0 else 1), isQs (if (lsK n (vals xs) k).length < d then [] else xsQ x d)]), grMK mc gl (lsK n (vals xs) k), (some b1, cellM [isI (n : Int), isI (n : Int), SlK 2 zc xs])]) rfl ?_)
    simp only [] at hJ
    refine .seq fun _ k18 => .region (st (.ltI (.t rfl) (.t rfl)) rfl (nl (.thn (k18 _ _ (.seq fun _ k19 => .cond (.t rfl) (fun hc4 => ?_) (fun hc4 => ?_))))))
    ·have hc4 := BP.t hc4
     have hj : j < d := (by omega)
     have hxl : ((xsQ x d).map nq).length = d := by rw [List.length_map, xsQ_len]
     have hjw := pe_min_nw hx hmin hj
     have hjq := pe_min_qs hx hmin hj
     have hjn := ngL_len x j
     refine .skip (.thn (k19 _ _ (.seq fun _ k20 => .block (.seq fun _ k21 => .region (st (.ixK sl68 ty75 (.t rfl) (.t rfl) rc_len ⟨by omega, by omega⟩ (getQ (i := j) (by rw [xsQ_len]; exact hj))) rfl ?_)))))
     refine st (.loadP (.t rfl) ty75 rfl (Ss' := [_, _, _, _]) rfl) rfl (.alloc [isB false, SlM isU [], isB false, SlM isU []] zero75 (fun _ _ => ⟨rfl, nilM _ _, rfl, nilM _ _, trivial⟩) rfl fun b4 => .store (.t rfl) (.t rfl) (i := 0) rfl ty75 rfl rfl (Ss' := [_, _, _, _]) rfl (M' := [(some _, cellM [_, _, _, _]), _, _, _, _]) rfl (nl (.thn (k21 _ _ (.seq fun _ k22 => .region (st (.load (.t rfl) (i := 0) rfl ty75 rfl (Ss' := [_, _, _, _]) rfl) rfl (st (.eq (.call (rat_Whole (q := qf (xsQ x d) j) (A := 8 ^ d * (1 + d * (K + n))) (by rw [xsQ_at hj]; exact hjq) (by omega) (by rw [xsQ_at hj, Rat.den_intCast])) (.cons (.t rfl) .nil)) ((show isTup [isZ _, isB _] = isTup [isZ (x j), isB true] from by rw [xsQ_at hj, Rat.num_intCast]))) rfl ?_)))))))
     refine st (.mv (.t rfl)) rfl (st (.ext (.t rfl) rfl) rfl (st (.ext (.t rfl) rfl) rfl (.alloc [isB false, SlM isU []] zero36 (fun _ _ => ⟨rfl, nilM _ _, trivial⟩) rfl fun b5 => .store (.t rfl) (.t rfl) (i := 0) rfl ty36 rfl rfl (Ss' := [_, _]) rfl (M' := [(some _, cellM [_, _]), _, _, _, _, _]) rfl (st (.as (.t rfl)) rfl (nl (.thn (k22 _ _ (.region (st (.mv (.t rfl)) rfl (st (.load (.t rfl) (i := 0) rfl ty36 rfl (Ss' := [_, _]) rfl) rfl (st (.eq (.call (zint_Neg (by rw [val_words]; omega)) (.cons (.t rfl) .nil)) ((show isZ _ = Flat (zc (nz (-(x j)))) from isZ_eq (by simp only [zv_nz, zv_nf])))) rfl ?_)))))))))))
     refine st (.buildS [isB false, SlM isU []] sl23 ty36 zero36 (fun _ _ => ⟨rfl, nilM _ _, trivial⟩) rfl rfl (.cons (.t rfl) rfl rfl rfl .nil) rfl (S := SlK 2 zc [nz (-(x j))]) rfl) rfl (.appendGK (fk := zc) (u := (false, [])) zc_len (by decide) (fun _ => inferInstance) sl23 ty36 zero36 (fun _ _ => ⟨rfl, nilM _ _, trivial⟩) by36 (.t rfl) (i := 2) rfl (.t rfl) (by simp only [List.length_map, hjn, List.length_singleton]; omega) (by simp) rfl fun gn2 => ?_)
     refine .memEq (M' := [_, _, grMK _ _ _, _, _, _]) rfl (st (.as (.t rfl)) rfl (nl (.bln (.thn (k20 _ _ (.region (st (.addI (.t rfl) (.cI 1 rfl) (by first | omega | assumption) (by first | omega | assumption)) rfl (st (.mv (.t rfl)) rfl (nl (.thn ?_))))))))))
     refine hK17 (⟨(j + 1, gn2), by show j + 1 ≤ d; omega⟩) _ _ ?_ (Cv.trans (Cv.drop ((.cons _ (.cons _ (.cons_cons _ (.cons_cons _ (.cons_cons _ (.cons_cons _ .slnil)))))))) (Cv.mem (.c 57 rfl ?_ (.c 9 rfl ?_ (.l [1, 4, 5, 6, 42, 43, 44, 45, 46, 47, 48, 49, 41, 50, 51, 7, 8, 52, 53, 54, 55, 56] rfl))) ?_))
     ·show d - (j + 1) < d - j; omega
     ·exact isI_eq (by omega)
     ·exact isGr_eq (by rw [ngL_succ, List.map_append, List.length_append]; rfl)
     ·exact memK_eq (by rw [ngL_succ, List.map_append]; rfl)
    ·have hc4 := BP.f hc4
     obtain rfl : j = d := (by omega)
     have hjn := ngL_len x j
     refine .exit (.the (.the (.blh (.thn (k15 _ _ (.seq fun _ k23 => .region (st (.mv (.t rfl)) rfl (st (.call (zint_Of) (.cons (.cI 1 rfl) .nil)) rfl (st (.buildS [isB false, SlM isU []] sl23 ty36 zero36 (fun _ _ => ⟨rfl, nilM _ _, trivial⟩) rfl rfl (.cons (.t rfl) rfl rfl rfl .nil) rfl (S := SlK 2 zc [nz 1]) rfl) rfl (.appendGK (fk := zc) (u := (false, [])) zc_len (by decide) (fun _ => inferInstance) sl23 ty36 zero36 (fun _ _ => ⟨rfl, nilM _ _, trivial⟩) by36 (.t rfl) (i := 0) rfl (.t rfl) (by simp only [List.length_map, hjn, List.length_singleton]; omega) (by simp) rfl fun gn3 => ?_))))))))))
     refine .memEq (M' := [grMK _ _ _, _, _, _]) rfl (.cv (Cv.freezeGKn (t := 75) (i := 0) (ys := (ngL x j).map nz ++ [nz 1]) zc_len rfl rfl rfl (by simp)) ?_)
     refine .memEq (M' := [_, _, _]) rfl (.cv (Cv.wk (.l [1, 4, 5, 6, 42, 43, 44, 45, 46, 47, 48, 49, 41, 50, 51, 7, 8, 52, 53, 54, 55, 56, 57, 58, 73, 74, 75] rfl)) (st (.as (.t rfl)) rfl (st (.as (.cI 0 rfl)) rfl (nl (.thn (k23 _ _ (.ret (.thr (.blr (.thr (.thr (.blr (rtN (.inl rfl) Tryz.results13 rfl rfl (.tmp (Has.t' rfl ?_) (.tmp (Has.t' rfl ?_) .nil)))))))))))))))
     ·exact SlK_eq (mnL_ng _ _)
     ·rfl
   ·have hc3 := BP.f hc3
    have hkd : k < d := Classical.byContradiction fun h => hc3 (if_neg (by rw [lsK_len]; exact h))
    refine .skip (.thn (k12 _ _ (.region (st (.mv (.t rfl)) rfl (st (.loadP (.t rfl) ty27 rfl (Ss' := [_, _, _]) rfl) rfl (st (.buildS [isI 0, isI 0, nilS] sl65 ty27 zero27 (fun _ _ => ⟨⟨rfl, by decide, by decide⟩, ⟨rfl, by decide, by decide⟩, rfl, trivial⟩) rfl rfl (.cons (.t rfl) rfl rfl rfl .nil) rfl (S := SlK 3 mc [((n : Int), (n : Int), pwL n (vals xs) k)]) rfl) rfl (.appendGK (fk := mc) (u := (0, 0, [])) mc_len (by decide) (fun _ => inferInstance) sl65 ty27 zero27 (fun _ _ => ⟨⟨rfl, by decide, by decide⟩, ⟨rfl, by decide, by decide⟩, nilK, trivial⟩) by27 (.t rfl) (i := 1) rfl (.t rfl) (by rw [lsK_len]; simp only [List.length_singleton]; omega) (by simp) rfl fun gl2 => ?_)))))))
    refine .memEq (M' := [_, grMK _ _ _, _]) rfl (st (.as (.t rfl)) rfl (nl (.bln (.thn (k10 _ _ (.seq fun _ k24 => .seq fun _ k25 => .region (st (.loadP (.t rfl) ty27 rfl (Ss' := [_, _, _]) rfl) rfl (nl (.thn (k25 _ _ (.region (.alloc [isI 0, isI 0, nilS] zero27 (fun _ _ => ⟨⟨rfl, by decide, by decide⟩, ⟨rfl, by decide, by decide⟩, rfl, trivial⟩) rfl fun b6 => .store (.t rfl) (.t rfl) (i := 0) rfl ty27 rfl rfl (Ss' := [_, _, _]) rfl (M' := [(some _, cellM [_, _, _]), _, _, _]) rfl (nl (.thn (k24 _ _ (.region (st (.load (.t rfl) (i := 0) rfl ty27 rfl (Ss' := [_, _, _]) rfl) rfl ?_)))))))))))))))))
    refine st (.load (.t rfl) (i := 3) rfl ty27 rfl (Ss' := [_, _, _]) rfl) rfl (st (.eq (.call (zmat_Mul (R := n) (C := n) (D := n) (K := (1 + d * (K + n))) (L := K) (xs := (pwL n (vals xs) k).map nz) (ys := xs) (by rw [vals_nz]; exact hpb k hI) hx (by omega) hn64 hn64 hn64 (by rw [List.length_map, pwL_len]) hl) (.cons (.t rfl) (.cons (.t rfl) .nil))) ((show _ = isTup [isMz n n (pwL n (vals xs) (k + 1)), isI 0] from by rw [vals_nz]; rfl))) rfl ?_)
    refine st (.ext (.t rfl) rfl) rfl (st (.ext (.t rfl) rfl) rfl (st (.call (zchar_must) (.cons (.t rfl) (.cons (.t rfl) .nil))) rfl (.store (.t rfl) (.t rfl) (i := 0) rfl ty27 rfl rfl (Ss' := [_, _, _]) rfl (M' := [(some _, cellM [_, _, _]), _, _, _]) rfl (nl (.thn ?_)))))
    refine hK9 (⟨(k + 1, gl2), by show k + 1 ≤ d; omega⟩) _ _ ?_ (Cv.trans (Cv.trans (Cv.drop (.cons_cons _ (.cons _ (.cons_cons _ (.cons_cons _ .slnil))))) (Cv.freezeBox (t := 6) (i := 0) rfl rfl rfl)) (Cv.mem (.c 5 rfl ?_ (.c 6 rfl ?_ (.l [1, 4] rfl))) ?_))
    ·show d - (k + 1) < d - k; omega
    ·exact isGr_eq (by rw [lsK_succ, List.length_append])
    ·rfl
    ·exact memK_eq (by rw [lsK_succ])
end Go.Proofs.YtcfobalbkhgdmaaGreat
namespace Go.Proofs.YtcfobalbkhgdmaaGreat
open Go.En Go.RowKit
set_option maxRecDepth 10000
set_option maxHeartbeats 4000000
open Go.Nt
open Go.Pz
open Go.Mz
open Go.Hn
open Go.Hp
open Go.Dt
theorem zmat_Scale_1 {C i k K : Nat} {r0 : Int} {xs : List (Bool × List Nat)} {m : Bool} {ws : List Nat} (hx : Bd (vals xs) K) (hK : K ≤ 400000000) (hw : (List.length (words (val ws))) ≤ 1000) (hxm : xs.length ≤ 4096) (hp : i * C + k < xs.length) : Ctr Tryz.prog 100 [isI (i : Int), isI (k : Int), ptM r0 (C : Int) xs, PtrL [isB m, isWords ws]] (Flat (zc (nz (cf (vals xs) (i * C + k) * zv m ws)))) := by
 refine Ctr.intro Tryz.func100 rfl (by kernel_rfl) Tryz.ntmps100 rfl fun w0 F0 => .cv (Cv.wk (.l [0, 1, 2, 3] rfl)) (.fact (Has.rngI (Has.t (t := 0) rfl)) fun lt0 => .fact (Has.rngI (Has.t (t := 1) rfl)) fun lt1 => ?_)
 have hxr := hx.raw (i * C + k)
 refine .seq fun _ k1 => .region (.alloc [isB false, SlM isU []] zero36 (fun _ _ => ⟨rfl, nilM _ _, trivial⟩) rfl fun b1 => nl (.thn (k1 _ _ (.seq fun _ k2 => .dr (.s [] rfl rfl rfl (.o rfl (.loadP (.t rfl) ty27 rfl (Ss' := [_, _, _]) rfl)) (.s [] rfl rfl rfl (.o rfl (.mv (.t rfl))) (.s [] rfl rfl rfl (.o rfl (.mv (.t rfl))) (.s [7, 8, 9] rfl rfl rfl (.o rfl (.call (zmat_get (i := i) (k := k) hxm hp) (.cons (.t rfl) (.cons (.t rfl) (.cons (.t rfl) .nil))))) (.s [] rfl rfl rfl (.o rfl (.loadP (.t rfl) ty36 rfl (Ss' := [_, _]) rfl)) (.fin (n := 5) mixed (by kernel_rfl) (by kernel_rfl) (by kernel_rfl) (.cv (Cv.wk (.l [6, 10, 11] rfl)) (st (.call (zint_Mul (by omega) (by omega)) (.cons (.t rfl) (.cons (.t rfl) .nil))) rfl (.store (.t rfl) (.t rfl) (i := 0) rfl ty36 rfl rfl (Ss' := [_, _]) rfl (M' := [(some _, cellM [_, _])]) rfl (nl (.thn (k2 _ _ (.ret (rt1 (.inl rfl) Tryz.results100 rfl (.cell rfl (i := 0) rfl ty36 rfl ?_ .nil)))))))))))))))))))
 all_goals (exact isZ_eq (by rw [cf_vals]))
theorem zmat_Scale {R C K : Nat} {xs : List (Bool × List Nat)} {m : Bool} {ws : List Nat} (hx : Bd (vals xs) K) (hK : K ≤ 400000000) (hw : (List.length (words (val ws))) ≤ 1000) (hR : R ≤ 64) (hC : C ≤ 64) (hl : xs.length = R * C) : Ctr Tryz.prog 67 [isM (R : Int) (C : Int) xs, Flat [isB m, isWords ws]] (isTup [isMz R C (sclL R C (zv m ws) (vals xs)), isI 0]) := by
 refine Ctr.intro Tryz.func67 rfl (by kernel_rfl) Tryz.ntmps67 rfl fun w0 F0 => .cv (Cv.wk (.l [0, 1] rfl)) (.fact (Has.okZ (Has.t (t := 1) rfl)) fun okz1 => ?_)
 have hRC := side_le hR hC
 have hfo := formB_true hR hC hl
 refine .seq fun _ k1 => .region (.box (.t rfl) rfl fun b1 => .box (.t rfl) rfl fun b2 => .alloc [isI 0, isI 0, nilS] zero27 (fun _ _ => ⟨⟨rfl, by decide, by decide⟩, ⟨rfl, by decide, by decide⟩, rfl, trivial⟩) rfl fun b3 => st (.as (.cI 0 rfl)) rfl (nl (.thn (k1 _ _ (.seq fun _ k2 => .seq fun _ k3 => .region (st (.load (.t rfl) (i := 2) rfl ty27 rfl (Ss' := [_, _, _]) rfl) rfl (st (.eq (.call (zmat_Formed) (.cons (.t rfl) .nil)) ((show isB _ = isB true from isB_eq (hfo)))) rfl (st (.not (.t rfl)) rfl (nl (.thn (k3 _ _ (.cond (.t rfl) (fun hc1 => ?_) (fun hc1 => ?_)))))))))))))
 ·have hc1 := BP.t hc1
  exfalso; simp at hc1
 ·have hc1 := BP.f hc1
  refine .skip (.thn (k2 _ _ (.cv (Cv.wk (.l [2, 3, 4, 5] rfl)) (.seq fun _ k4 => .region (st (.fieldAddr (.t rfl) fld27_0 ty3) rfl (st (.load1 (.t rfl) (i := 2) rfl ty3 rfl) rfl (st (.fieldAddr (.t rfl) fld27_1 ty3) rfl (st (.load1 (.t rfl) (i := 2) rfl ty3 rfl) rfl (.cv (Cv.freezeBox (t := 2) (i := 2) rfl rfl rfl) (.memEq (M' := [_, _]) rfl (.cv (Cv.wk (.l [2, 3, 4, 5, 11, 13] rfl)) (.cv (Cv.freezeBox (t := 3) (i := 1) rfl rfl rfl) (.memEq (M' := [_]) rfl (.cv (Cv.wk (.l [2, 3, 4, 5, 11, 13] rfl)) (st (.makeFn (ι := PI R C) (As := fun p => [isI (p.1.1 : Int), isI (p.1.2 : Int)]) (R := fun p => Flat (zc (nz (cf (vals xs) (p.1.1 * C + p.1.2) * zv m ws)))) (fun p => zmat_Scale_1 hx hK hw (by omega) (by have := place_lt p.2.1 p.2.2; omega)) .nil (.cons (.t rfl) (.cons (.t rfl) .nil))) rfl ?_)))))))))))))))
  refine st (.call (zmat_made (f := fun i k => nz (cf (vals xs) (i * C + k) * zv m ws)) hR hC (fun i k _ _ => by rw [val_words]; have h1 := nz_mul (cf (vals xs) (i * C + k)) (zv m ws); have h2 := hx (i * C + k); have h3 := zv_nw m ws; omega)) (.cons (.t rfl) (.cons (.t rfl) (.cons (.t rfl) .nil)))) rfl ?_
  refine .store (.t rfl) (.t rfl) (i := 0) rfl ty27 rfl rfl (Ss' := [_, _, _]) rfl (M' := [(some _, cellM [_, _, _])]) rfl (st (.as (.cI 0 rfl)) rfl (nl (.thn (k4 _ _ (.cv (Cv.wk (.l [4, 5] rfl)) (.ret (rtN (.inl rfl) Tryz.results67 rfl rfl (.cell rfl (i := 0) rfl ty27 rfl ?_ (.tmp (Has.t' rfl ?_) .nil)))))))))
  ·exact isMz_eq (by rw [zvz fun i k => cf (vals xs) (i * C + k) * zv m ws]; rfl)
  ·rfl
end Go.Proofs.YtcfobalbkhgdmaaGreat
namespace Go.Proofs.YtcfobalbkhgdmaaGreat
open Go.En Go.RowKit
set_option maxRecDepth 10000
set_option maxHeartbeats 4000000
open Go.Nt
open Go.Pz
open Go.Mz
open Go.Hn
open Go.Hp
open Go.Dt
open Go.Ch
theorem exact_mul {k : Nat} (h : 1 ≤ k) (c : Int) : (if (k : Int) ≠ 0 ∧ ((k : Int) * c).tmod (k : Int) = 0 then ((k : Int) * c).tdiv (k : Int) else 0) = c := by
 rw [if_pos ⟨by omega, Int.mul_tmod_right _ _⟩]
 exact Int.mul_tdiv_cancel_left _ (by omega)
theorem qF_fz {n k : Nat} {L : List Int} (h : k = n + 1) : (qF n L k).take (n + 1) = (chL n L).map nz := by
 subst h
 rw [List.take_of_length_le (by rw [qF_len]; exact Nat.le_refl _), qF_done]
theorem memQ_eq {b : Nat} {x : Option Nat × MP} {a c : List (Bool × List Nat)} {r : Mem} (h : a = c) : (x :: (some b, cellM (a.flatMap zc)) :: r : Mem) = x :: (some b, cellM (c.flatMap zc)) :: r := by subst h; rfl
theorem fl_first (n : Nat) (L : List Int) : oneL n = flM n L (min 1 n) := by
 rcases Nat.eq_zero_or_pos n with h | h
 ·subst h; rfl
 ·rw [Nat.min_eq_left h, fl_one h]
theorem zchar_steps {n K : Nat} {xs : List (Bool × List Nat)} (hx : Bd (vals xs) K) (hB : K + flB n K n + 2 * n ≤ 900) (hn : n ≤ 64) (hl : xs.length = n * n) : Ctr Tryz.prog 36 [isM (n : Int) (n : Int) xs] (isTup [isP (chL n (vals xs)), isMz n n (flM n (vals xs) n)]) := by
 refine Ctr.intro Tryz.func36 rfl (by kernel_rfl) Tryz.ntmps36 rfl fun w0 F0 => .cv (Cv.wk (.l [0] rfl)) ?_
 have hRC := side_le hn hn
 have hOb : Bd (vals ((oneL n).map nz)) 1 := by rw [vals_nz]; exact oneL_bd n
 have hOl : ((oneL n).map nz).length = n * n := by rw [List.length_map, oneL_len]
 have hcb := chL_bd (n := n) hx
 refine .seq fun _ k1 => .region (.box (.t rfl) rfl fun b1 => st (.as (.cWK (k := 2) (fk := zc))) rfl (.alloc [isI 0, isI 0, nilS] zero27 (fun _ _ => ⟨⟨rfl, by decide, by decide⟩, ⟨rfl, by decide, by decide⟩, rfl, trivial⟩) rfl fun b2 => nl (.thn (k1 _ _ (.seq fun _ k2 => .region (st (.fieldAddr (.t rfl) fld27_0 ty3) rfl (st (.load1 (.t rfl) (i := 1) rfl ty3 rfl) rfl (st (.as (.t rfl)) rfl (nl (.thn (k2 _ _ (.seq fun _ k3 => .region (st (.mv (.t rfl)) rfl (st (.call (zmat_Identity hn) (.cons (.t rfl) .nil)) rfl (st (.ext (.t rfl) rfl) rfl (st (.ext (.t rfl) rfl) rfl (st (.call (zchar_must) (.cons (.t rfl) (.cons (.t rfl) .nil))) rfl (.alloc [isI 0, isI 0, nilS] zero27 (fun _ _ => ⟨⟨rfl, by decide, by decide⟩, ⟨rfl, by decide, by decide⟩, rfl, trivial⟩) rfl fun b3 => .store (.t rfl) (.t rfl) (i := 0) rfl ty27 rfl rfl (Ss' := [_, _, _]) rfl (M' := [(some _, cellM [_, _, _]), _, _]) rfl (nl (.thn (k3 _ _ (.cv (Cv.wk (.l [1, 2, 3, 4, 5] rfl)) (.seq fun _ k4 => .region (st (.mv (.t rfl)) rfl (st (.eq (.addI (.t rfl) (.cI 1 rfl) (by first | omega | assumption) (by first | omega | assumption)) ((show isI _ = isI ((n + 1 : Nat) : Int) from isI_eq (by omega)))) rfl (.makeK (fk := zc) (u := (false, [])) (n := (n + 1)) (c := (n + 1)) sl23 ty36 zero36 (fun _ _ => ⟨rfl, nilM _ _, trivial⟩) zc_len by36 (Has.t' rfl rfl) (Has.t' rfl rfl) ⟨by omega, by omega⟩ rfl fun b4 => st (.as (.t rfl)) rfl (nl (.thn (k4 _ _ (.seq fun _ k5 => .region (st (.mv (.t rfl)) rfl (st (.mv (.t rfl)) rfl (st (.eq (.call (zint_Of) (.cons (.cI 1 rfl) .nil)) ((show isZ 1 = Flat (zc (nz 1)) from rfl))) rfl (st (.eq (.ixWin sl23 ty36 (.t rfl) (.t rfl) ⟨by omega, by omega⟩) (isPtr_eq (by first | exact ixo0 | exact ixo2 | exact ixo1))) rfl (.storeK (z := nz 1) zc_len (.t rfl) (.t rfl) (i := 0) rfl ty36 (by simp only [Int.toNat_natCast, List.length_replicate]; omega) (M' := [(_, _), _, _, _]) rfl ?_)))))))))))))))))))))))))))))))))))
 refine nl (.thn (k5 _ _ (.cv (Cv.wk (.l [1, 2, 3, 4, 5, 6] rfl)) (.seq fun _ k6 => .region (st (.load (.t rfl) (i := 1) rfl ty27 rfl (Ss' := [_, _, _]) rfl) rfl (.alloc [isI 0, isI 0, nilS] zero27 (fun _ _ => ⟨⟨rfl, by decide, by decide⟩, ⟨rfl, by decide, by decide⟩, rfl, trivial⟩) rfl fun b5 => .store (.t rfl) (.t rfl) (i := 0) rfl ty27 rfl rfl (Ss' := [_, _, _]) rfl (M' := [(some _, cellM [_, _, _]), _, _, _, _]) rfl (nl (.thn (k6 _ _ (.seq fun _ k7 => .seq fun _ k8 => .region (st (.as (.cI 1 rfl)) rfl (nl (.thn (k8 _ _ (.block ?_)))))))))))))))
 refine .loopF [1, 2, 3, 4, 5, 6, 7] (fun (z : { z : Nat × List Int // 1 ≤ z.1 ∧ z.1 ≤ n + 1 ∧ z.2 = flM n (vals xs) (min z.1 n) }) => match z with | ⟨(k, Mk), hI⟩ => [(8, isI (k : Int))]) (fun M => fun (z : { z : Nat × List Int // 1 ≤ z.1 ∧ z.1 ≤ n + 1 ∧ z.2 = flM n (vals xs) (min z.1 n) }) => match z with | ⟨(k, Mk), hI⟩ => [(some b5, cellM [isI (n : Int), isI (n : Int), SlK 2 zc (Mk.map nz)]), (some b4, cellM ((qF n (vals xs) k).flatMap zc)), (some b3, cellM [isI (n : Int), isI (n : Int), SlK 2 zc ((oneL n).map nz)]), (some b2, cellM [isI 0, isI 0, nilS]), (some b1, cellM [isI (n : Int), isI (n : Int), SlK 2 zc xs])]) (fun (z : { z : Nat × List Int // 1 ≤ z.1 ∧ z.1 ≤ n + 1 ∧ z.2 = flM n (vals xs) (min z.1 n) }) => match z with | ⟨(k, Mk), hI⟩ => n + 1 - k) (⟨(1, oneL n), Nat.le_refl _, by show 1 ≤ n + 1; omega, fl_first n _⟩) (Cv.mem (.c 8 rfl ?_ (.l [1, 2, 3, 4, 5, 6, 7] rfl)) ?_) ?_
 ·exact isI_eq (by omega)
 ·exact memQ_eq (qF_one n _)
 rintro ⟨⟨k, Mk⟩, hI⟩ K9 hK9
 refine .cv (Cv.wk (.l [8, 1, 2, 3, 4, 5, 6, 7] rfl)) (.memEq (M' := [(some b5, cellM [isI (n : Int), isI (n : Int), SlK 2 zc (Mk.map nz)]), (some b4, cellM ((qF n (vals xs) k).flatMap zc)), (some b3, cellM [isI (n : Int), isI (n : Int), SlK 2 zc ((oneL n).map nz)]), (some b2, cellM [isI 0, isI 0, nilS]), (some b1, cellM [isI (n : Int), isI (n : Int), SlK 2 zc xs])]) rfl ?_)
 simp only [] at hI
 obtain ⟨hk1, hk2, hMk⟩ := hI
 obtain ⟨cK, hcK⟩ : ∃ c, c = flC n (vals xs) k := ⟨_, rfl⟩
 have hMl : Mk.length = n * n := by rw [hMk]; exact flM_len _ _ _
 refine .seq fun _ k10 => .seq fun _ k11 => .region (st (.mv (.t rfl)) rfl (st (.mv (.t rfl)) rfl (st (.leI (.t rfl) (.t rfl)) rfl (nl (.thn (k11 _ _ (.cond (.t rfl) (fun hc1 => ?_) (fun hc1 => ?_))))))))
 ·have hc1 := BP.t hc1
  have hkn : k ≤ n := (by omega)
  have hMk2 : Mk = flM n (vals xs) k := by rw [hMk, Nat.min_eq_left hkn]
  have hMb : Bd Mk (flB n K n) := by rw [hMk2]; exact (fl_bd hx k hk1 hkn).mono (by unfold flB; exact Nat.add_le_add_left (Nat.mul_le_mul_right _ (by omega)) _)
  obtain ⟨Am, hAm⟩ : ∃ X, X = prdL n (vals xs) Mk := ⟨_, rfl⟩
  have hAb : Bd Am (K + flB n K n + n) := by rw [hAm]; exact prdL_bd hx hMb
  have hAl : Am.length = n * n := by rw [hAm]; exact prdL_len _ _ _
  have htr : trcL n Am n = -((k : Int) * cK) := by rw [hAm, hMk2, hcK]; exact fl_tr hk1 hkn
  have hcb2 : (List.length (words cK.natAbs)) ≤ K + flB n K n + 2 * n := by rw [hcK]; exact fl_cbd hx (by rw [← hMk2]; exact hMb) hk1 hkn
  have hts : (List.length (words (trcL n Am n).natAbs)) ≤ K + flB n K n + n + n := sm_nw (fun i => hAb _) n
  rw [htr, Int.natAbs_neg] at hts
  have hkw : (List.length (words ((k : Int)).natAbs)) ≤ 1 := nw_small' (by omega)
  refine .skip (.thn (k10 _ _ (.seq fun _ k12 => .block (.seq fun _ k13 => .region (st (.load (.t rfl) (i := 4) rfl ty27 rfl (Ss' := [_, _, _]) rfl) rfl ?_)))))
  refine st (.load (.t rfl) (i := 0) rfl ty27 rfl (Ss' := [_, _, _]) rfl) rfl (st (.eq (.call (zmat_Mul (R := n) (C := n) (D := n) (K := K) (L := flB n K n) (ys := Mk.map nz) hx (by rw [vals_nz]; exact hMb) (by omega) hn hn hn hl (by rw [List.length_map]; exact hMl)) (.cons (.t rfl) (.cons (.t rfl) .nil))) ((show _ = isTup [isMz n n Am, isI 0] from by rw [vals_nz, hAm]; rfl))) rfl ?_)
  refine st (.ext (.t rfl) rfl) rfl (st (.ext (.t rfl) rfl) rfl (st (.call (zchar_must) (.cons (.t rfl) (.cons (.t rfl) .nil))) rfl (.alloc [isI 0, isI 0, nilS] zero27 (fun _ _ => ⟨⟨rfl, by decide, by decide⟩, ⟨rfl, by decide, by decide⟩, rfl, trivial⟩) rfl fun b6 => .store (.t rfl) (.t rfl) (i := 0) rfl ty27 rfl rfl (Ss' := [_, _, _]) rfl (M' := [(some _, cellM [_, _, _]), _, _, _, _, _]) rfl (nl (.thn (k13 _ _ (.seq fun _ k14 => .region (st (.load (.t rfl) (i := 0) rfl ty27 rfl (Ss' := [_, _, _]) rfl) rfl (st (.eq (.call (zchar_trace (K := K + flB n K n + n) (xs := Am.map nz) (by rw [vals_nz]; exact hAb) (by omega) hn (by rw [List.length_map]; exact hAl)) (.cons (.t rfl) .nil)) ((show _ = isZ (-((k : Int) * cK)) from isZ_eq (by rw [vals_nz, htr])))) rfl ?_)))))))))
  refine st (.eq (.call (zint_Neg (by rw [val_words, Int.natAbs_neg]; omega)) (.cons (.t rfl) .nil)) ((show _ = isZ ((k : Int) * cK) from isZ_eq (by simp only [zv_nf, zv_nz]; omega)))) rfl ?_
  refine st (.mv (.t rfl)) rfl (st (.call (zint_Of) (.cons (.t rfl) .nil)) rfl (st (.call (zint_Exact (by rw [val_words]; omega) (by rw [val_words]; omega)) (.cons (.t rfl) (.cons (.t rfl) .nil))) rfl ?_))
  refine st (.mv (.t rfl)) rfl (st (.eq (.ext (.t rfl) rfl) ((show _ = isZ cK from isZ_eq (by simp only [zv_nf, zv_nz]; exact exact_mul hk1 cK)))) rfl ?_)
  refine st (.ext (.t rfl) rfl) rfl (.alloc [isB false, SlM isU []] zero36 (fun _ _ => ⟨rfl, nilM _ _, trivial⟩) rfl fun b7 => .store (.t rfl) (.t rfl) (i := 0) rfl ty36 rfl rfl (Ss' := [_, _]) rfl (M' := [(some _, cellM [_, _]), _, _, _, _, _, _]) rfl (st (.as (.t rfl)) rfl (nl (.thn (k14 _ _ (.seq fun _ k15 => .region (st (.mv (.t rfl)) rfl (st (.mv (.t rfl)) rfl (st (.mv (.t rfl)) rfl (st (.eq (.subI (.t rfl) (.t rfl) (by first | omega | assumption) (by first | omega | assumption)) ((show isI _ = isI ((n - k : Nat) : Int) from isI_eq (by omega)))) rfl (st (.load (.t rfl) (i := 0) rfl ty36 rfl (Ss' := [_, _]) rfl) rfl (st (.eq (.ixWin sl23 ty36 (.t rfl) (.t rfl) ⟨by omega, by omega⟩) (isPtr_eq (by first | exact ixo0 | exact ixo2 | exact ixo1))) rfl (.storeK (z := nz cK) zc_len (.t rfl) (.t rfl) (i := 3) rfl ty36 (by rw [qF_len]; simp only [Int.toNat_natCast]; omega) (M' := [_, _, _, (_, _), _, _, _]) rfl ?_)))))))))))))
  refine nl (.thn (k15 _ _ (.seq fun _ k16 => .region (st (.mv (.t rfl)) rfl (st (.mv (.t rfl)) rfl (st (.ltI (.t rfl) (.t rfl)) rfl (nl (.thn (k16 _ _ (.cond (.t rfl) (fun hc2 => ?_) (fun hc2 => ?_)))))))))))
  ·have hc2 := BP.t hc2
   refine .dr (.s [] rfl rfl rfl (.o rfl (.load (.t rfl) (i := 1) rfl ty27 rfl (Ss' := [_, _, _]) rfl)) (.s [] rfl rfl rfl (.o rfl (.load (.t rfl) (i := 4) rfl ty27 rfl (Ss' := [_, _, _]) rfl)) (.s [] rfl rfl rfl (.o rfl (.load (.t rfl) (i := 0) rfl ty36 rfl (Ss' := [_, _]) rfl)) ?_)))
   refine .s [57, 58] rfl rfl rfl (.o rfl (.eq (.call (zmat_Scale (R := n) (C := n) (K := 1) hOb (by decide) (by rw [val_words]; omega) hn hn hOl) (.cons (.t rfl) (.cons (.t rfl) .nil))) ((show _ = isTup [isMz n n (sclL n n cK (oneL n)), isI 0] from by rw [vals_nz]; first | rw [zv_nf] | rw [zv_nz])))) ?_
   refine .s [59] rfl rfl rfl (.o rfl (.ext (.t rfl) rfl)) (.s [59] rfl rfl rfl (.o rfl (.ext (.t rfl) rfl)) (.s [60, 61] rfl rfl rfl (.o rfl (.call (zchar_must) (.cons (.t rfl) (.cons (.t rfl) .nil)))) (.s [56, 62] rfl rfl rfl (.o rfl (.eq (.call (zmat_Add (K := 1000) (xs := Am.map nz) (ys := (sclL n n cK (oneL n)).map nz) (by rw [vals_nz]; exact hAb.mono (by omega)) (by rw [vals_nz]; exact (scl_one_bd hcb2).mono (by omega)) (by decide) hn (by rw [List.length_map]; exact hAl) (by rw [List.length_map, sclL_len])) (.cons (.t rfl) (.cons (.t rfl) .nil))) ((show _ = isTup [isMz n n (sumL n Am (sclL n n cK (oneL n))), isI 0] from by rw [vals_nz, vals_nz])))) ?_)))
   refine .s [63] rfl rfl rfl (.o rfl (.ext (.t rfl) rfl)) (.s [63] rfl rfl rfl (.o rfl (.ext (.t rfl) rfl)) (.fin (n := 10) mixed (by kernel_rfl) (by kernel_rfl) (by kernel_rfl) (.cv (Cv.wk (.l [1, 2, 3, 4, 5, 6, 7, 8, 27, 28, 29, 32, 33, 34, 35, 36, 37, 9, 39, 40, 41, 42, 43, 44, 38, 45, 46, 10, 47, 48, 49, 50, 51, 52, 53, 54, 55, 56, 57, 58, 59, 60, 61, 62, 63, 64, 65] rfl)) (st (.call (zchar_must) (.cons (.t rfl) (.cons (.t rfl) .nil))) rfl (.store (.t rfl) (.t rfl) (i := 2) rfl ty27 rfl rfl (Ss' := [_, _, _]) rfl (M' := [_, _, (some _, cellM [_, _, _]), _, _, _, _]) rfl (nl (.bln (.thn (k12 _ _ (.region (st (.mv (.t rfl)) rfl (st (.addI (.t rfl) (.cI 1 rfl) (by first | omega | assumption) (by first | omega | assumption)) rfl (st (.as (.t rfl)) rfl (nl (.thn ?_)))))))))))))))
   refine hK9 (⟨(k + 1, sumL n Am (sclL n n cK (oneL n))), by show 1 ≤ k + 1; omega, by show k + 1 ≤ n + 1; omega, by show _ = flM n (vals xs) (min (k + 1) n); rw [hAm, hMk2, hcK, Nat.min_eq_left (by omega)]; exact fl_next hk1 (by omega)⟩) _ _ ?_ (Cv.trans (Cv.drop ((.cons _ (.cons _ (.cons_cons _ (.cons_cons _ (.cons_cons _ (.cons_cons _ (.cons_cons _ .slnil))))))))) (Cv.mem (.c 8 rfl ?_ (.l [1, 2, 3, 4, 5, 6, 7] rfl)) ?_))
   ·show n + 1 - (k + 1) < n + 1 - k; omega
   ·exact isI_eq (by omega)
   ·exact memQ_eq (by rw [Int.toNat_natCast, hcK]; exact qF_set hkn)
  ·have hc2 := BP.f hc2
   refine .skip (.bln (.thn (k12 _ _ (.region (st (.mv (.t rfl)) rfl (st (.addI (.t rfl) (.cI 1 rfl) (by first | omega | assumption) (by first | omega | assumption)) rfl (st (.as (.t rfl)) rfl (nl (.thn ?_)))))))))
   refine hK9 (⟨(k + 1, Mk), by show 1 ≤ k + 1; omega, by show k + 1 ≤ n + 1; omega, by show _ = flM n (vals xs) (min (k + 1) n); rw [hMk, Nat.min_eq_right (by omega), Nat.min_eq_right (by omega)]⟩) _ _ ?_ (Cv.trans (Cv.drop ((.cons _ (.cons _ (.cons_cons _ (.cons_cons _ (.cons_cons _ (.cons_cons _ (.cons_cons _ .slnil))))))))) (Cv.mem (.c 8 rfl ?_ (.l [1, 2, 3, 4, 5, 6, 7] rfl)) ?_))
   ·show n + 1 - (k + 1) < n + 1 - k; omega
   ·exact isI_eq (by omega)
   ·exact memQ_eq (by rw [Int.toNat_natCast, hcK]; exact qF_set hkn)
 ·have hc1 := BP.f hc1
  have hkn : k = n + 1 := (by omega)
  refine .exit (.the (.the (.blh (.thn (k7 _ _ (.cv (Cv.wk (.l [2, 3, 6, 7] rfl)) (.seq fun _ k17 => .cv (Cv.freezeK (t := 6) (i := 1) (ys := (chL n (vals xs)).map nz) zc_len rfl rfl rfl (by rw [qF_len]; omega) (qF_fz hkn)) ?_)))))))
  refine .memEq (M' := [_, _, _, _]) rfl (.cv (Cv.wk (.l [2, 3, 6, 7] rfl)) (.cv (Cv.wk (.l [3, 6, 7] rfl)) (.dr (.s [] rfl rfl rfl (.o rfl (.mv (.t rfl))) (.s [67] rfl rfl rfl (.o rfl (.eq (.call (zpoly_Norm (K := 1000) (by rw [vals_nz]; exact hcb.mono (by omega)) (by decide) (by rw [List.length_map, chL_len]; omega)) (.cons (.t rfl) .nil)) ((show _ = isP (chL n (vals xs)) from isPl_eq (by rw [vals_nz, chL_norm]))))) ?_)))))
  refine .s [] rfl rfl rfl (.o rfl (.load (.t rfl) (i := 0) rfl ty27 rfl (Ss' := [_, _, _]) rfl)) (.s [68] rfl rfl rfl (.o rfl (.as (.t rfl))) (.fin (n := 4) mixed (by kernel_rfl) (by kernel_rfl) (by kernel_rfl) (.cv (Cv.wk (.l [3, 69, 2] rfl)) (.store (.t rfl) (.t rfl) (i := 2) rfl ty27 rfl rfl (Ss' := [_, _, _]) rfl (M' := [_, _, (some _, cellM [_, _, _]), _]) rfl (nl (.thn (k17 _ _ (.ret (rtN (.inl rfl) Tryz.results36 rfl rfl (.tmp (Has.t' rfl ?_) (.cell rfl (i := 2) rfl ty27 rfl ?_ .nil)))))))))))
  ·rfl
  ·exact isMz_eq (by rw [hMk, hkn, Nat.min_eq_right (by omega)])
theorem zchar_Char {n K : Nat} {xs : List (Bool × List Nat)} (hx : Bd (vals xs) K) (hB : K + flB n K n + 2 * n ≤ 900) (hn : n ≤ 64) (hl : xs.length = n * n) : Ctr Tryz.prog 12 [isM (n : Int) (n : Int) xs] (isTup [isP (chL n (vals xs)), isI 0]) := by
 refine Ctr.intro Tryz.func12 rfl (by kernel_rfl) Tryz.ntmps12 rfl fun w0 F0 => .cv (Cv.wk (.l [0] rfl)) ?_
 have hfo := formB_true hn hn hl
 have hfs : (formB (n : Int) (n : Int) xs.length && decide ((n : Int) = (n : Int))) = true := by rw [hfo]; simp
 refine .seq fun _ k1 => .region (.box (.t rfl) rfl fun b1 => st (.as (.cWK (k := 2) (fk := zc))) rfl (st (.as (.cI 0 rfl)) rfl (nl (.thn (k1 _ _ (.seq fun _ k2 => .seq fun _ k3 => .region (st (.load (.t rfl) (i := 0) rfl ty27 rfl (Ss' := [_, _, _]) rfl) rfl (st (.eq (.call (zchar_square) (.cons (.t rfl) .nil)) ((show isB _ = isB true from isB_eq (hfs)))) rfl (st (.not (.t rfl)) rfl (nl (.thn (k3 _ _ (.cond (.t rfl) (fun hc1 => ?_) (fun hc1 => ?_))))))))))))))
 ·have hc1 := BP.t hc1
  exfalso; simp at hc1
 ·have hc1 := BP.f hc1
  refine .skip (.thn (k2 _ _ (.seq fun _ k4 => .region (st (.load (.t rfl) (i := 0) rfl ty27 rfl (Ss' := [_, _, _]) rfl) rfl (st (.call (zchar_steps hx hB hn hl) (.cons (.t rfl) .nil)) rfl (st (.mv (.t rfl)) rfl (st (.ext (.t rfl) rfl) rfl (st (.ext (.t rfl) rfl) rfl (.alloc [isI 0, isI 0, nilS] zero27 (fun _ _ => ⟨⟨rfl, by decide, by decide⟩, ⟨rfl, by decide, by decide⟩, rfl, trivial⟩) rfl fun b2 => st (.as (.t rfl)) rfl (.store (.t rfl) (.t rfl) (i := 0) rfl ty27 rfl rfl (Ss' := [_, _, _]) rfl (M' := [(some _, cellM [_, _, _]), _]) rfl (nl (.thn (k4 _ _ (.cv (Cv.wk (.l [2, 3, 4] rfl)) (.seq fun _ k5 => .region (st (.mv (.t rfl)) rfl (st (.as (.t rfl)) rfl (st (.as (.cI 0 rfl)) rfl (nl (.thn (k5 _ _ (.ret (rtN (.inl rfl) Tryz.results12 rfl rfl (.tmp (Has.t' rfl ?_) (.tmp (Has.t' rfl ?_) .nil)))))))))))))))))))))))))
  ·rfl
  ·rfl
end Go.Proofs.YtcfobalbkhgdmaaGreat
namespace Go.Proofs.YtcfobalbkhgdmaaGreat
open Go.En Go.RowKit
set_option maxRecDepth 10000
set_option maxHeartbeats 4000000
open Go.Nt
open Go.Pz
theorem zpoly_both {op : Int → Int → Int} {xs ys : List (Bool × List Nat)} {K L : Nat} (hx : Bd (vals xs) K) (hy : Bd (vals ys) K) (hop : ∀ i, (List.length (words (op (cf (vals xs) i) (cf (vals ys) i)).natAbs)) ≤ L) (hL : L ≤ 4000000000) (h0 : op 0 0 = 0) (hn : xs.length ≤ 1000000) (hm : ys.length ≤ 1000000) : Ctr Tryz.prog 92 [SlK 2 zc xs, SlK 2 zc ys, isOp Tryz.prog K op] (isP (both op (vals xs) (vals ys))) := by
 refine Ctr.intro Tryz.func92 rfl (by kernel_rfl) Tryz.ntmps92 rfl fun w0 F0 => .cv (Cv.wk (.l [0, 1, 2] rfl)) (.fact (Has.lenLt (Has.t (t := 0) rfl)) fun lt0 => .fact (Has.lenLt (Has.t (t := 1) rfl)) fun lt1 => ?_)
 obtain ⟨F, hF⟩ : ∃ F, F = (List.range (max xs.length ys.length)).map fun i => op (cf (vals xs) i) (cf (vals ys) i) := ⟨_, rfl⟩
 have hFl : F.length = max xs.length ys.length := by rw [hF, List.length_map, List.length_range]
 have hFb : Bd F L := fun i => by
  rw [hF, cf_tab]
  split
  ·exact hop i
  ·rw [Int.natAbs_zero, words_zero]; exact Nat.zero_le _
 refine .seq fun _ k1 => .region (st (.as (.cWK (k := 2) (fk := zc))) rfl (nl (.thn (k1 _ _ (.seq fun _ k2 => .region (st (.mv (.t rfl)) rfl (st (.len sl23 (.t rfl)) rfl (st (.mv (.t rfl)) rfl (st (.len sl23 (.t rfl)) rfl (st (.eq (.maxI (.t rfl) (.t rfl)) ((show isI _ = isI ((max xs.length ys.length : Nat) : Int) from isI_eq (by omega)))) rfl (.makeK (fk := zc) (u := (false, [])) (n := max xs.length ys.length) (c := max xs.length ys.length) sl23 ty36 zero36 (fun _ _ => ⟨rfl, nilM _ _, trivial⟩) zc_len by36 (Has.t' rfl rfl) (Has.t' rfl rfl) ⟨by omega, by omega⟩ rfl fun b1 => st (.as (.t rfl)) rfl (nl (.thn (k2 _ _ (.cv (Cv.wk (.l [0, 1, 2, 6, 7] rfl)) (.seq fun _ k3 => .seq fun _ k4 => .region (st (.mv (.t rfl)) rfl (st (.len sl23 (.t rfl)) rfl (st (.mv (.cI 0 rfl)) rfl (nl (.thn (k4 _ _ (.block (.loopF [0, 1, 2, 6, 7, 16] (fun (z : { i : Nat // i ≤ max xs.length ys.length }) => match z with | ⟨i, hi⟩ => [(17, isI (i : Int))]) (fun M => fun (z : { i : Nat // i ≤ max xs.length ys.length }) => match z with | ⟨i, hi⟩ => [(some b1, cellM ((fill (F.map nz) i (false, [])).flatMap zc))]) (fun (z : { i : Nat // i ≤ max xs.length ys.length }) => match z with | ⟨i, hi⟩ => max xs.length ys.length - i) (⟨0, Nat.zero_le _⟩) (Cv.mem (.c 17 rfl ?_ (.l [0, 1, 2, 6, 7, 16] rfl)) ?_) ?_))))))))))))))))))))))))
 ·rfl
 ·exact memZ_eq (by rw [fill_zero, List.length_map, hFl])
 rintro ⟨i, hi⟩ K5 hK5
 refine .cv (Cv.wk (.l [17, 0, 1, 2, 6, 7, 16] rfl)) (.memEq (M' := [(some b1, cellM ((fill (F.map nz) i (false, [])).flatMap zc))]) rfl (.seq fun _ k6 => .region (st (.ltI (.t rfl) (.t rfl)) rfl (nl (.thn (k6 _ _ (.seq fun _ k7 => .cond (.t rfl) (fun hc1 => ?_) (fun hc1 => ?_))))))))
 ·have hc1 := BP.t hc1
  refine .skip (.thn (k7 _ _ (.seq fun _ k8 => .block (.seq fun _ k9 => .region (st (.mv (.t rfl)) rfl (st (.as (.t rfl)) rfl (nl (.thn (k9 _ _ (.region (st (.mv (.t rfl)) rfl (st (.mv (.t rfl)) rfl (st (.mv (.t rfl)) rfl (st (.mv (.t rfl)) rfl (st (.mv (.t rfl)) rfl (st (.call (zpoly_at) (.cons (.t rfl) (.cons (.t rfl) .nil))) rfl (st (.mv (.t rfl)) rfl (st (.mv (.t rfl)) rfl (st (.call (zpoly_at) (.cons (.t rfl) (.cons (.t rfl) .nil))) rfl (st (.eq (.callV ⟨(xs.getD i (false, []), ys.getD i (false, [])), hx.raw i, hy.raw i⟩ (.t rfl) (.cons (.t rfl) (.cons (.t rfl) .nil))) ((show isZ _ = Flat (zc (nz (op (cf (vals xs) i) (cf (vals ys) i)))) from isZ_eq (by rw [cf_vals, cf_vals])))) rfl (st (.eq (.ixWin sl23 ty36 (.t rfl) (.t rfl) ⟨by omega, by omega⟩) (isPtr_eq (by exact ixo2))) rfl (.storeK (z := nz (op (cf (vals xs) i) (cf (vals ys) i))) zc_len (.t rfl) (.t rfl) (i := 0) rfl ty36 (by rw [fill_len _ _ _ (by rw [List.length_map]; omega), List.length_map]; omega) (M' := [(_, _)]) rfl ?_))))))))))))))))))))))
  refine nl (.bln (.thn (k8 _ _ (.region (st (.addI (.t rfl) (.cI 1 rfl) (by omega) (by omega)) rfl (st (.mv (.t rfl)) rfl (nl (.thn (hK5 (⟨i + 1, by omega⟩) _ _ ?_ (Cv.mem (.c 17 rfl ?_ (.l [0, 1, 2, 6, 7, 16] rfl)) ?_))))))))))
  ·show max xs.length ys.length - (i + 1) < max xs.length ys.length - i; omega
  ·exact isI_eq (by omega)
  ·exact memF_eq (by rw [List.getElem?_map, hF, List.getElem?_map, List.getElem?_range (by omega)]; rfl)
 ·have hc1 := BP.f hc1
  refine .exit (.the (.the (.blh (.thn (k3 _ _ (.cv (Cv.wk (.l [6, 7] rfl)) (.seq fun _ k10 => .cv (Cv.freezeK (t := 7) (i := 0) (ys := F.map nz) zc_len rfl rfl rfl (by rw [fill_len _ _ _ (by rw [List.length_map]; omega), List.length_map]; omega) (fill_done (by rw [List.length_map]; omega) (by rw [List.length_map, hFl]))) ?_)))))))
  refine .memEq (M' := []) rfl (.cv (Cv.wk (.l [6, 7] rfl)) (.region (st (.mv (.t rfl)) rfl (st (.call (zpoly_Norm (K := L) (by rw [vals_nz]; exact hFb) hL (by rw [List.length_map]; omega)) (.cons (.t rfl) .nil)) rfl ?_))))
  refine st (.as (.t rfl)) rfl (nl (.thn (k10 _ _ (.ret (rt1 (.inl rfl) Tryz.results92 rfl (.tmp (Has.t' rfl ?_) .nil))))))
  all_goals (exact isP_eq (by rw [vals_nz, hF]; unfold both; rw [vals_len, vals_len]))
theorem zpoly_Sub {xs ys : List (Bool × List Nat)} {K : Nat} (hx : Bd (vals xs) K) (hy : Bd (vals ys) K) (hK : K ≤ 3000000000) (hn : xs.length ≤ 1000000) (hm : ys.length ≤ 1000000) : Ctr Tryz.prog 55 [SlK 2 zc xs, SlK 2 zc ys] (isP (psub (vals xs) (vals ys))) := by
 refine Ctr.intro Tryz.func55 rfl (by kernel_rfl) Tryz.ntmps55 rfl fun w0 F0 => .cv (Cv.wk (.l [0, 1] rfl)) (.fact (Has.lenLt (Has.t (t := 0) rfl)) fun lt0 => .fact (Has.lenLt (Has.t (t := 1) rfl)) fun lt1 => .seq fun _ k1 => .region (st (.as (.cWK (k := 2) (fk := zc))) rfl (nl (.thn (k1 _ _ (.seq fun _ k2 => .region (st (.mv (.t rfl)) rfl ?_)))))))
 refine st (.mv (.t rfl)) rfl (st (.call (zpoly_both (op := fun x y => x - y) (L := K + 1) hx hy (fun i => by have := nz_sub (cf (vals xs) i) (cf (vals ys) i); have := hx i; have := hy i; show (List.length (words (cf (vals xs) i - cf (vals ys) i).natAbs)) ≤ K + 1; omega) (by omega) (by rfl) hn hm) (.cons (.t rfl) (.cons (.t rfl) (.cons (Has.fn (fun i => zint_Sub (by have := i.2.1; omega) (by have := i.2.2; omega))) .nil)))) rfl ?_)
 refine st (.as (.t rfl)) rfl (nl (.thn (k2 _ _ (.cv (Cv.wk (.l [4] rfl)) (.ret (rt1 (.inl rfl) Tryz.results55 rfl (.tmp (Has.t' rfl ?_) .nil)))))))
 all_goals (rfl)
theorem zpoly_Same {xs ys : List (Bool × List Nat)} {K : Nat} (hx : Bd (vals xs) K) (hy : Bd (vals ys) K) (hK : K ≤ 3000000000) (hn : xs.length ≤ 1000000) (hm : ys.length ≤ 1000000) : Ctr Tryz.prog 26 [SlK 2 zc xs, SlK 2 zc ys] (isB (decide (psub (vals xs) (vals ys) = []))) := by
 refine Ctr.intro Tryz.func26 rfl (by kernel_rfl) Tryz.ntmps26 rfl fun w0 F0 => .cv (Cv.wk (.l [0, 1] rfl)) (.fact (Has.lenLt (Has.t (t := 0) rfl)) fun lt0 => .fact (Has.lenLt (Has.t (t := 1) rfl)) fun lt1 => .seq fun _ k1 => .region (st (.as (.cB false)) rfl (nl (.thn (k1 _ _ (.seq fun _ k2 => .region (st (.mv (.t rfl)) rfl (st (.mv (.t rfl)) rfl (st (.call (zpoly_Sub hx hy hK hn hm) (.cons (.t rfl) (.cons (.t rfl) .nil))) rfl (st (.len sl23 (.t rfl)) rfl (st (.eqI (.t rfl) (.cI 0 rfl)) rfl (st (.as (.t rfl)) rfl (nl (.thn (k2 _ _ (.cv (Cv.wk (.l [4] rfl)) (.ret (rt1 (.inl rfl) Tryz.results26 rfl (.tmp (Has.t' rfl ?_) .nil)))))))))))))))))))
 all_goals (exact isB_eq (decide_eq_decide.2 (by rw [List.length_map]; exact ⟨fun h => List.eq_nil_of_length_eq_zero (by omega), fun h => by rw [h]; rfl⟩)))
theorem zpoly_Of {xs : List Int} (hn : xs.length ≤ 400000) : Ctr Tryz.prog 27 [SlM isI xs] (isP (pnorm xs)) := by
 refine Ctr.intro Tryz.func27 rfl (by kernel_rfl) Tryz.ntmps27 rfl fun w0 F0 => .cv (Cv.wk (.l [0] rfl)) (.fact (Has.lenLt (Has.t (t := 0) rfl)) fun lt0 => .fact (Has.okI (Has.t (t := 0) rfl)) fun hr => .seq fun _ k1 => .region (st (.as (.cWK (k := 2) (fk := zc))) rfl (nl (.thn (k1 _ _ (.seq fun _ k2 => .region (.cv (Cv.grow0K (α := Bool × List Nat) zc) (st (.as (Has.cGr (α := Bool × List Nat))) rfl (nl (.thn (k2 _ _ (.seq fun _ k3 => .seq fun _ k4 => .region (st (.mv (.t rfl)) rfl (st (.len sl94 (.t rfl)) rfl (st (.mv (.cI 0 rfl)) rfl (nl (.thn (k4 _ _ (.block (.loopF [2, 6, 7] (fun (z : { z : Nat × Gr (Bool × List Nat) // z.1 ≤ xs.length }) => match z with | ⟨(i, g), hI⟩ => [(8, isI (i : Int)), (3, isGr g ((xs.take i).map nz).length)]) (fun M => fun (z : { z : Nat × Gr (Bool × List Nat) // z.1 ≤ xs.length }) => match z with | ⟨(i, g), hI⟩ => [grMK zc g ((xs.take i).map nz)]) (fun (z : { z : Nat × Gr (Bool × List Nat) // z.1 ≤ xs.length }) => match z with | ⟨(i, g), hI⟩ => xs.length - i) (⟨(0, Gr.nil), Nat.zero_le _⟩) (Cv.mem (.c 8 rfl ?_ (.c 3 rfl ?_ (.l [2, 6, 7] rfl))) ?_) ?_))))))))))))))))))))
 ·rfl
 ·rfl
 ·rfl
 rintro ⟨⟨i, g⟩, hI⟩ K5 hK5
 refine .cv (Cv.wk (.l [8, 3, 2, 6, 7] rfl)) (.memEq (M' := [grMK zc g ((xs.take i).map nz)]) rfl ?_)
 simp only [] at hI
 have hyl : ((xs.take i).map nz).length = i := by rw [List.length_map, List.length_take]; omega
 refine .seq fun _ k6 => .region (st (.ltI (.t rfl) (.t rfl)) rfl (nl (.thn (k6 _ _ (.seq fun _ k7 => .cond (.t rfl) (fun hc1 => ?_) (fun hc1 => ?_))))))
 ·have hc1 := BP.t hc1
  refine .skip (.thn (k7 _ _ (.seq fun _ k8 => .block (.seq fun _ k9 => .region (st (.ixP sl94 ty2 (.t rfl) (.t rfl) ⟨by omega, by omega⟩ (getD_some (d := 0) (by omega))) rfl (st (.loadP1 (.t rfl) ty2) rfl (st (.as (.t rfl)) rfl (nl (.thn (k9 _ _ (.region (st (.mv (.t rfl)) rfl (st (.mv (.t rfl)) rfl (st (.eq (.call (zint_Of) (.cons (.t rfl) .nil)) ((show isZ _ = Flat (zc (nz (cf xs i))) from rfl))) rfl (st (.buildS [isB false, SlM isU []] sl23 ty36 zero36 (fun _ _ => ⟨rfl, nilM _ _, trivial⟩) rfl rfl (.cons (.t rfl) rfl rfl rfl .nil) rfl (S := SlK 2 zc [nz (cf xs i)]) rfl) rfl (.appendGK (fk := zc) (u := (false, [])) zc_len (by decide) (fun _ => inferInstance) sl23 ty36 zero36 (fun _ _ => ⟨rfl, nilM _ _, trivial⟩) by36 (.t rfl) (i := 0) rfl (.t rfl) (by rw [hyl]; show i + 1 ≤ _; omega) (by simp) rfl fun gr1 => ?_))))))))))))))))
  refine .memEq (M' := [grMK _ _ _]) rfl (st (.as (.t rfl)) rfl (nl (.bln (.thn (k8 _ _ (.region (st (.addI (.t rfl) (.cI 1 rfl) (by omega) (by omega)) rfl (st (.mv (.t rfl)) rfl (nl (.thn ?_))))))))))
  refine hK5 (⟨(i + 1, gr1), by show i + 1 ≤ _; omega⟩) _ _ ?_ (Cv.mem (.c 8 rfl ?_ (.c 3 rfl ?_ (.l [2, 6, 7] rfl))) ?_)
  ·show xs.length - (i + 1) < xs.length - i; omega
  ·exact isI_eq (by omega)
  ·exact isGr_eq (by rw [← take_map_succ _ _ (by omega), List.length_append])
  ·exact grMK_eq (take_map_succ _ _ (by omega))
 ·have hc1 := BP.f hc1
  refine .exit (.the (.the (.blh (.thn (k3 _ _ (.seq fun _ k10 => .cv (Cv.freezeGK (t := 3) (i := 0) (ys := (xs.take i).map nz) zc_len rfl rfl rfl) (.memEq (M' := []) rfl (.cv (Cv.wk (.l [2, 6, 7, 8, 3, 9] rfl)) (.region (st (.mv (.t rfl)) rfl (st (.call (zpoly_Norm (K := 1) (by rw [vals_nz, show xs.take i = xs from List.take_of_length_le (by omega)]; exact bd64 hr) (by omega) (by rw [List.length_map, List.length_take]; omega)) (.cons (.t rfl) .nil)) rfl ?_)))))))))))
  refine st (.as (.t rfl)) rfl (nl (.thn (k10 _ _ (.cv (Cv.wk (.l [2] rfl)) (.ret (rt1 (.inl rfl) Tryz.results27 rfl (.tmp (Has.t' rfl ?_) .nil)))))))
  all_goals (exact isP_eq (by rw [vals_nz, show xs.take i = xs from List.take_of_length_le (by omega)]))
end Go.Proofs.YtcfobalbkhgdmaaGreat
namespace Go.Pz
open Go.Nt Go.En
def isB2 (l m : List Int) : Bool := decide (pnorm l = l) && decide (psub l m = [])
theorem isB2_true {l m : List Int} (hn : pnorm l = l) (h : ∀ i, cf l i = cf m i) : isB2 l m = true := by
 unfold isB2; rw [decide_eq_true hn, decide_eq_true (sub_nil.2 h)]; rfl
theorem same_not {a b : List Int} {i : Nat} (h : ¬ cf a i = cf b i) : decide (psub a b = []) = false := decide_eq_false fun e => h (sub_nil.1 e i)
theorem same_yes {a b : List Int} {n : Nat} (h : ∀ i, i < n → cf a i = cf b i) (ha : a.length ≤ n) (hb : b.length ≤ n) : decide (psub a b = []) = true :=
 decide_eq_true (sub_nil.2 fun i => by
  rcases Nat.lt_or_ge i n with hi | hi
  ·exact h i hi
  ·rw [cf_high (l := a) (by omega), cf_high (l := b) (by omega)])
theorem normal_iff {l : List Int} : pnorm l = l ↔ l = [] ∨ cf l (l.length - 1) ≠ 0 := by
 constructor
 ·intro h
  rcases Classical.em (l = []) with e | e
  ·exact .inl e
  ·right
   have := norm_last (l := l) (by rw [h]; exact e)
   rwa [h] at this
 ·rintro (rfl | h)
  ·rfl
  ·have := take_norm (l := l) (n := l.length) (.inr h) (fun i hi => cf_high hi)
   rw [List.take_length] at this
   exact this.symm
theorem normal_dead {z : Int} (h : (0 < (((List.length (words z.natAbs)) : Nat) : Int) ∧ dig z.natAbs ((List.length (words z.natAbs)) - 1) = 0) ∨ ((((List.length (words z.natAbs)) : Nat) : Int) = 0 ∧ z < 0)) : False := by
 rcases h with ⟨h1, h2⟩ | ⟨h1, h2⟩
 ·refine dig_top (n := z.natAbs) (fun e => ?_) h2
  rw [e, words_zero] at h1; exact absurd h1 (by decide)
 ·have := nw_lt z.natAbs
  rw [show (List.length (words z.natAbs)) = 0 by omega, Nat.pow_zero] at this
  omega
theorem normal_end (l : List Int) : (decide (((l.map nz).length : Int) = 0) || !decide (sgn (cf l (l.length - 1)) = 0)) = decide (pnorm l = l) := by
 have h : (decide (pnorm l = l) = true) ↔ (decide (((l.map nz).length : Int) = 0) || !decide (sgn (cf l (l.length - 1)) = 0)) = true := by
  rw [decide_eq_true_eq, normal_iff, Bool.or_eq_true, decide_eq_true_eq, List.length_map, Bool.not_eq_true', decide_eq_false_iff_not, sgn_eq0]
  exact or_congr ⟨fun h => by rw [h]; rfl, fun h => List.eq_nil_of_length_eq_zero (by omega)⟩ Iff.rfl
 exact (Bool.eq_iff_iff.2 h).symm
def fewB (xs : List (Bool × List Nat)) (n w : Int) : Bool := (xs.take 100).all (fun p => decide ((p.2.length : Int) ≤ w)) && decide ((xs.length : Int) ≤ n)
theorem fewB_no {xs : List (Bool × List Nat)} {n w : Int} {i : Nat} (hi : i < xs.length) (h1 : i < 100) (h : ¬ ((xs.getD i (false, [])).2.length : Int) ≤ w) : fewB xs n w = false := by
 unfold fewB
 have hm : xs.getD i (false, []) ∈ xs.take 100 := by
  rw [List.getD, List.getElem?_eq_getElem hi]
  exact List.mem_take_iff_getElem.2 ⟨i, by omega, rfl⟩
 have : (xs.take 100).all (fun p => decide ((p.2.length : Int) ≤ w)) = false := by
  rw [List.all_eq_false]
  exact ⟨_, hm, by rw [decide_eq_true_eq]; exact h⟩
 rw [this]; rfl
theorem fewB_yes {xs : List (Bool × List Nat)} {n w : Int} {i : Nat} (hi : xs.length ≤ i ∨ 100 ≤ i) (h : ∀ j, j < i → ((xs.getD j (false, [])).2.length : Int) ≤ w) : fewB xs n w = decide ((xs.length : Int) ≤ n) := by
 unfold fewB
 have : (xs.take 100).all (fun p => decide ((p.2.length : Int) ≤ w)) = true := by
  rw [List.all_eq_true]
  intro p hp
  obtain ⟨j, hj, rfl⟩ := List.mem_take_iff_getElem.1 hp
  have := h j (by omega)
  rw [List.getD, List.getElem?_eq_getElem (by omega)] at this
  exact decide_eq_true this
 rw [this]; rfl
theorem fewB_bd {xs : List (Bool × List Nat)} {n w : Int} {N K : Nat} (ok : ∀ p ∈ xs, (∀ y ∈ p.2, y < 18446744073709551616) ∧ p.2.length ≤ 9223372036854775807) (h : fewB xs n w = true) (hn : n = (N : Int)) (hw : w = (K : Int)) (h1 : N ≤ 100) : xs.length ≤ N ∧ Bd (vals xs) K := by
 unfold fewB at h
 rw [Bool.and_eq_true, decide_eq_true_eq, List.all_eq_true] at h
 subst hn; subst hw
 refine ⟨by omega, fun i => ?_⟩
 rw [cf_vals, zv_nw]
 rcases Nat.lt_or_ge i xs.length with hi | hi
 ·rw [List.getD, List.getElem?_eq_getElem hi]
  have h2 := h.1 xs[i] (List.mem_take_iff_getElem.2 ⟨i, by omega, rfl⟩)
  rw [decide_eq_true_eq] at h2
  exact Nat.le_trans (nw_val (ok _ (List.getElem_mem hi)).1) (by show xs[i].2.length ≤ K; omega)
 ·rw [List.getD, List.getElem?_eq_none (by omega)]
  show (List.length (words (val []))) ≤ K
  rw [show val [] = 0 from rfl, words_zero]; exact Nat.zero_le _
end Go.Pz
namespace Go.Proofs.YtcfobalbkhgdmaaGreat
open Go.En Go.RowKit
set_option maxRecDepth 10000
set_option maxHeartbeats 4000000
open Go.Nt
open Go.Pz
theorem ref10_at {xs : List (Bool × List Nat)} {i : Nat} : Ctr Tryz.prog 84 [SlK 2 zc xs, isI (i : Int)] (Flat (zc (xs.getD i (false, [])))) := by
 refine Ctr.intro Tryz.func84 rfl (by kernel_rfl) Tryz.ntmps84 rfl fun w0 F0 => .cv (Cv.wk (.l [0, 1] rfl)) (.fact (Has.lenLt (Has.t (t := 0) rfl)) fun lt0 => .fact (Has.rngI (Has.t (t := 1) rfl)) fun lt1 => .seq fun _ k1 => .region (.alloc [isB false, SlM isU []] zero36 (fun _ _ => ⟨rfl, nilM _ _, trivial⟩) rfl fun b1 => nl (.thn (k1 _ _ (.seq fun _ k2 => .seq fun _ k3 => .region (st (.mv (.t rfl)) rfl (st (.geI (.t rfl) (.cI 0 rfl)) rfl (st (.mv (.t rfl)) rfl (stT rfl rfl (fun hg => .mv (.t rfl)) rfl (stT rfl rfl (fun hg => .mv (.t rfl)) rfl (stT rfl rfl (fun hg => .len sl22 (Has.g rfl hg)) rfl (stT rfl rfl (fun hg => .ltI (Has.g rfl hg) (Has.g rfl hg)) rfl (st (.pickAnd (.t rfl) (fun h => Has.g rfl h)) rfl (nl (.thn (k3 _ _ (.cv (Cv.wk (.l [0, 1, 4, 12] rfl)) (.cond (.t rfl) (fun hc1 => ?_) (fun hc1 => ?_)))))))))))))))))))
 ·have hc1 := BP.t hc1
  refine .seq fun _ k4 => .region (st (.mv (.t rfl)) rfl (st (.mv (.t rfl)) rfl (st (.ixK sl22 ty36 (.t rfl) (.t rfl) zc_len ⟨by omega, by omega⟩ (getD_some (d := (false, [])) (by omega))) rfl (st (.loadP (.t rfl) ty36 rfl (Ss' := [_, _]) rfl) rfl (.store (.t rfl) (.t rfl) (i := 0) rfl ty36 rfl rfl (Ss' := [_, _]) rfl (M' := [(some _, cellM [_, _])]) rfl (nl (.thn (k4 _ _ (.cv (Cv.wk (.l [4] rfl)) (.ret (.thr (rt1 (.inl rfl) Tryz.results84 rfl (.cell rfl (i := 0) rfl ty36 rfl ?_ .nil)))))))))))))
  all_goals (rfl)
 ·have hc1 := BP.f hc1
  refine .skip (.thn (k2 _ _ (.seq fun _ k5 => .region (st (.call (zint_Of) (.cons (.cI 0 rfl) .nil)) rfl (.store (.t rfl) (.t rfl) (i := 0) rfl ty36 rfl rfl (Ss' := [_, _]) rfl (M' := [(some _, cellM [_, _])]) rfl (nl (.thn (k5 _ _ (.ret (rt1 (.inl rfl) Tryz.results84 rfl (.cell rfl (i := 0) rfl ty36 rfl ?_ .nil)))))))))))
  all_goals (exact isZ0.symm.trans (congrArg Flat (show zc (false, []) = _ by rw [List.getD, List.getElem?_eq_none (by omega)]; rfl)))
theorem ref10_Same {xs ys : List (Bool × List Nat)} {K L : Nat} (hx : Bd (vals xs) K) (hy : Bd (vals ys) L) (hK : K ≤ 400000000) (hL : L ≤ 400000000) (hn : xs.length ≤ 400000) (hm : ys.length ≤ 400000) : Ctr Tryz.prog 45 [SlK 2 zc xs, SlK 2 zc ys] (isB (decide (psub (vals xs) (vals ys) = []))) := by
 refine Ctr.intro Tryz.func45 rfl (by kernel_rfl) Tryz.ntmps45 rfl fun w0 F0 => .cv (Cv.wk (.l [0, 1] rfl)) (.fact (Has.lenLt (Has.t (t := 0) rfl)) fun lt0 => .fact (Has.lenLt (Has.t (t := 1) rfl)) fun lt1 => ?_)
 have hvx := vals_len xs
 have hvy := vals_len ys
 
 refine .seq fun _ k1 => .region (st (.as (.cB false)) rfl (nl (.thn (k1 _ _ (.seq fun _ k2 => .seq fun _ k3 => .region (st (.as (.cI 0 rfl)) rfl (nl (.thn (k3 _ _ (.block (.loopF [0, 1] (fun (z : { i : Nat // i ≤ max xs.length ys.length ∧ ∀ j, j < i → cf (vals xs) j = cf (vals ys) j }) => match z with | ⟨i, hi⟩ => [(5, isI (i : Int))]) (fun M => fun (z : { i : Nat // i ≤ max xs.length ys.length ∧ ∀ j, j < i → cf (vals xs) j = cf (vals ys) j }) => match z with | ⟨i, hi⟩ => []) (fun (z : { i : Nat // i ≤ max xs.length ys.length ∧ ∀ j, j < i → cf (vals xs) j = cf (vals ys) j }) => match z with | ⟨i, hi⟩ => max xs.length ys.length - i) (⟨0, Nat.zero_le _, fun j h => absurd h (Nat.not_lt_zero _)⟩) (Cv.mem (.c 5 rfl ?_ (.l [0, 1] rfl)) ?_) ?_)))))))))))
 ·rfl
 ·rfl
 rintro ⟨i, hi, hj⟩ K4 hK4
 refine .cv (Cv.wk (.l [5, 0, 1] rfl)) (.memEq (M' := []) rfl (.seq fun _ k5 => .seq fun _ k6 => .region (st (.mv (.t rfl)) rfl (st (.mv (.t rfl)) rfl (st (.len sl22 (.t rfl)) rfl (st (.ltI (.t rfl) (.t rfl)) rfl (st (.mv (.t rfl)) rfl (stF rfl rfl (fun hg => .mv (.t rfl)) rfl (stF rfl rfl (fun hg => .mv (.t rfl)) rfl (stF rfl rfl (fun hg => .len sl22 (Has.g rfl hg)) rfl (stF rfl rfl (fun hg => .ltI (Has.g rfl hg) (Has.g rfl hg)) rfl (st (.pickOr (.t rfl) (fun h => Has.g rfl (ng h))) rfl (nl (.thn (k6 _ _ (.cond (.t rfl) (fun hc1 => ?_) (fun hc1 => ?_)))))))))))))))))
 ·have hc1 := BP.t hc1
  refine .skip (.thn (k5 _ _ (.seq fun _ k7 => .block (.seq fun _ k8 => .region (st (.mv (.t rfl)) rfl (st (.mv (.t rfl)) rfl (st (.call (ref10_at) (.cons (.t rfl) (.cons (.t rfl) .nil))) rfl (st (.mv (.t rfl)) rfl (st (.mv (.t rfl)) rfl (st (.call (ref10_at) (.cons (.t rfl) (.cons (.t rfl) .nil))) rfl (st (.eq (.call (zint_Same (by have := hx.raw i; omega) (by have := hy.raw i; omega)) (.cons (.t rfl) (.cons (.t rfl) .nil))) ((show isB _ = isB (decide (cf (vals xs) i = cf (vals ys) i)) from isB_eq (by rw [cf_vals, cf_vals])))) rfl ?_)))))))))))
  refine st (.not (.t rfl)) rfl (nl (.thn (k8 _ _ (.cond (.t rfl) (fun hc2 => ?_) (fun hc2 => ?_)))))
  ·have hc2 := BP.t hc2
   have hNe : ¬ cf (vals xs) i = cf (vals ys) i := (by simpa using hc2)
   refine .seq fun _ k9 => .region (st (.as (.cB false)) rfl (nl (.thn (k9 _ _ (.ret (.blr (.thr (.thr (.blr (.thr (rt1 (.inl rfl) Tryz.results45 rfl (.tmp (Has.t' rfl ?_) .nil))))))))))))
   all_goals (exact isB_eq (same_not hNe).symm)
  ·have hc2 := BP.f hc2
   have hEq : cf (vals xs) i = cf (vals ys) i := (by simpa using hc2)
   refine .skip (.bln (.thn (k7 _ _ (.region (st (.mv (.t rfl)) rfl (st (.addI (.t rfl) (.cI 1 rfl) (by omega) (by omega)) rfl (st (.as (.t rfl)) rfl (nl (.thn ?_)))))))))
   refine hK4 (⟨i + 1, by omega, fun j h => by rcases Nat.lt_or_ge j i with h2 | h2; exact hj j h2; rw [show j = i by omega]; exact hEq⟩) _ _ ?_ (Cv.mem (.c 5 rfl ?_ (.l [0, 1] rfl)) ?_)
   ·show max xs.length ys.length - (i + 1) < max xs.length ys.length - i; omega
   ·exact isI_eq (by omega)
   ·rfl
 ·have hc1 := BP.f hc1
  refine .exit (.the (.the (.blh (.thn (k2 _ _ (.cv (Cv.wk .nil) (.seq fun _ k10 => .region (st (.as (.cB true)) rfl (nl (.thn (k10 _ _ (.ret (rt1 (.inl rfl) Tryz.results45 rfl (.tmp (Has.t' rfl ?_) .nil))))))))))))))
  all_goals (exact isB_eq (same_yes hj (by omega) (by omega)).symm)
theorem ref10_Few {xs : List (Bool × List Nat)} {n w : Int} : Ctr Tryz.prog 6 [SlK 2 zc xs, isI n, isI w] (isB (fewB xs n w)) := by
 refine Ctr.intro Tryz.func6 rfl (by kernel_rfl) Tryz.ntmps6 rfl fun w0 F0 => .cv (Cv.wk (.l [0, 1, 2] rfl)) (.fact (Has.lenLt (Has.t (t := 0) rfl)) fun lt0 => .fact (Has.rngI (Has.t (t := 1) rfl)) fun lt1 => .fact (Has.rngI (Has.t (t := 2) rfl)) fun lt2 => .seq fun _ k1 => .region (st (.as (.cB false)) rfl (nl (.thn (k1 _ _ (.seq fun _ k2 => .seq fun _ k3 => .region (st (.as (.cI 0 rfl)) rfl (nl (.thn (k3 _ _ (.block (.loopF [0, 1, 2] (fun (z : { i : Nat // i ≤ xs.length ∧ i ≤ 100 ∧ ∀ j, j < i → ((xs.getD j (false, [])).2.length : Int) ≤ w }) => match z with | ⟨i, hi⟩ => [(7, isI (i : Int))]) (fun M => fun (z : { i : Nat // i ≤ xs.length ∧ i ≤ 100 ∧ ∀ j, j < i → ((xs.getD j (false, [])).2.length : Int) ≤ w }) => match z with | ⟨i, hi⟩ => []) (fun (z : { i : Nat // i ≤ xs.length ∧ i ≤ 100 ∧ ∀ j, j < i → ((xs.getD j (false, [])).2.length : Int) ≤ w }) => match z with | ⟨i, hi⟩ => xs.length - i) (⟨0, Nat.zero_le _, by omega, fun j h => absurd h (Nat.not_lt_zero _)⟩) (Cv.mem (.c 7 rfl ?_ (.l [0, 1, 2] rfl)) ?_) ?_))))))))))))
 ·rfl
 ·rfl
 rintro ⟨i, hi, h1, hj⟩ K4 hK4
 refine .cv (Cv.wk (.l [7, 0, 1, 2] rfl)) (.memEq (M' := []) rfl (.seq fun _ k5 => .seq fun _ k6 => .region (st (.mv (.t rfl)) rfl (st (.mv (.t rfl)) rfl (st (.len sl22 (.t rfl)) rfl (st (.ltI (.t rfl) (.t rfl)) rfl (st (.mv (.t rfl)) rfl (stT rfl rfl (fun hg => .mv (.t rfl)) rfl (stT rfl rfl (fun hg => .ltI (Has.g rfl hg) (.cI 100 rfl)) rfl (st (.pickAnd (.t rfl) (fun h => Has.g rfl h)) rfl (nl (.thn (k6 _ _ (.cond (.t rfl) (fun hc1 => ?_) (fun hc1 => ?_)))))))))))))))
 ·have hc1 := BP.t hc1
  refine .skip (.thn (k5 _ _ (.seq fun _ k7 => .block (.seq fun _ k8 => .region (st (.mv (.t rfl)) rfl (st (.mv (.t rfl)) rfl (st (.ixK sl22 ty36 (.t rfl) (.t rfl) zc_len ⟨by omega, by omega⟩ (getD_some (d := (false, [])) (by omega))) rfl (st (.fieldAddrP (.t rfl) fld36_1 ty34 (Ss' := [_]) rfl) rfl (st (.loadP1 (.t rfl) ty34) rfl (st (.len sl34 (.t rfl)) rfl (st (.mv (.t rfl)) rfl (st (.gtI (.t rfl) (.t rfl)) rfl (nl (.thn (k8 _ _ (.cond (.t rfl) (fun hc2 => ?_) (fun hc2 => ?_)))))))))))))))))
  ·have hc2 := BP.t hc2
   have hNo : ¬ ((xs.getD i (false, [])).2.length : Int) ≤ w := (by simp only [Int.toNat_natCast] at hc2; omega)
   refine .seq fun _ k9 => .region (st (.as (.cB false)) rfl (nl (.thn (k9 _ _ (.ret (.blr (.thr (.thr (.blr (.thr (rt1 (.inl rfl) Tryz.results6 rfl (.tmp (Has.t' rfl ?_) .nil))))))))))))
   all_goals (exact isB_eq (fewB_no (by omega) (by omega) hNo).symm)
  ·have hc2 := BP.f hc2
   have hLe : ((xs.getD i (false, [])).2.length : Int) ≤ w := (by simp only [Int.toNat_natCast] at hc2; omega)
   refine .skip (.bln (.thn (k7 _ _ (.region (st (.mv (.t rfl)) rfl (st (.addI (.t rfl) (.cI 1 rfl) (by omega) (by omega)) rfl (st (.as (.t rfl)) rfl (nl (.thn ?_)))))))))
   refine hK4 (⟨i + 1, by omega, by omega, fun j h => by rcases Nat.lt_or_ge j i with h2 | h2; exact hj j h2; rw [show j = i by omega]; exact hLe⟩) _ _ ?_ (Cv.mem (.c 7 rfl ?_ (.l [0, 1, 2] rfl)) ?_)
   ·show xs.length - (i + 1) < xs.length - i; omega
   ·exact isI_eq (by omega)
   ·rfl
 ·have hc1 := BP.f hc1
  refine .exit (.the (.the (.blh (.thn (k2 _ _ (.cv (Cv.wk (.l [0, 1] rfl)) (.seq fun _ k10 => .region (st (.mv (.t rfl)) rfl (st (.len sl22 (.t rfl)) rfl (st (.mv (.t rfl)) rfl (st (.leI (.t rfl) (.t rfl)) rfl (st (.as (.t rfl)) rfl (nl (.thn (k10 _ _ (.cv (Cv.wk (.l [6] rfl)) (.ret (rt1 (.inl rfl) Tryz.results6 rfl (.tmp (Has.t' rfl ?_) .nil)))))))))))))))))))
  all_goals (exact isB_eq (fewB_yes (by omega) hj).symm)
theorem ref10_Normal {l : List Int} {K : Nat} (hx : Bd l K) (hK : K ≤ 400000000) : Ctr Tryz.prog 19 [isP l] (isB (decide (pnorm l = l))) := by
 refine Ctr.intro Tryz.func19 rfl (by kernel_rfl) Tryz.ntmps19 rfl fun w0 F0 => .cv (Cv.wk (.l [0] rfl)) ?_
 have hll : (l.map nz).length = l.length := List.length_map _
 refine .fact (Has.lenLt (Has.t (t := 0) rfl)) fun lt0 => .seq fun _ k1 => .region (st (.as (.cB false)) rfl (nl (.thn (k1 _ _ (.seq fun _ k2 => .seq fun _ k3 => .region (st (.as (.cI 0 rfl)) rfl (nl (.thn (k3 _ _ (.block (.loopF [0] (fun (z : { i : Nat // i ≤ l.length }) => match z with | ⟨i, hi⟩ => [(3, isI (i : Int))]) (fun M => fun (z : { i : Nat // i ≤ l.length }) => match z with | ⟨i, hi⟩ => []) (fun (z : { i : Nat // i ≤ l.length }) => match z with | ⟨i, hi⟩ => l.length - i) (⟨0, Nat.zero_le _⟩) (Cv.mem (.c 3 rfl ?_ (.l [0] rfl)) ?_) ?_)))))))))))
 ·rfl
 ·rfl
 rintro ⟨i, hi⟩ K4 hK4
 refine .cv (Cv.wk (.l [3, 0] rfl)) (.memEq (M' := []) rfl ?_)
 have hbi := hx i
 refine .seq fun _ k5 => .seq fun _ k6 => .region (st (.mv (.t rfl)) rfl (st (.mv (.t rfl)) rfl (st (.len sl22 (.t rfl)) rfl (st (.ltI (.t rfl) (.t rfl)) rfl (nl (.thn (k6 _ _ (.cond (.t rfl) (fun hc1 => ?_) (fun hc1 => ?_)))))))))
 ·have hc1 := BP.t hc1
  refine .skip (.thn (k5 _ _ (.seq fun _ k7 => .block (.seq fun _ k8 => .region (st (.mv (.t rfl)) rfl (st (.mv (.t rfl)) rfl (st (.ixK sl22 ty36 (.t rfl) (.t rfl) zc_len ⟨by omega, by omega⟩ (getZ (i := i) (by omega))) rfl (st (.fieldAddrP (.t rfl) fld36_1 ty34 (Ss' := [_]) rfl) rfl (st (.eq (.loadP1 (.t rfl) ty34) ((show isWords _ = isWords (words (cf l i).natAbs) from rfl))) rfl (st (.len sl34 (.t rfl)) rfl (st (.as (.t rfl)) rfl (nl (.thn (k8 _ _ (.seq fun _ k9 => .region (st (.mv (.t rfl)) rfl (st (.gtI (.t rfl) (.cI 0 rfl)) rfl (st (.mv (.t rfl)) rfl (stT rfl rfl (fun hg => .mv (.t rfl)) rfl (stT rfl rfl (fun hg => .mv (.t rfl)) rfl ?_))))))))))))))))))))
  refine stT rfl rfl (fun hg => have hg' := BP.t hg; OK1.ixK sl22 ty36 (Has.g rfl hg) (Has.g rfl hg) zc_len ⟨by omega, by omega⟩ (getZ (i := i) (by omega))) rfl ?_
  refine stT rfl rfl (fun hg => .fieldAddrP (Has.g rfl hg) fld36_1 ty34 (Ss' := [_]) rfl) rfl (stT rfl rfl (fun hg => .eq (.loadP1 (Has.g rfl hg) ty34) ((show isWords _ = isWords (words (cf l i).natAbs) from rfl))) rfl (stT rfl rfl (fun hg => .mv (.t rfl)) rfl ?_))
  refine stT rfl rfl (fun hg => have hg' := BP.t hg; OK1.subI (Has.g rfl hg) (.cI 1 rfl) (by omega) (by omega)) rfl ?_
  refine stT rfl rfl (fun hg => have hg' := BP.t hg; OK1.ixP sl34 ty62 (Has.g rfl hg) (Has.g rfl hg) ⟨by omega, by omega⟩ (getD_some (d := 0) (by omega))) rfl ?_
  refine stT rfl rfl (fun hg => have hg' := BP.t hg; OK1.eq (.loadP1 (Has.g rfl hg) ty62) ((show isU _ = isU (dig (cf l i).natAbs ((List.length (words (cf l i).natAbs)) - 1)) from isU_eq (by rw [show (((List.length (words (cf l i).natAbs)) : Int) - 1).toNat = (List.length (words (cf l i).natAbs)) - 1 by omega, getD_words])))) rfl ?_
  refine stT rfl rfl (fun hg => .eqU (Has.g rfl hg) (.cU 0 rfl)) rfl (st (.pickAnd (.t rfl) (fun h => Has.g rfl h)) rfl (st (.mv (.t rfl)) rfl (stF rfl rfl (fun hg => .mv (.t rfl)) rfl (stF rfl rfl (fun hg => .eqI (Has.g rfl hg) (.cI 0 rfl)) rfl (stF rfl rfl (fun hg => .mv (Has.g rfl hg)) rfl (stGT rfl rfl (fun hg => .mv (.t rfl)) rfl (stGT rfl rfl (fun hg => .mv (.t rfl)) rfl ?_)))))))
  refine stGT rfl rfl (fun hg => have hg' := BP.t hg; OK1.ixK sl22 ty36 (Has.g rfl hg) (Has.g rfl hg) zc_len ⟨by omega, by omega⟩ (getZ (i := i) (by omega))) rfl ?_
  refine stGT rfl rfl (fun hg => .fieldAddrP (Has.g rfl hg) fld36_0 ty4 (Ss' := [_, _]) rfl) rfl (stGT rfl rfl (fun hg => .eq (.loadP1 (Has.g rfl hg) ty4) ((show isB _ = isB (decide (cf l i < 0)) from rfl))) rfl (stF rfl rfl (fun hg => .pickAnd (Has.g rfl hg) (fun h => Has.g rfl (ga hg h))) rfl (st (.pickOr (.t rfl) (fun h => Has.g rfl (ng h))) rfl (nl (.thn (k9 _ _ (.cond (.t rfl) (fun hc2 => ?_) (fun hc2 => ?_))))))))
  ·have hc2 := BP.t hc2
   exact (normal_dead hc2).elim
  ·have hc2 := BP.f hc2
   refine .skip (.bln (.thn (k7 _ _ (.region (st (.mv (.t rfl)) rfl (st (.addI (.t rfl) (.cI 1 rfl) (by omega) (by omega)) rfl (st (.as (.t rfl)) rfl (nl (.thn (hK4 (⟨i + 1, by omega⟩) _ _ ?_ (Cv.mem (.c 3 rfl ?_ (.l [0] rfl)) ?_)))))))))))
   ·show l.length - (i + 1) < l.length - i; omega
   ·exact isI_eq (by omega)
   ·rfl
 ·have hc1 := BP.f hc1
  refine .exit (.the (.the (.blh (.thn (k2 _ _ (.cv (Cv.wk (.l [0] rfl)) (.seq fun _ k10 => .region (st (.mv (.t rfl)) rfl (st (.len sl22 (.t rfl)) rfl (st (.eqI (.t rfl) (.cI 0 rfl)) rfl (st (.mv (.t rfl)) rfl (stF rfl rfl (fun hg => .mv (.t rfl)) rfl (stF rfl rfl (fun hg => .mv (.t rfl)) rfl (stF rfl rfl (fun hg => .len sl22 (Has.g rfl hg)) rfl ?_))))))))))))))
  refine stF rfl rfl (fun hg => have hg' := BP.t hg; OK1.subI (Has.g rfl hg) (.cI 1 rfl) (by omega) (by omega)) rfl ?_
  refine stF rfl rfl (fun hg => have hg' := BP.t hg; OK1.ixK sl22 ty36 (Has.g rfl hg) (Has.g rfl hg) zc_len ⟨by omega, by omega⟩ (getD_some (d := (false, [])) (by omega))) rfl ?_
  refine stF rfl rfl (fun hg => .loadP (Has.g rfl hg) ty36 rfl (Ss' := [_, _]) rfl) rfl ?_
  refine stF rfl rfl (fun hg => have hg' := BP.t hg; OK1.eq (.call (zint_Sign (by rw [getD_nz, val_words]; have := hx ((l.map nz).length - 1 : Int).toNat; omega)) (.cons (Has.g rfl hg) .nil)) ((show isI _ = isI (sgn (cf l (l.length - 1))) from isI_eq (by rw [getD_nz, zv_nz]; congr 2; omega)))) rfl ?_
  refine stF rfl rfl (fun hg => .neI (Has.g rfl hg) (.cI 0 rfl)) rfl (st (.pickOr (.t rfl) (fun h => Has.g rfl (ng h))) rfl (st (.as (.t rfl)) rfl (nl (.thn (k10 _ _ (.cv (Cv.wk (.l [2] rfl)) (.ret (rt1 (.inl rfl) Tryz.results19 rfl (.tmp (Has.t' rfl ?_) .nil)))))))))
  all_goals (exact isB_eq (normal_end _))
theorem ref10_Is {l : List Int} {ys : List (Bool × List Nat)} {K L : Nat} (hx : Bd l K) (hy : Bd (vals ys) L) (hK : K ≤ 400000000) (hL : L ≤ 400000000) (hn : l.length ≤ 400000) (hm : ys.length ≤ 400000) : Ctr Tryz.prog 15 [isP l, SlK 2 zc ys] (isB (isB2 l (vals ys))) := by
 refine Ctr.intro Tryz.func15 rfl (by kernel_rfl) Tryz.ntmps15 rfl fun w0 F0 => .cv (Cv.wk (.l [0, 1] rfl)) (.seq fun _ k1 => .region (st (.as (.cB false)) rfl (nl (.thn (k1 _ _ (.seq fun _ k2 => .region (st (.mv (.t rfl)) rfl (st (.call (ref10_Normal hx hK) (.cons (.t rfl) .nil)) rfl (st (.mv (.t rfl)) rfl (stT rfl rfl (fun hg => .mv (.t rfl)) rfl (stT rfl rfl (fun hg => .mv (.t rfl)) rfl ?_)))))))))))
 refine stT rfl rfl (fun hg => have hg' := BP.t hg; OK1.eq (.call (ref10_Same (by rw [vals_nz]; exact hx) hy hK hL (by rw [List.length_map]; exact hn) hm) (.cons (Has.g rfl hg) (.cons (Has.g rfl hg) .nil))) ((by rw [vals_nz]))) rfl ?_
 refine st (.pickAnd (.t rfl) (fun h => Has.g rfl h)) rfl (st (.as (.t rfl)) rfl (nl (.thn (k2 _ _ (.cv (Cv.wk (.l [4] rfl)) (.ret (rt1 (.inl rfl) Tryz.results15 rfl (.tmp (Has.t' rfl ?_) .nil))))))))
 all_goals (rfl)
end Go.Proofs.YtcfobalbkhgdmaaGreat
namespace Go.Proofs.YtcfobalbkhgdmaaGreat
open Go.En Go.RowKit
set_option maxRecDepth 10000
set_option maxHeartbeats 4000000
open Go.Nt
open Go.Pz
open Go.Mz
open Go.Dt
theorem ref11_Formed {r c : Int} {xs : List (Bool × List Nat)} : Ctr Tryz.prog 44 [isM r c xs] (isB (formB r c xs.length)) := by
 refine Ctr.intro Tryz.func44 rfl (by kernel_rfl) Tryz.ntmps44 rfl fun w0 F0 => .cv (Cv.wk (.l [0] rfl)) (.seq fun _ k1 => .region (.box (.t rfl) rfl fun b1 => st (.as (.cB false)) rfl (nl (.thn (k1 _ _ (.seq fun _ k2 => .region (st (.fieldAddr (.t rfl) fld27_0 ty3) rfl (st (.load1 (.t rfl) (i := 0) rfl ty3 rfl) rfl (st (.geI (.t rfl) (.cI 0 rfl)) rfl (st (.mv (.t rfl)) rfl (stT rfl rfl (fun hg => .fieldAddr (.t rfl) fld27_0 ty3) rfl (stT rfl rfl (fun hg => .load1 (Has.g rfl hg) (i := 0) rfl ty3 rfl) rfl (stT rfl rfl (fun hg => .leI (Has.g rfl hg) (.cI 64 rfl)) rfl (st (.pickAnd (.t rfl) (fun h => Has.g rfl h)) rfl (st (.mv (.t rfl)) rfl (stT rfl rfl (fun hg => .fieldAddr (.t rfl) fld27_1 ty3) rfl (stT rfl rfl (fun hg => .load1 (Has.g rfl hg) (i := 0) rfl ty3 rfl) rfl (stT rfl rfl (fun hg => .geI (Has.g rfl hg) (.cI 0 rfl)) rfl (st (.pickAnd (.t rfl) (fun h => Has.g rfl h)) rfl (st (.mv (.t rfl)) rfl (stT rfl rfl (fun hg => .fieldAddr (.t rfl) fld27_1 ty3) rfl (stT rfl rfl (fun hg => .load1 (Has.g rfl hg) (i := 0) rfl ty3 rfl) rfl (stT rfl rfl (fun hg => .leI (Has.g rfl hg) (.cI 64 rfl)) rfl (st (.pickAnd (.t rfl) (fun h => Has.g rfl h)) rfl (st (.mv (.t rfl)) rfl (stT rfl rfl (fun hg => .fieldAddr (.t rfl) fld27_2 ty22) rfl (stT rfl rfl (fun hg => .load1 (Has.g rfl hg) (i := 0) rfl ty22 rfl) rfl ?_)))))))))))))))))))))))))))
 refine stT rfl rfl (fun hg => .len sl22 (Has.g rfl hg)) rfl (stT rfl rfl (fun hg => .fieldAddr (.t rfl) fld27_0 ty3) rfl (stT rfl rfl (fun hg => .load1 (Has.g rfl hg) (i := 0) rfl ty3 rfl) rfl (stT rfl rfl (fun hg => .fieldAddr (.t rfl) fld27_1 ty3) rfl (stT rfl rfl (fun hg => .load1 (Has.g rfl hg) (i := 0) rfl ty3 rfl) rfl ?_))))
 refine stT rfl rfl (fun hg => have hg' := BP.t hg; OK1.mulI (Has.g rfl hg) (Has.g rfl hg) (by have := mul_bnd ⟨⟨hg'.1.1.1, hg'.1.1.2⟩, hg'.1.2, hg'.2⟩; omega) (by have := mul_bnd ⟨⟨hg'.1.1.1, hg'.1.1.2⟩, hg'.1.2, hg'.2⟩; omega)) rfl ?_
 refine stT rfl rfl (fun hg => .eqI (Has.g rfl hg) (Has.g rfl hg)) rfl (st (.pickAnd (.t rfl) (fun h => Has.g rfl h)) rfl (st (.as (.t rfl)) rfl (nl (.thn (k2 _ _ (.cv (Cv.wk (.l [2] rfl)) (.ret (rt1 (.inl rfl) Tryz.results44 rfl (.tmp (Has.t' rfl ?_) .nil)))))))))
 all_goals (exact isB_eq (by unfold formB; simp only [Bool.and_assoc]))
end Go.Proofs.YtcfobalbkhgdmaaGreat
namespace Go.Proofs.YtcfobalbkhgdmaaGreat
open Go.En Go.RowKit
set_option maxRecDepth 10000
set_option maxHeartbeats 4000000
open Go.Nt
open Go.Pz
open Go.Mz
open Go.Hn
open Go.Hp
open Go.Dt
theorem ref11_None {r c : Int} {xs : List (Bool × List Nat)} : Ctr Tryz.prog 11 [isM r c xs] (isB (decide (r = 0) && decide (c = 0) && decide ((xs.length : Int) = 0))) := by
 refine Ctr.intro Tryz.func11 rfl (by kernel_rfl) Tryz.ntmps11 rfl fun w0 F0 => .cv (Cv.wk (.l [0] rfl)) (.seq fun _ k1 => .region (.box (.t rfl) rfl fun b1 => st (.as (.cB false)) rfl (nl (.thn (k1 _ _ (.seq fun _ k2 => .region (st (.fieldAddr (.t rfl) fld27_0 ty3) rfl (st (.load1 (.t rfl) (i := 0) rfl ty3 rfl) rfl (st (.eqI (.t rfl) (.cI 0 rfl)) rfl (st (.mv (.t rfl)) rfl (stT rfl rfl (fun hg => .fieldAddr (.t rfl) fld27_1 ty3) rfl (stT rfl rfl (fun hg => .load1 (Has.g rfl hg) (i := 0) rfl ty3 rfl) rfl (stT rfl rfl (fun hg => .eqI (Has.g rfl hg) (.cI 0 rfl)) rfl (st (.pickAnd (.t rfl) (fun h => Has.g rfl h)) rfl (st (.mv (.t rfl)) rfl (stT rfl rfl (fun hg => .fieldAddr (.t rfl) fld27_2 ty22) rfl (stT rfl rfl (fun hg => .load1 (Has.g rfl hg) (i := 0) rfl ty22 rfl) rfl (stT rfl rfl (fun hg => .len sl22 (Has.g rfl hg)) rfl (stT rfl rfl (fun hg => .eqI (Has.g rfl hg) (.cI 0 rfl)) rfl (st (.pickAnd (.t rfl) (fun h => Has.g rfl h)) rfl (st (.as (.t rfl)) rfl (nl (.thn (k2 _ _ (.cv (Cv.wk (.l [2] rfl)) (.ret (rt1 (.inl rfl) Tryz.results11 rfl (.tmp (Has.t' rfl ?_) .nil))))))))))))))))))))))))))))
 all_goals (rfl)
theorem ref11_Normal {r c : Int} {l : List Int} {K : Nat} (hx : Bd l K) (hK : K ≤ 400000000) (hm : l.length ≤ 1000000) : Ctr Tryz.prog 14 [isM r c (l.map nz)] (isB (formB r c l.length)) := by
 refine Ctr.intro Tryz.func14 rfl (by kernel_rfl) Tryz.ntmps14 rfl fun w0 F0 => .cv (Cv.wk (.l [0] rfl)) ?_
 have hll : (l.map nz).length = l.length := List.length_map _
 refine .seq fun _ k1 => .region (.box (.t rfl) rfl fun b1 => st (.as (.cB false)) rfl (nl (.thn (k1 _ _ (.seq fun _ k2 => .seq fun _ k3 => .region (st (.as (.cI 0 rfl)) rfl (nl (.thn (k3 _ _ (.block (.loopF [1] (fun (z : { i : Nat // i ≤ l.length }) => match z with | ⟨i, hi⟩ => [(3, isI (i : Int))]) (fun M => fun (z : { i : Nat // i ≤ l.length }) => match z with | ⟨i, hi⟩ => M) (fun (z : { i : Nat // i ≤ l.length }) => match z with | ⟨i, hi⟩ => l.length - i) (⟨0, Nat.zero_le _⟩) (Cv.mem (.c 3 rfl ?_ (.l [1] rfl)) ?_) ?_)))))))))))
 ·rfl
 ·rfl
 rintro ⟨i, hi⟩ K4 hK4
 refine .cv (Cv.wk (.l [3, 1] rfl)) ?_
 have hbi := hx i
 refine .seq fun _ k5 => .seq fun _ k6 => .region (st (.mv (.t rfl)) rfl (st (.fieldAddr (.t rfl) fld27_2 ty22) rfl (st (.load1 (.t rfl) (i := 0) rfl ty22 rfl) rfl (st (.len sl22 (.t rfl)) rfl (st (.ltI (.t rfl) (.t rfl)) rfl (nl (.thn (k6 _ _ (.cond (.t rfl) (fun hc1 => ?_) (fun hc1 => ?_))))))))))
 ·have hc1 := BP.t hc1
  refine .skip (.thn (k5 _ _ (.seq fun _ k7 => .block (.seq fun _ k8 => .region (st (.fieldAddr (.t rfl) fld27_2 ty22) rfl (st (.load1 (.t rfl) (i := 0) rfl ty22 rfl) rfl (st (.mv (.t rfl)) rfl (st (.ixK sl22 ty36 (.t rfl) (.t rfl) zc_len ⟨by omega, by omega⟩ (getZ (i := i) (by omega))) rfl (st (.fieldAddrP (.t rfl) fld36_1 ty34 (Ss' := [_]) rfl) rfl (st (.eq (.loadP1 (.t rfl) ty34) ((show isWords _ = isWords (words (cf l i).natAbs) from rfl))) rfl (st (.len sl34 (.t rfl)) rfl (st (.as (.t rfl)) rfl (nl (.thn (k8 _ _ (.seq fun _ k9 => .region (st (.mv (.t rfl)) rfl (st (.gtI (.t rfl) (.cI 0 rfl)) rfl (st (.mv (.t rfl)) rfl (stT rfl rfl (fun hg => .fieldAddr (.t rfl) fld27_2 ty22) rfl (stT rfl rfl (fun hg => .load1 (Has.g rfl hg) (i := 0) rfl ty22 rfl) rfl (stT rfl rfl (fun hg => .mv (.t rfl)) rfl ?_))))))))))))))))))))))
  refine stT rfl rfl (fun hg => have hg' := BP.t hg; OK1.ixK sl22 ty36 (Has.g rfl hg) (Has.g rfl hg) zc_len ⟨by omega, by omega⟩ (getZ (i := i) (by omega))) rfl ?_
  refine stT rfl rfl (fun hg => .fieldAddrP (Has.g rfl hg) fld36_1 ty34 (Ss' := [_]) rfl) rfl (stT rfl rfl (fun hg => .eq (.loadP1 (Has.g rfl hg) ty34) ((show isWords _ = isWords (words (cf l i).natAbs) from rfl))) rfl (stT rfl rfl (fun hg => .mv (.t rfl)) rfl ?_))
  refine stT rfl rfl (fun hg => have hg' := BP.t hg; OK1.subI (Has.g rfl hg) (.cI 1 rfl) (by omega) (by omega)) rfl ?_
  refine stT rfl rfl (fun hg => have hg' := BP.t hg; OK1.ixP sl34 ty62 (Has.g rfl hg) (Has.g rfl hg) ⟨by omega, by omega⟩ (getD_some (d := 0) (by omega))) rfl ?_
  refine stT rfl rfl (fun hg => have hg' := BP.t hg; OK1.eq (.loadP1 (Has.g rfl hg) ty62) ((show isU _ = isU (dig (cf l i).natAbs ((List.length (words (cf l i).natAbs)) - 1)) from isU_eq (by rw [show (((List.length (words (cf l i).natAbs)) : Int) - 1).toNat = (List.length (words (cf l i).natAbs)) - 1 by omega, getD_words])))) rfl ?_
  refine stT rfl rfl (fun hg => .eqU (Has.g rfl hg) (.cU 0 rfl)) rfl (st (.pickAnd (.t rfl) (fun h => Has.g rfl h)) rfl (st (.mv (.t rfl)) rfl (stF rfl rfl (fun hg => .mv (.t rfl)) rfl (stF rfl rfl (fun hg => .eqI (Has.g rfl hg) (.cI 0 rfl)) rfl (stF rfl rfl (fun hg => .mv (Has.g rfl hg)) rfl (stGT rfl rfl (fun hg => .fieldAddr (.t rfl) fld27_2 ty22) rfl (stGT rfl rfl (fun hg => .load1 (Has.g rfl hg) (i := 0) rfl ty22 rfl) rfl (stGT rfl rfl (fun hg => .mv (.t rfl)) rfl ?_))))))))
  refine stGT rfl rfl (fun hg => have hg' := BP.t hg; OK1.ixK sl22 ty36 (Has.g rfl hg) (Has.g rfl hg) zc_len ⟨by omega, by omega⟩ (getZ (i := i) (by omega))) rfl ?_
  refine stGT rfl rfl (fun hg => .fieldAddrP (Has.g rfl hg) fld36_0 ty4 (Ss' := [_, _]) rfl) rfl (stGT rfl rfl (fun hg => .eq (.loadP1 (Has.g rfl hg) ty4) ((show isB _ = isB (decide (cf l i < 0)) from rfl))) rfl (stF rfl rfl (fun hg => .pickAnd (Has.g rfl hg) (fun h => Has.g rfl (ga hg h))) rfl (st (.pickOr (.t rfl) (fun h => Has.g rfl (ng h))) rfl (nl (.thn (k9 _ _ (.cond (.t rfl) (fun hc2 => ?_) (fun hc2 => ?_))))))))
  ·have hc2 := BP.t hc2
   exact (normal_dead hc2).elim
  ·have hc2 := BP.f hc2
   refine .skip (.bln (.thn (k7 _ _ (.region (st (.mv (.t rfl)) rfl (st (.addI (.t rfl) (.cI 1 rfl) (by omega) (by omega)) rfl (st (.as (.t rfl)) rfl (nl (.thn (hK4 (⟨i + 1, by omega⟩) _ _ ?_ (Cv.mem (.c 3 rfl ?_ (.l [1] rfl)) ?_)))))))))))
   ·show l.length - (i + 1) < l.length - i; omega
   ·exact isI_eq (by omega)
   ·rfl
 ·have hc1 := BP.f hc1
  refine .exit (.the (.the (.blh (.thn (k2 _ _ (.cv (Cv.wk (.l [1] rfl)) (.seq fun _ k10 => .region (st (.load (.t rfl) (i := 0) rfl ty27 rfl (Ss' := [_, _, _]) rfl) rfl (st (.eq (.call (ref11_Formed) (.cons (.t rfl) .nil)) ((show _ = isB (formB r c l.length) from by rw [List.length_map]))) rfl (st (.as (.t rfl)) rfl (nl (.thn (k10 _ _ (.ret (rt1 (.inl rfl) Tryz.results14 rfl (.tmp (Has.t' rfl ?_) .nil))))))))))))))))
  all_goals (rfl)
end Go.Proofs.YtcfobalbkhgdmaaGreat
namespace Go.Proofs.YtcfobalbkhgdmaaGreat
open Go.En Go.RowKit
set_option maxRecDepth 10000
set_option maxHeartbeats 4000000
open Go.Nt
open Go.Pz
open Go.Mz
open Go.Hn
open Go.Hp
open Go.Dt
open Go.Ch
theorem aw26_b : Bd [1, 2, 3, 4] 1 := bd64 (by decide)
theorem aw26_tab : tab (2 * 2) 2 (fun i k => cf [1, 2, 3, 4] (i * 2 + k)) = [1, 2, 3, 4] := by decide
theorem aw26_q : Bd [-2, -5, 1] 1 := bd64 (by decide)
theorem aw26_n : pnorm [-2, -5, 1] = [-2, -5, 1] := by decide
theorem aw26_s : psub [-2, -5, 1] [-2, -5, 1] = [] := by decide
theorem det_2 (A : MatF) : det 2 A = A 0 0 * A 1 1 - A 0 1 * A 1 0 := by
 show 0 + 1 * (A 0 0 * (0 + 1 * (A 1 1 * 1))) + (-1) * (A 0 1 * (0 + 1 * (A 1 0 * 1))) = _
 grind
theorem aw26 : chL 2 [1, 2, 3, 4] = [-2, -5, 1] := by
 have h : ∀ i, i < 3 → cp 2 (mf 2 [1, 2, 3, 4]) i = cf [-2, -5, 1] i := pe_inj fun x => by
  rw [← cp_ev, det_2]
  show (1 * x + -1) * (1 * x + -4) - (0 * x + -2) * (0 * x + -3) = 0 + -2 * x ^ 0 + -5 * x ^ 1 + 1 * x ^ 2
  grind
 unfold chL
 show [cp 2 (mf 2 [1, 2, 3, 4]) 0, cp 2 (mf 2 [1, 2, 3, 4]) 1, cp 2 (mf 2 [1, 2, 3, 4]) 2] = _
 rw [h 0 (by decide), h 1 (by decide), h 2 (by decide)]; rfl
theorem law26_awake  : Ctr Tryz.prog 5 [] (isB true) := by
 refine Ctr.intro Tryz.func5 rfl (by kernel_rfl) Tryz.ntmps5 rfl fun w0 F0 => .cv (Cv.wk .nil) (.seq fun _ k1 => .region (st (.as (.cB false)) rfl (nl (.thn (k1 _ _ (.seq fun _ k2 => .region (st (.buildS [isI 0, isI 0, isI 0, isI 0] sl94 ty2 zero2 (fun _ _ => ⟨⟨rfl, by decide, by decide⟩, ⟨rfl, by decide, by decide⟩, ⟨rfl, by decide, by decide⟩, ⟨rfl, by decide, by decide⟩, trivial⟩) rfl rfl (.cons (.cI 1 rfl) rfl rfl rfl (.cons (.cI 2 rfl) rfl rfl rfl (.cons (.cI 3 rfl) rfl rfl rfl (.cons (.cI 4 rfl) rfl rfl rfl .nil)))) rfl (S := SlM isI [_, _, _, _]) rfl) rfl (st (.eq (.call (zmat_Of (R := 2) (C := 2) (l := [1, 2, 3, 4]) (by decide) (by decide) rfl (by decide)) (.cons (.cI 2 rfl) (.cons (.cI 2 rfl) (.cons (.t rfl) .nil)))) ((show isTup [isMz 2 2 _, isI 0] = isTup [isMz 2 2 [1, 2, 3, 4], isI 0] from by rw [aw26_tab]))) rfl (st (.mv (.t rfl)) rfl (st (.ext (.t rfl) rfl) rfl (st (.ext (.t rfl) rfl) rfl (.alloc [isI 0, isI 0, nilS] zero27 (fun _ _ => ⟨⟨rfl, by decide, by decide⟩, ⟨rfl, by decide, by decide⟩, rfl, trivial⟩) rfl fun b1 => .store (.t rfl) (.t rfl) (i := 0) rfl ty27 rfl rfl (Ss' := [_, _, _]) rfl (M' := [(some _, cellM [_, _, _])]) rfl (st (.as (.t rfl)) rfl (nl (.thn (k2 _ _ (.cv (Cv.wk (.l [0, 1] rfl)) (.seq fun _ k3 => .region (st (.load (.t rfl) (i := 0) rfl ty27 rfl (Ss' := [_, _, _]) rfl) rfl (st (.eq (.call (zchar_Char (n := 2) (K := 1) (xs := [1, 2, 3, 4].map nz) (by rw [vals_nz]; exact aw26_b) (by decide) (by decide) rfl) (.cons (.t rfl) .nil)) ((show _ = isTup [isP [-2, -5, 1], isI 0] from by rw [vals_nz, aw26]))) rfl ?_))))))))))))))))))))
 refine st (.mv (.t rfl)) rfl (st (.ext (.t rfl) rfl) rfl (st (.ext (.t rfl) rfl) rfl (st (.as (.t rfl)) rfl (st (.as (.t rfl)) rfl (nl (.thn (k3 _ _ (.cv (Cv.wk (.l [0, 3, 4] rfl)) (.seq fun _ k4 => .region (st (.mv (.t rfl)) rfl (st (.eqI (.t rfl) (.cI 0 rfl)) rfl (st (.mv (.t rfl)) rfl (stT rfl rfl (fun hg => .mv (.t rfl)) rfl ?_)))))))))))))
 refine stT rfl rfl (fun hg => have hg' := BP.t hg; OK1.buildS [isI 0, isI 0, isI 0] sl94 ty2 zero2 (fun _ _ => ⟨⟨rfl, by decide, by decide⟩, ⟨rfl, by decide, by decide⟩, ⟨rfl, by decide, by decide⟩, trivial⟩) rfl rfl (.cons (.cI (-2) rfl) rfl rfl rfl (.cons (.cI (-5) rfl) rfl rfl rfl (.cons (.cI 1 rfl) rfl rfl rfl .nil))) rfl (S := SlM isI [_, _, _]) rfl) rfl ?_
 refine stT rfl rfl (fun hg => have hg' := BP.t hg; OK1.eq (.call (zpoly_Of (by decide)) (.cons (Has.g rfl hg) .nil)) ((show _ = isP [-2, -5, 1] from isPl_eq aw26_n))) rfl ?_
 refine stT rfl rfl (fun hg => have hg' := BP.t hg; OK1.eq (.call (zpoly_Same (K := 1) (by rw [vals_nz]; exact aw26_q) (by rw [vals_nz]; exact aw26_q) (by decide) (by decide) (by decide)) (.cons (Has.g rfl hg) (.cons (Has.g rfl hg) .nil))) ((show isB _ = isB true from isB_eq (decide_eq_true (by rw [vals_nz]; exact aw26_s))))) rfl ?_
 refine st (.pickAnd (.t rfl) (fun h => Has.g rfl h)) rfl (st (.mv (.t rfl)) rfl (stT rfl rfl (fun hg => .mv (.t rfl)) rfl (stT rfl rfl (fun hg => .len sl23 (Has.g rfl hg)) rfl (stT rfl rfl (fun hg => .eqI (Has.g rfl hg) (.cI 3 rfl)) rfl (st (.pickAnd (.t rfl) (fun h => Has.g rfl h)) rfl (st (.as (.t rfl)) rfl (nl (.thn (k4 _ _ (.cv (Cv.wk (.l [0] rfl)) (.ret (rt1 (.inl rfl) Tryz.results5 rfl (.tmp (Has.t' rfl ?_) .nil)))))))))))))
 all_goals (rfl)
end Go.Proofs.YtcfobalbkhgdmaaGreat
namespace Go.Proofs.YtcfobalbkhgdmaaGreat
open Go.En Go.RowKit
set_option maxRecDepth 10000
set_option maxHeartbeats 4000000
open Go.Nt
open Go.Pz
open Go.Mz
open Go.Hn
open Go.Hp
open Go.Dt
open Go.Ch
open Go.Mi
theorem cm_chL {n : Nat} {qs : List Int} (hn : qs.length = n + 1) (h1 : cf qs n = 1) : chL n (cmL n qs) = qs := ext_cf (by rw [chL_len, hn]) fun i hi => by
 rw [chL_len] at hi
 rcases Nat.lt_or_ge i n with h | h
 ·exact cm_ch qs h
 ·obtain rfl : i = n := by omega
  rw [chL_at (Nat.le_refl i), cp_top, h1]
theorem cm_mnL {n : Nat} {qs : List Int} (hn : qs.length = n + 1) (h1 : cf qs n = 1) : mnL (fun k => -(cf qs k)) n = qs := ext_cf (by rw [mnL_len, hn]) fun i hi => by
 rw [mnL_len] at hi
 rcases Nat.lt_or_ge i n with h | h
 ·rw [mnL_at h]; exact Int.neg_neg _
 ·obtain rfl : i = n := by omega
  rw [mnL_top, h1]
theorem cm_one {n : Nat} {qs : List Int} (hn : 1 < n) : cf (cmL n qs) (1 * n + 0) = 1 := by
 have h : mf n (cmL n qs) 1 0 = _ := cmL_at qs hn (by omega)
 rw [if_pos rfl, if_neg (by omega)] at h
 exact h
theorem c_ZcharCompanions_bad (xs : List (Bool × List Nat)) (h1 : cf (pnorm (vals xs)) ((pnorm (vals xs)).length - 1) ≠ 1) : Ctr Tryz.prog 3 [SlK 2 zc xs] (isB true) := by
 refine Ctr.intro Tryz.func3 rfl (by kernel_rfl) Tryz.ntmps3 rfl fun w0 F0 => .cv (Cv.wk (.l [0] rfl)) (.fact (Has.lenLt (Has.t (t := 0) rfl)) fun lt0 => .fact (Has.okP (Has.t (t := 0) rfl)) fun okp0 => ?_)
 have h11 : (List.length (words (1 : Int).natAbs)) ≤ 1 := nw_small' (by decide)
 obtain ⟨qs, hqs⟩ : ∃ qs, qs = pnorm (vals xs) := ⟨_, rfl⟩
 have hqc : ∀ i, cf qs i = cf (vals xs) i := fun i => by rw [hqs, cf_norm]
 have hqx : qs.length ≤ xs.length := by have := norm_len (vals xs); rw [vals_len] at this; rw [hqs]; exact this
 rw [← hqs] at h1
 refine .seq fun _ k1 => .region (st (.as (.cB false)) rfl (nl (.thn (k1 _ _ (.seq fun _ k2 => .seq fun _ k3 => .region (st (.call (law26_awake) .nil) rfl (st (.not (.t rfl)) rfl (st (.mv (.t rfl)) rfl (stF rfl rfl (fun hg => .mv (.t rfl)) rfl (stF rfl rfl (fun hg => .call (ref10_Few) (.cons (Has.g rfl hg) (.cons (.cI 5 rfl) (.cons (.cI 1 rfl) .nil)))) rfl (stF rfl rfl (fun hg => .not (Has.g rfl hg)) rfl (st (.pickOr (.t rfl) (fun h => Has.g rfl (ng h))) rfl (nl (.thn (k3 _ _ (.cv (Cv.wk (.l [0, 2, 16] rfl)) (.cond (.t rfl) (fun hc1 => ?_) (fun hc1 => ?_))))))))))))))))))
 ·have hc1 := BP.t hc1
  skip
  refine .seq fun _ k4 => .region (st (.call (law26_awake) .nil) rfl (st (.as (.t rfl)) rfl (nl (.thn (k4 _ _ (.ret (.thr (rt1 (.inl rfl) Tryz.results3 rfl (.tmp (Has.t' rfl ?_) .nil)))))))))
  all_goals (rfl)
 ·have hc1 := BP.f hc1
  have HF : fewB xs 5 1 = true := (by simpa using hc1)
  obtain ⟨hl0, hb0⟩ := fewB_bd (N := 5) (K := 1) okp0 HF rfl rfl (by decide)
  refine .skip (.thn (k2 _ _ (.seq fun _ k5 => .region (st (.mv (.t rfl)) rfl (st (.call (zchar_Companion_bad (K := 1) hb0 (by decide) (by omega) hqs.symm h1) (.cons (.t rfl) .nil)) rfl (st (.mv (.t rfl)) rfl (st (.ext (.t rfl) rfl) rfl (st (.ext (.t rfl) rfl) rfl (.alloc [isI 0, isI 0, nilS] zero27 (fun _ _ => ⟨⟨rfl, by decide, by decide⟩, ⟨rfl, by decide, by decide⟩, rfl, trivial⟩) rfl fun b1 => .store (.t rfl) (.t rfl) (i := 0) rfl ty27 rfl rfl (Ss' := [_, _, _]) rfl (M' := [(some _, cellM [_, _, _])]) rfl (st (.as (.t rfl)) rfl (nl (.thn (k5 _ _ (.cv (Cv.wk (.l [0, 2, 3, 4] rfl)) (.seq fun _ k6 => .region (st (.mv (.t rfl)) rfl (st (.eq (.call (zpoly_Degree (K := 1) hb0 (by decide) (by omega)) (.cons (.t rfl) .nil)) ((show isI _ = isI ((qs.length : Int) - 1) from isI_eq (by rw [← hqs])))) rfl (st (.as (.t rfl)) rfl (nl (.thn (k6 _ _ (.seq fun _ k7 => .seq fun _ k8 => .dr (.s [] rfl rfl rfl (.o rfl (.mv (.t rfl))) (.s [25] rfl rfl rfl (.o rfl (.ltI (.t rfl) (.cI 0 rfl))) (.s [26] rfl rfl rfl (.o rfl (.mv (.t rfl))) (.s [27] rfl rfl rfl (.F rfl rfl rfl (fun hg => .mv (.t rfl))) (.s [27] rfl rfl rfl (.F rfl rfl rfl (fun hg => .mv (.t rfl))) ?_)))))))))))))))))))))))))))
  refine .s [27, 28, 29] rfl rfl rfl (.F rfl rfl rfl (fun hg => have hg' := BP.t hg; OK1.ixK sl23 ty36 (Has.g rfl hg) (Has.g rfl hg) zc_len ⟨by omega, by omega⟩ (getD_some (d := (false, [])) (by first | omega | (simp only [Int.toNat_natCast, List.length_set]; omega))))) ?_
  refine .s [27, 30] rfl rfl rfl (.F rfl rfl rfl (fun hg => .loadP (Has.g rfl hg) ty36 rfl (Ss' := [_, _]) rfl)) (.s [27] rfl rfl rfl (.F rfl rfl rfl (fun hg => .call (zint_Of) (.cons (.cI 1 rfl) .nil))) (.fin (n := 8) mixed (by kernel_rfl) (by kernel_rfl) (by kernel_rfl) (.cv (Cv.wk (.l [0, 2, 3, 4, 5, 27, 31, 32] rfl)) ?_)))
  refine stF rfl rfl (fun hg => have hg' := BP.t hg; OK1.eq (.call (zint_Same (by have := hb0.raw (((qs.length : Int) - 1)).toNat; omega) (by rw [val_words]; omega)) (.cons (Has.g rfl hg) (.cons (Has.g rfl hg) .nil))) ((show isB _ = isB false from isB_eq (decide_eq_false (by rw [show ((qs.length : Int) - 1).toNat = qs.length - 1 by omega]; simp only [zv_nf]; rw [← cf_vals, ← hqc]; exact h1))))) rfl ?_
  refine stF rfl rfl (fun hg => .not (Has.g rfl hg)) rfl (st (.pickOr (.t rfl) (fun h => Has.g rfl (ng h))) rfl (nl (.thn (k8 _ _ (.cv (Cv.wk (.l [0, 2, 3, 4, 5, 35] rfl)) (.cond (.t rfl) (fun hc2 => ?_) (fun hc2 => ?_)))))))
  ·have hc2 := BP.t hc2
   skip
   refine .seq fun _ k9 => .region (st (.mv (.t rfl)) rfl (st (.eqI (.t rfl) (.cI 3 rfl)) rfl (st (.mv (.t rfl)) rfl (stT rfl rfl (fun hg => .load (.t rfl) (i := 0) rfl ty27 rfl (Ss' := [_, _, _]) rfl) rfl (stT rfl rfl (fun hg => .call (ref11_None (r := 0) (c := 0) (xs := [])) (.cons (Has.g rfl hg) .nil)) rfl (st (.pickAnd (.t rfl) (fun h => Has.g rfl h)) rfl (st (.as (.t rfl)) rfl (nl (.thn (k9 _ _ (.cv (Cv.wk (.l [0, 2, 3, 4, 5] rfl)) (.ret (.thr (rt1 (.inl rfl) Tryz.results3 rfl (.tmp (Has.t' rfl ?_) .nil)))))))))))))))
   all_goals (rfl)
  ·have hc2 := BP.f hc2
   exfalso; simp at hc2
theorem c_ZcharCompanions_ok (xs : List (Bool × List Nat)) (n : Nat) (hn : (pnorm (vals xs)).length = n + 1) (h1 : cf (pnorm (vals xs)) n = 1) : Ctr Tryz.prog 3 [SlK 2 zc xs] (isB true) := by
 refine Ctr.intro Tryz.func3 rfl (by kernel_rfl) Tryz.ntmps3 rfl fun w0 F0 => .cv (Cv.wk (.l [0] rfl)) (.fact (Has.lenLt (Has.t (t := 0) rfl)) fun lt0 => .fact (Has.okP (Has.t (t := 0) rfl)) fun okp0 => ?_)
 have h11 : (List.length (words (1 : Int).natAbs)) ≤ 1 := nw_small' (by decide)
 obtain ⟨qs, hqs⟩ : ∃ qs, qs = pnorm (vals xs) := ⟨_, rfl⟩
 have hqc : ∀ i, cf qs i = cf (vals xs) i := fun i => by rw [hqs, cf_norm]
 have hqx : qs.length ≤ xs.length := by have := norm_len (vals xs); rw [vals_len] at this; rw [hqs]; exact this
 rw [← hqs] at h1
 rw [← hqs] at hn
 refine .seq fun _ k1 => .region (st (.as (.cB false)) rfl (nl (.thn (k1 _ _ (.seq fun _ k2 => .seq fun _ k3 => .region (st (.call (law26_awake) .nil) rfl (st (.not (.t rfl)) rfl (st (.mv (.t rfl)) rfl (stF rfl rfl (fun hg => .mv (.t rfl)) rfl (stF rfl rfl (fun hg => .call (ref10_Few) (.cons (Has.g rfl hg) (.cons (.cI 5 rfl) (.cons (.cI 1 rfl) .nil)))) rfl (stF rfl rfl (fun hg => .not (Has.g rfl hg)) rfl (st (.pickOr (.t rfl) (fun h => Has.g rfl (ng h))) rfl (nl (.thn (k3 _ _ (.cv (Cv.wk (.l [0, 2, 16] rfl)) (.cond (.t rfl) (fun hc1 => ?_) (fun hc1 => ?_))))))))))))))))))
 ·have hc1 := BP.t hc1
  skip
  refine .seq fun _ k4 => .region (st (.call (law26_awake) .nil) rfl (st (.as (.t rfl)) rfl (nl (.thn (k4 _ _ (.ret (.thr (rt1 (.inl rfl) Tryz.results3 rfl (.tmp (Has.t' rfl ?_) .nil)))))))))
  all_goals (exact isB_eq (by simp))
 ·have hc1 := BP.f hc1
  have HF : fewB xs 5 1 = true := (by simpa using hc1)
  obtain ⟨hl0, hb0⟩ := fewB_bd (N := 5) (K := 1) okp0 HF rfl rfl (by decide)
  have hn4 : n ≤ 4 := (by omega)
  have hn64 : n ≤ 64 := (by omega)
  have hqb : Bd qs 1 := by rw [hqs]; exact hb0.norm
  have hcb := cmL_bd (n := n) hqb (Nat.le_refl 1)
  have hcb2 : Bd (vals ((cmL n qs).map nz)) 2 := by rw [vals_nz]; exact hcb
  have hcl : ((cmL n qs).map nz).length = n * n := by rw [List.length_map, cmL_len]
  have hfo : formB (n : Int) (n : Int) (cmL n qs).length = true := formB_true hn64 hn64 (cmL_len n qs)
  have hch := cm_chL hn h1
  have hmn := cm_mnL hn h1
  have hfb : flB n 2 n ≤ 1 + 3 * 11 := Nat.add_le_add_left (Nat.mul_le_mul (by omega) (by omega)) _
  have hsz : 8 ^ n * (1 + n * (2 + n)) ≤ 100000000 := Nat.le_trans (Nat.mul_le_mul (Nat.pow_le_pow_right (by decide) hn4) (Nat.add_le_add_left (Nat.mul_le_mul hn4 (show 2 + n ≤ 6 by omega)) 1)) (by decide)
  have hmin : MinI (pe n (vals ((cmL n qs).map nz))) (n * n) n (fun k => -(cf qs k)) := by rw [vals_nz]; exact cm_min n qs
  refine .skip (.thn (k2 _ _ (.seq fun _ k5 => .region (st (.mv (.t rfl)) rfl (st (.call (zchar_Companion (K := 1) hb0 (by decide) (by omega) hqs.symm hn h1 hn64) (.cons (.t rfl) .nil)) rfl (st (.mv (.t rfl)) rfl (st (.ext (.t rfl) rfl) rfl (st (.ext (.t rfl) rfl) rfl (.alloc [isI 0, isI 0, nilS] zero27 (fun _ _ => ⟨⟨rfl, by decide, by decide⟩, ⟨rfl, by decide, by decide⟩, rfl, trivial⟩) rfl fun b1 => .store (.t rfl) (.t rfl) (i := 0) rfl ty27 rfl rfl (Ss' := [_, _, _]) rfl (M' := [(some _, cellM [_, _, _])]) rfl (st (.as (.t rfl)) rfl (nl (.thn (k5 _ _ (.cv (Cv.wk (.l [0, 2, 3, 4] rfl)) (.seq fun _ k6 => .region (st (.mv (.t rfl)) rfl (st (.eq (.call (zpoly_Degree (K := 1) hb0 (by decide) (by omega)) (.cons (.t rfl) .nil)) ((show isI _ = isI (n : Int) from isI_eq (by rw [← hqs]; omega)))) rfl ?_)))))))))))))))))
  refine st (.as (.t rfl)) rfl (nl (.thn (k6 _ _ (.seq fun _ k7 => .seq fun _ k8 => .dr (.s [] rfl rfl rfl (.o rfl (.mv (.t rfl))) (.s [25] rfl rfl rfl (.o rfl (.ltI (.t rfl) (.cI 0 rfl))) (.s [26] rfl rfl rfl (.o rfl (.mv (.t rfl))) (.s [27] rfl rfl rfl (.F rfl rfl rfl (fun hg => .mv (.t rfl))) (.s [27] rfl rfl rfl (.F rfl rfl rfl (fun hg => .mv (.t rfl))) ?_)))))))))
  refine .s [27, 28, 29] rfl rfl rfl (.F rfl rfl rfl (fun hg => have hg' := BP.t hg; OK1.ixK sl23 ty36 (Has.g rfl hg) (Has.g rfl hg) zc_len ⟨by omega, by omega⟩ (getD_some (d := (false, [])) (by first | omega | (simp only [Int.toNat_natCast, List.length_set]; omega))))) ?_
  refine .s [27, 30] rfl rfl rfl (.F rfl rfl rfl (fun hg => .loadP (Has.g rfl hg) ty36 rfl (Ss' := [_, _]) rfl)) (.s [27] rfl rfl rfl (.F rfl rfl rfl (fun hg => .call (zint_Of) (.cons (.cI 1 rfl) .nil))) (.fin (n := 8) mixed (by kernel_rfl) (by kernel_rfl) (by kernel_rfl) (.cv (Cv.wk (.l [0, 2, 3, 4, 5, 27, 31, 32] rfl)) ?_)))
  refine stF rfl rfl (fun hg => have hg' := BP.t hg; OK1.eq (.call (zint_Same (by have := hb0.raw ((n : Int)).toNat; omega) (by rw [val_words]; omega)) (.cons (Has.g rfl hg) (.cons (Has.g rfl hg) .nil))) ((show isB _ = isB true from isB_eq (decide_eq_true (by simp only [zv_nf, Int.toNat_natCast]; rw [← cf_vals, ← hqc]; exact h1))))) rfl ?_
  refine stF rfl rfl (fun hg => .not (Has.g rfl hg)) rfl (st (.pickOr (.t rfl) (fun h => Has.g rfl (ng h))) rfl (nl (.thn (k8 _ _ (.cv (Cv.wk (.l [0, 2, 3, 4, 5, 35] rfl)) (.cond (.t rfl) (fun hc2 => ?_) (fun hc2 => ?_)))))))
  ·have hc2 := BP.t hc2
   exfalso; revert hc2; simp
  ·have hc2 := BP.f hc2
   skip
   refine .skip (.thn (k7 _ _ (.seq fun _ k9 => .region (st (.load (.t rfl) (i := 0) rfl ty27 rfl (Ss' := [_, _, _]) rfl) rfl (st (.eq (.call (zchar_Char (K := 2) hcb2 (by omega) hn64 hcl) (.cons (.t rfl) .nil)) ((show _ = isTup [isP qs, isI 0] from by rw [vals_nz, hch]))) rfl (st (.mv (.t rfl)) rfl (st (.ext (.t rfl) rfl) rfl (st (.ext (.t rfl) rfl) rfl (st (.as (.t rfl)) rfl (st (.as (.t rfl)) rfl (nl (.thn (k9 _ _ (.cv (Cv.wk (.l [0, 2, 3, 4, 5, 6, 7] rfl)) (.seq fun _ k10 => .region (st (.load (.t rfl) (i := 0) rfl ty27 rfl (Ss' := [_, _, _]) rfl) rfl (st (.eq (.call (zchar_Min (K := 2) hcb2 (by omega) hcl hmin hn64 hsz) (.cons (.t rfl) .nil)) ((show _ = isTup [isP qs, isI 0] from by rw [hmn]))) rfl (st (.mv (.t rfl)) rfl (st (.ext (.t rfl) rfl) rfl (st (.ext (.t rfl) rfl) rfl (st (.as (.t rfl)) rfl (st (.as (.t rfl)) rfl (nl (.thn (k10 _ _ (.cv (Cv.wk (.l [0, 2, 3, 4, 5, 6, 7, 8, 9] rfl)) (.seq fun _ k11 => .region (st (.mv (.t rfl)) rfl (st (.eqI (.t rfl) (.cI 0 rfl)) rfl (st (.mv (.t rfl)) rfl (stT rfl rfl (fun hg => .mv (.t rfl)) rfl (stT rfl rfl (fun hg => .eqI (Has.g rfl hg) (.cI 0 rfl)) rfl (st (.pickAnd (.t rfl) (fun h => Has.g rfl h)) rfl (st (.mv (.t rfl)) rfl (stT rfl rfl (fun hg => .mv (.t rfl)) rfl (stT rfl rfl (fun hg => .eqI (Has.g rfl hg) (.cI 0 rfl)) rfl ?_))))))))))))))))))))))))))))))))))))
   refine st (.pickAnd (.t rfl) (fun h => Has.g rfl h)) rfl (st (.mv (.t rfl)) rfl (stT rfl rfl (fun hg => .load (.t rfl) (i := 0) rfl ty27 rfl (Ss' := [_, _, _]) rfl) rfl ?_))
   refine stT rfl rfl (fun hg => have hg' := BP.t hg; OK1.eq (.call (ref11_Normal hcb (by decide) (by rw [cmL_len]; exact Nat.le_trans (Nat.mul_le_mul hn4 hn4) (by decide))) (.cons (Has.g rfl hg) .nil)) ((show isB _ = isB true from isB_eq (hfo)))) rfl ?_
   refine st (.pickAnd (.t rfl) (fun h => Has.g rfl h)) rfl (st (.mv (.t rfl)) rfl (stT rfl rfl (fun hg => .fieldAddr (.t rfl) fld27_0 ty3) rfl (stT rfl rfl (fun hg => .load1 (Has.g rfl hg) (i := 0) rfl ty3 rfl) rfl (stT rfl rfl (fun hg => .mv (.t rfl)) rfl (stT rfl rfl (fun hg => .eqI (Has.g rfl hg) (Has.g rfl hg)) rfl (st (.pickAnd (.t rfl) (fun h => Has.g rfl h)) rfl (st (.mv (.t rfl)) rfl (stT rfl rfl (fun hg => .mv (.t rfl)) rfl (stT rfl rfl (fun hg => .mv (.t rfl)) rfl ?_)))))))))
   refine stT rfl rfl (fun hg => have hg' := BP.t hg; OK1.eq (.call (ref10_Is (l := qs) (K := 1) (L := 1) hqb hb0 (by decide) (by decide) (by omega) (by omega)) (.cons (Has.g rfl hg) (.cons (Has.g rfl hg) .nil))) ((show isB _ = isB true from isB_eq (by rw [hqs]; exact isB2_true (norm_norm _) (cf_norm _))))) rfl ?_
   refine st (.pickAnd (.t rfl) (fun h => Has.g rfl h)) rfl (st (.mv (.t rfl)) rfl (stT rfl rfl (fun hg => .mv (.t rfl)) rfl (stT rfl rfl (fun hg => .mv (.t rfl)) rfl ?_)))
   refine stT rfl rfl (fun hg => have hg' := BP.t hg; OK1.eq (.call (ref10_Is (l := qs) (K := 1) (L := 1) hqb hb0 (by decide) (by decide) (by omega) (by omega)) (.cons (Has.g rfl hg) (.cons (Has.g rfl hg) .nil))) ((show isB _ = isB true from isB_eq (by rw [hqs]; exact isB2_true (norm_norm _) (cf_norm _))))) rfl ?_
   refine st (.pickAnd (.t rfl) (fun h => Has.g rfl h)) rfl (st (.mv (.t rfl)) rfl (stT rfl rfl (fun hg => .mv (.t rfl)) rfl (stT rfl rfl (fun hg => .ltI (Has.g rfl hg) (.cI 2 rfl)) rfl (stT rfl rfl (fun hg => .mv (Has.g rfl hg)) rfl (stGF rfl rfl (fun hg => .load (.t rfl) (i := 0) rfl ty27 rfl (Ss' := [_, _, _]) rfl) rfl ?_)))))
   refine stGF rfl rfl (fun hg => have hg' := BP.t hg; OK1.call (zmat_At (R := n) (C := n) (i := 1) (k := 0) (K := 2) hcb2 (by decide) hn64 hn64 hcl (by omega) (by omega)) (.cons (Has.g rfl hg) (.cons (.cI 1 rfl) (.cons (.cI 0 rfl) .nil)))) rfl ?_
   refine stGF rfl rfl (fun hg => .call (zint_Of) (.cons (.cI 1 rfl) .nil)) rfl ?_
   refine stGF rfl rfl (fun hg => have hg' := BP.t hg; OK1.eq (.call (zint_Same (by rw [val_words, vals_nz]; exact Nat.lt_of_le_of_lt (hcb _) (by decide)) (by rw [val_words]; omega)) (.cons (Has.g rfl hg) (.cons (Has.g rfl hg) .nil))) ((show isB _ = isB true from isB_eq (decide_eq_true (by simp only [zv_nf, vals_nz]; exact cm_one (by omega)))))) rfl ?_
   refine stT rfl rfl (fun hg => .pickOr (Has.g rfl hg) (fun h => Has.g rfl (gn hg h))) rfl (st (.pickAnd (.t rfl) (fun h => Has.g rfl h)) rfl (st (.as (.t rfl)) rfl (nl (.thn (k11 _ _ (.cv (Cv.wk (.l [2] rfl)) (.ret (rt1 (.inl rfl) Tryz.results3 rfl (.tmp (Has.t' rfl ?_) .nil)))))))))
   all_goals (exact isB_eq (by simp))
theorem c_ZcharCompanions (xs : List (Bool × List Nat)) : Ctr Tryz.prog 3 [SlK 2 zc xs] (isB true) := by
 by_cases h : cf (pnorm (vals xs)) ((pnorm (vals xs)).length - 1) = 1
 ·obtain ⟨n, hn⟩ : ∃ n, (pnorm (vals xs)).length = n + 1 := by
   rcases hz : (pnorm (vals xs)).length with _ | n
   ·rw [List.eq_nil_of_length_eq_zero hz] at h; exact absurd h (by decide)
   ·exact ⟨n, rfl⟩
  rw [hn, Nat.add_sub_cancel] at h
  exact c_ZcharCompanions_ok xs n hn h
 ·exact c_ZcharCompanions_bad xs h
end Go.Proofs.YtcfobalbkhgdmaaGreat
namespace Go.En
open Go.RowKit Go.ChangeShapes Go.WideShapes Go.ChangeAt
theorem pair_get {α β : Type} (g h : α → β) : ∀ (l : List α) (j : Nat), (l.flatMap fun a => [g a, h a])[j]? = (l[j / 2]?).map (fun a => if j % 2 = 0 then g a else h a)
  | [], j => by simp
  | a :: l, 0 => by simp
  | a :: l, 1 => by simp
  | a :: l, j + 2 => by
    have := pair_get g h l j
    rw [show (j + 2) / 2 = j / 2 + 1 by omega, show (j + 2) % 2 = j % 2 by omega]
    simpa using this
section
variable {H : Type} {enc : TypeId × Value → H} {P : Program}
theorem open_Zs {W : World} {base : Nat} {T e tb ts T' : TypeId} {v : Value} {d : DataW H} {ps : List MemPlace} (hT : P.underlying T = some (.slice e)) (hfs : fsB P e = some [(tb, 0), (ts, 1)]) (hub : P.underlying tb = some .bool) (hu : P.underlying ts = some (.slice T')) (hu' : P.underlying T' = some (.int .u64)) (hc : P.cellsOf T' = 1) (hcb : P.cellsOf tb = 1) (hcs : P.cellsOf ts = 1) (hce : P.cellsOf e = 2)
    (hv : Value.okWide P W .any base T v) (h : DataW.Trod enc P W 0 (fun _ => true) true T v d ps) (hps : ∀ x ∈ ps, x.block < W.heap.size) : ∃ xs : List (Bool × List Nat), (isZs xs).h W (fun b => b < W.heap.size) v := by
  obtain ⟨a0, n0, c0, rfl⟩ := okWide_slice hT hv
  obtain ⟨fuel, hf⟩ := h
  obtain ⟨fs, hue, hsz, hget⟩ := fsB_spec hfs
  obtain ⟨f0, g0, rfl, e0⟩ := hget 0 tb 0 rfl
  obtain ⟨f1, g1, rfl, e1⟩ := hget 1 ts 1 rfl
  have hfs2 : fs = #[f0, f1] := by
    apply Array.ext'
    have hl : fs.toList.length = 2 := by simpa using hsz
    match hq : fs.toList, hl with
    | [p, q], _ =>
      have a0 : fs.toList[0]? = some f0 := by simpa using g0
      have a1 : fs.toList[1]? = some f1 := by simpa using g1
      rw [hq] at a0 a1
      simp at a0 a1
      rw [a0, a1]
  subst hfs2
  rcases Deep.open_slice_pairs hT hue hce e0 e1 hcb hcs hf with ⟨h1, _⟩ | ⟨a, len, cap, m, n, V0, V1, D0, D1, P0, P1, h1, _, hlc, hcm, hm, hx, hel⟩
  · have e : Value.slice a0 n0 c0 = .slice none 0 0 := by simpa [Value.cells] using h1
    rw [e]; exact ⟨[], nilK⟩
  · have e : Value.slice a0 n0 c0 = .slice (some a) len cap := by simpa [Value.cells] using h1
    rw [e]
    simp only [if_true] at hm
    subst m
    have hps' : ∀ i, i < cap → ∀ y ∈ P1 i, y.block < W.heap.size := fun i hi y hy => hps y (by
      have := (Prod.mk.inj hx).2
      rw [this]
      exact List.mem_append_right _ (List.mem_flatMap.2 ⟨i, List.mem_range.2 hi, List.mem_append_right _ hy⟩))
    obtain ⟨l, hl, hgl⟩ := list_of_get (p := fun i (x : Bool × List Nat) => V0 i = .bool x.1 ∧ (isWords x.2).h W (fun b => b < W.heap.size) (V1 i)) len (fun i hi => by
      obtain ⟨_, _, q0, q1⟩ := hel i (by omega)
      obtain ⟨b, hb, _⟩ := DataW.trod_bool hub q0
      obtain ⟨v, ws, hv1, hw⟩ := rd_row hu hu' hc word_of q1 (hps' i (by omega))
      obtain rfl : V1 i = v := by simpa using hv1
      exact ⟨(b, ws), by simpa using hb, hw⟩)
    refine ⟨l, some a, cap, by rw [hl], by rw [hl]; exact hlc, hcm, flat_len zc_len l, ?_⟩
    rcases Nat.eq_zero_or_pos len with h0 | h0
    · exact .inl (by omega)
    · have hc0 := (hel 0 (by omega)).1
      have hs : a.spot = none := by
        cases hsp : a.spot with
        | none => rfl
        | some s =>
          simp only [Addr.add, Nat.zero_mul, if_true] at hc0
          unfold World.cell? at hc0
          rw [hsp] at hc0
          split at hc0 <;> simp at hc0
      obtain ⟨b, off, sp⟩ := a
      simp only at hs
      subst hs
      right
      refine ⟨b, off, rfl, ?_, (List.range len).flatMap (fun i => [V0 i, V1 i]), ?_, fun j u hj => ?_⟩
      · have : MemPlace.cell b (off + 0) ∈ ps := by
          have := (Prod.mk.inj hx).2
          rw [this]
          exact List.mem_append_left _ (List.mem_map.2 ⟨0, by simp; omega, rfl⟩)
        exact hps _ this
      · have hlen2 : ((List.range len).flatMap fun i => [V0 i, V1 i]).length = len * 2 := by
          have := flat_len (fk := fun (i : Nat) => [isB true, isB true]) (k := 2) (fun _ => rfl) (List.range len)
          rw [List.length_flatMap] at this ⊢
          simpa using this
        refine all2_of_get (by rw [flat_len zc_len, hlen2, hl]) (fun j S v hS hv => ?_)
        have hz := pair_get (fun p : Bool × List Nat => isB p.1) (fun p => isWords p.2) l j
        rw [show (l.flatMap fun a => [isB a.1, isWords a.2]) = l.flatMap zc from rfl, hS] at hz
        have hw := pair_get V0 V1 (List.range len) j
        rw [hv] at hw
        have hj : j / 2 < l.length := by
          rcases Nat.lt_or_ge (j / 2) l.length with h | h
          · exact h
          · rw [List.getElem?_eq_none h] at hz; cases hz
        rw [List.getElem?_eq_getElem hj] at hz
        rw [List.getElem?_range (by omega)] at hw
        simp only [Option.map_some, Option.some.injEq] at hz hw
        obtain ⟨k1, k2⟩ := hgl (j / 2) hj
        subst hz; subst hw
        by_cases hp : j % 2 = 0
        · rw [if_pos hp, if_pos hp, k1]; rfl
        · rw [if_neg hp, if_neg hp]; exact k2
      · have hw := pair_get V0 V1 (List.range len) j
        rw [hj] at hw
        have hjl : j / 2 < len := by
          rcases Nat.lt_or_ge (j / 2) len with h | h
          · exact h
          · rw [List.getElem?_eq_none (by simpa using h)] at hw; cases hw
        rw [List.getElem?_range hjl] at hw
        simp only [Option.map_some, Option.some.injEq] at hw
        obtain ⟨q0, q1, _, _⟩ := hel (j / 2) (by omega)
        rw [add_mk] at q0
        rw [add_mk] at q1
        by_cases hp : j % 2 = 0
        · rw [if_pos hp] at hw; subst hw
          rw [show off + j = off + j / 2 * 2 by omega]; exact q0
        · rw [if_neg hp] at hw; subst hw
          rw [show off + j = off + (j / 2 * 2 + 1) by omega]; exact q1
end
end Go.En
namespace Go.Proofs.YtcfobalbkhgdmaaGreat
open Go.En Go.RowKit
set_option maxRecDepth 10000
open Go.ChangeShapes
open Go.WideShapes
open Go.ChangeAt
open Go.Nt
open Go.Pz
open Go.Mz
theorem opens_ZcharCompanions : Opens Tryz.prog Tryz.f3 3 := by
 intro H enc W base args ds ps hval hA hlt
 rw [Tryz.params3] at hA hval
 obtain ⟨v0, vs0, d0, ds0, p0, q0, hargs, rfl, rfl, h0, r0⟩ := trodAll_cons hA
 obtain ⟨rfl, rfl, rfl⟩ := trodAll_nil r0
 obtain rfl : args = #[v0] := by cases args; simp_all
 obtain ⟨x0, o0⟩ := open_Zs un23 fs36 un4 un34 un62 (by kernel_rfl) (by kernel_rfl) (by kernel_rfl) (by kernel_rfl) (hval 0 23 v0 rfl rfl) h0 (fun x hx => hlt x (by simp [hx]))
 refine ⟨_, ?_, c_ZcharCompanions x0⟩
 exact ⟨o0, trivial⟩
theorem jn_ZcharCompanions : Tryz.pinned.checked.prog.funcNamed Rows.zcharCompanionsRow.func = some 3 := by kernel_rfl
theorem jf_ZcharCompanions : joinedFacts Tryz.pinned.checked.prog 3 Tryz.f3 Rows.zcharCompanionsSpec Rows.zcharCompanionsRow = true := by kernel_rfl
theorem jl_ZcharCompanions : laidOutB Tryz.checked.prog = true := by kernel_rfl
theorem zcharCompanions_said : Rows.ZcharCompanionsSaid :=
 OpenClaim.holds_of_wide 3 Tryz.f3 rfl rfl rfl rfl rfl rfl rfl ⟨rfl, rfl, rfl, rfl, rfl⟩ rfl rfl rfl rfl rfl jn_ZcharCompanions Tryz.func3 jf_ZcharCompanions
  (of_decide_eq_true (by kernel_rfl)) (by unfold Func.isWrapper; first | (rw [if_pos (by decide +kernel)]; kernel_rfl) | (rw [if_neg (by decide +kernel)]; exact ⟨rfl, rfl⟩))
  (fun os started H enc _ => lift_law (C := Tryz.checked) (s := Rows.zcharCompanionsSpec) (by kernel_rfl) started (by kernel_rfl) Tryz.func3
   (ChangeSpec.witness6 (enc := enc) (C := Tryz.checked) false ⟨#[], #[.slice none 0 0], []⟩ 8 (by kernel_rfl) (by kernel_rfl) (by kernel_rfl) (by kernel_rfl))
   jl_ZcharCompanions (by kernel_rfl) rfl rfl un4 (fun ds h => by match ds, h with | [d0], _ => rfl) opens_ZcharCompanions)
#print axioms zcharCompanions_said
end Go.Proofs.YtcfobalbkhgdmaaGreat
