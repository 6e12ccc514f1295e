/- The law ModhnfInserts, as it is stated, of the given program, for every input; no condition. -/
import Derived.Test.YthkdmhaafanjlaaGreatQModhnfInserts5
import Derived.Deep.SlicePairs
import Derived.Test.YthkdmhaafanjlaaGreatRows
namespace Go.Proofs.YthkdmhaafanjlaaGreat
open Go.En Go.RowKit
set_option maxRecDepth 10000
set_option maxHeartbeats 4000000
open Go.Nt
open Go.Pz
open Go.Mz
open Go.Hn
open Go.Hp
open Go.Tr
open Go.Dt
theorem stkL_bdI {R R' C K : Nat} {L L' : List Int} (h : Bd L K) (h' : Bd L' K) : Bd (stkL R R' C L L') K := by
 unfold stkL
 exact Bd_tab fun i k => by split; exact h _; exact h' _
theorem modhnf_Insert {R C K : Nat} {xs vs : List (Bool × List Nat)} (hx : Bd (vals xs) K) (hv : Bd (vals vs) K) (hK : K ≤ 400000000) (hR : R + 1 ≤ 64) (hC : C ≤ 64) (hl : xs.length = R * C) (hvl : vs.length = C) (hh : hermB R C (mf C (vals xs)) = true) (hqq : hq (R + 1) (K + 4) (hrk (R + 1) C (stkL R 1 C (vals xs) (vals vs))) * (R + 1 + 2) ≤ 80000000) : Ctr Tryz.prog 15 [isM (R : Int) (C : Int) xs, SlK 2 zc vs] (isTup [isMz (pivL C (mf C (hL (R + 1) C (stkL R 1 C (vals xs) (vals vs)))) (R + 1)).length C (latL (R + 1) C (stkL R 1 C (vals xs) (vals vs))), isI 0]) := by
 refine Ctr.intro Tryz.func15 rfl (by kernel_rfl) Tryz.ntmps15 rfl fun w0 F0 => .cv (Cv.wk (.l [0, 1] rfl)) (.fact (Has.lenLt (Has.t (t := 1) rfl)) fun lt1 => ?_)
 have hfo := formB_true (show R ≤ 64 by omega) hC hl
 have hSb : Bd (stkL R 1 C (vals xs) (vals vs)) K := stkL_bdI hx hv
 obtain ⟨SL, hSL⟩ : ∃ S, S = (stkL R 1 C (vals xs) (vals vs)) := ⟨_, rfl⟩
 rw [← hSL] at hSb hqq ⊢
 have hSl : (SL.map nz).length = (R + 1) * C := by rw [List.length_map, hSL]; exact tab_len _ _ _
 refine .seq fun _ k1 => .region (.box (.t rfl) rfl fun b1 => .alloc [isI 0, isI 0, nilS] zero24 (fun _ _ => ⟨⟨rfl, by decide, by decide⟩, ⟨rfl, by decide, by decide⟩, rfl, trivial⟩) rfl fun b2 => st (.as (.cI 0 rfl)) rfl (nl (.thn (k1 _ _ (.seq fun _ k2 => .block (.seq fun _ k3 => .region (st (.load (.t rfl) (i := 1) rfl ty24 rfl (Ss' := [_, _, _]) rfl) rfl (st (.eq (.call (zmat_Formed) (.cons (.t rfl) .nil)) ((show isB _ = isB true from isB_eq (hfo)))) rfl (st (.not (.t rfl)) rfl (st (.mv (.t rfl)) rfl ?_))))))))))
 refine stF rfl rfl (fun hg => have hg' := BP.t hg; OK1.mv (.t rfl)) rfl ?_
 refine stF rfl rfl (fun hg => have hg' := BP.t hg; OK1.len sl22 (Has.g rfl hg)) rfl ?_
 refine stF rfl rfl (fun hg => have hg' := BP.t hg; OK1.fieldAddr (.t rfl) fld24_1 ty3) rfl ?_
 refine stF rfl rfl (fun hg => have hg' := BP.t hg; OK1.load1 (Has.g rfl hg) (i := 1) rfl ty3 rfl) rfl ?_
 refine stF rfl rfl (fun hg => have hg' := BP.t hg; OK1.neI (Has.g rfl hg) (Has.g rfl hg)) rfl ?_
 refine st (.pickOr (.t rfl) (fun h => Has.g rfl (ng h))) rfl (st (.as (.t rfl)) rfl (nl (.thn (k3 _ _ (.cv (Cv.wk (.l [1, 2, 4, 5, 8] rfl)) (.cond (.t rfl) (fun hc1 => ?_) (fun hc1 => ?_)))))))
 ·have hc1 := BP.t hc1
  exfalso; omega
 ·have hc1 := BP.f hc1
  skip
  refine .seq fun _ k4 => .region (st (.load (.t rfl) (i := 1) rfl ty24 rfl (Ss' := [_, _, _]) rfl) rfl (st (.eq (.call (hnf_Is hx (by omega) (by omega) hC hl) (.cons (.t rfl) .nil)) ((show isB _ = isB true from isB_eq (hh)))) rfl (st (.not (.t rfl)) rfl (st (.as (.t rfl)) rfl (nl (.thn (k4 _ _ (.cond (.t rfl) (fun hc2 => ?_) (fun hc2 => ?_)))))))))
  ·have hc2 := BP.t hc2
   exfalso; simp at hc2
  ·have hc2 := BP.f hc2
   skip
   refine .skip (.bln (.thn (k2 _ _ (.cv (Cv.wk (.l [1, 2, 4, 5] rfl)) (.seq fun _ k5 => .region (st (.load (.t rfl) (i := 1) rfl ty24 rfl (Ss' := [_, _, _]) rfl) rfl (st (.fieldAddr (.t rfl) fld24_1 ty3) rfl (st (.load1 (.t rfl) (i := 1) rfl ty3 rfl) rfl (st (.mv (.t rfl)) rfl (st (.build [isI 0, isI 0, nilS] pl24 zero24 (fun _ _ => ⟨⟨rfl, by decide, by decide⟩, ⟨rfl, by decide, by decide⟩, rfl, trivial⟩) (.cons (.cI 1 rfl) rfl rfl rfl (.cons (.t rfl) rfl rfl rfl (.cons (.t rfl) rfl rfl rfl .nil))) (Z'' := [_, _, _]) rfl) rfl (st (.eq (.call (zmat_Stack (R' := 1) hx hv hK hR hC hl (by rw [Nat.one_mul]; exact hvl)) (.cons (.t rfl) (.cons (.t rfl) .nil))) ((show _ = isTup [isMz ((R + 1 : Nat)) C SL, isI 0] from by rw [hSL]))) rfl ?_)))))))))))
   refine st (.mv (.t rfl)) rfl (st (.ext (.t rfl) rfl) rfl (st (.ext (.t rfl) rfl) rfl (.alloc [isI 0, isI 0, nilS] zero24 (fun _ _ => ⟨⟨rfl, by decide, by decide⟩, ⟨rfl, by decide, by decide⟩, rfl, trivial⟩) rfl fun b3 => .store (.t rfl) (.t rfl) (i := 0) rfl ty24 rfl rfl (Ss' := [_, _, _]) rfl (M' := [(some _, cellM [_, _, _]), _, _]) rfl (st (.as (.t rfl)) rfl (nl (.thn (k5 _ _ (.cv (Cv.wk (.l [4, 5, 6, 7] rfl)) (.seq fun _ k6 => .seq fun _ k7 => .region (st (.mv (.t rfl)) rfl (st (.neI (.t rfl) (.cI 0 rfl)) rfl (nl (.thn (k7 _ _ (.cond (.t rfl) (fun hc3 => ?_) (fun hc3 => ?_))))))))))))))))
   ·have hc3 := BP.t hc3
    exfalso; simp at hc3
   ·have hc3 := BP.f hc3
    skip
    refine .skip (.thn (k6 _ _ (.seq fun _ k8 => .region (st (.load (.t rfl) (i := 0) rfl ty24 rfl (Ss' := [_, _, _]) rfl) rfl (st (.eq (.call (hnf_LatticeQ (R := R + 1) (C := C) (K := K) (xs := SL.map nz) (by rw [vals_nz]; exact hSb) (by rw [vals_nz]; exact hqq) hR hC hSl) (.cons (.t rfl) .nil)) ((show _ = isTup [isMz (pivL C (mf C (hL (R + 1) C SL)) (R + 1)).length C (latL (R + 1) C SL), isI 0] from by rw [vals_nz]))) rfl ?_)))))
    refine st (.ext (.t rfl) rfl) rfl (st (.ext (.t rfl) rfl) rfl (.store (.t rfl) (.t rfl) (i := 1) rfl ty24 rfl rfl (Ss' := [_, _, _]) rfl (M' := [_, (some _, cellM [_, _, _]), _]) rfl (st (.as (.t rfl)) rfl (nl (.thn (k8 _ _ (.cv (Cv.wk (.l [4, 5] rfl)) (.ret (rtN (.inl rfl) Tryz.results15 rfl rfl (.cell rfl (i := 1) rfl ty24 rfl ?_ (.tmp (Has.t' rfl ?_) .nil)))))))))))
    ·rfl
    ·rfl
theorem modhnf_Insert_len {r : Int} {C : Nat} {xs vs : List (Bool × List Nat)} (hvl : vs.length ≠ C) : Ctr Tryz.prog 15 [isM r (C : Int) xs, SlK 2 zc vs] (isTup [isM0, isI 2]) := by
 refine Ctr.intro Tryz.func15 rfl (by kernel_rfl) Tryz.ntmps15 rfl fun w0 F0 => .cv (Cv.wk (.l [0, 1] rfl)) (.fact (Has.lenLt (Has.t (t := 1) rfl)) fun lt1 => .seq fun _ k1 => .region (.box (.t rfl) rfl fun b1 => .alloc [isI 0, isI 0, SlK 2 zc ([] : List (Bool × List Nat))] zero24 (fun _ _ => ⟨⟨rfl, by decide, by decide⟩, ⟨rfl, by decide, by decide⟩, nilK, trivial⟩) rfl fun b2 => st (.as (.cI 0 rfl)) rfl (nl (.thn (k1 _ _ (.seq fun _ k2 => .block (.seq fun _ k3 => .region (st (.load (.t rfl) (i := 1) rfl ty24 rfl (Ss' := [_, _, _]) rfl) rfl (st (.call (zmat_Formed) (.cons (.t rfl) .nil)) rfl (st (.not (.t rfl)) rfl (st (.mv (.t rfl)) rfl ?_)))))))))))
 refine stF rfl rfl (fun hg => have hg' := BP.t hg; OK1.mv (.t rfl)) rfl ?_
 refine stF rfl rfl (fun hg => have hg' := BP.t hg; OK1.len sl22 (Has.g rfl hg)) rfl ?_
 refine stF rfl rfl (fun hg => have hg' := BP.t hg; OK1.fieldAddr (.t rfl) fld24_1 ty3) rfl ?_
 refine stF rfl rfl (fun hg => have hg' := BP.t hg; OK1.load1 (Has.g rfl hg) (i := 1) rfl ty3 rfl) rfl ?_
 refine stF rfl rfl (fun hg => have hg' := BP.t hg; OK1.neI (Has.g rfl hg) (Has.g rfl hg)) rfl ?_
 refine st (.pickOr (.t rfl) (fun h => Has.g rfl (ng h))) rfl (st (.as (.t rfl)) rfl (nl (.thn (k3 _ _ (.cv (Cv.wk (.l [1, 2, 4, 5, 8] rfl)) (.cond (.t rfl) (fun hc1 => ?_) (fun hc1 => ?_)))))))
 ·have hc1 := BP.t hc1
  skip
  refine .seq fun _ k4 => .region (st (.build [isI 0, isI 0, SlK 2 zc ([] : List (Bool × List Nat))] pl24 zero24 (fun _ _ => ⟨⟨rfl, by decide, by decide⟩, ⟨rfl, by decide, by decide⟩, nilK, trivial⟩) .nil (Z'' := [_, _, _]) rfl) rfl (.store (.t rfl) (.t rfl) (i := 0) rfl ty24 rfl rfl (Ss' := [_, _, _]) rfl (M' := [(some _, cellM [_, _, _]), _]) rfl (st (.as (.cI 2 rfl)) rfl (nl (.thn (k4 _ _ (.ret (.blr (.thr (rtN (.inl rfl) Tryz.results15 rfl rfl (.cell rfl (i := 0) rfl ty24 rfl ?_ (.tmp (Has.t' rfl ?_) .nil))))))))))))
  ·rfl
  ·rfl
 ·have hc1 := BP.f hc1
  exfalso; first | omega | (have := hc1.2; omega)
theorem modhnf_Insert_not {R C K : Nat} {xs vs : List (Bool × List Nat)} (hx : Bd (vals xs) K) (hv : Bd (vals vs) K) (hK : K ≤ 400000000) (hR : R + 1 ≤ 64) (hC : C ≤ 64) (hl : xs.length = R * C) (hvl : vs.length = C) (hh : hermB R C (mf C (vals xs)) = false) : Ctr Tryz.prog 15 [isM (R : Int) (C : Int) xs, SlK 2 zc vs] (isTup [isM0, isI 1]) := by
 refine Ctr.intro Tryz.func15 rfl (by kernel_rfl) Tryz.ntmps15 rfl fun w0 F0 => .cv (Cv.wk (.l [0, 1] rfl)) (.fact (Has.lenLt (Has.t (t := 1) rfl)) fun lt1 => ?_)
 have hfo := formB_true (show R ≤ 64 by omega) hC hl
 refine .seq fun _ k1 => .region (.box (.t rfl) rfl fun b1 => .alloc [isI 0, isI 0, SlK 2 zc ([] : List (Bool × List Nat))] zero24 (fun _ _ => ⟨⟨rfl, by decide, by decide⟩, ⟨rfl, by decide, by decide⟩, nilK, trivial⟩) rfl fun b2 => st (.as (.cI 0 rfl)) rfl (nl (.thn (k1 _ _ (.seq fun _ k2 => .block (.seq fun _ k3 => .region (st (.load (.t rfl) (i := 1) rfl ty24 rfl (Ss' := [_, _, _]) rfl) rfl (st (.eq (.call (zmat_Formed) (.cons (.t rfl) .nil)) ((show isB _ = isB true from isB_eq (hfo)))) rfl (st (.not (.t rfl)) rfl (st (.mv (.t rfl)) rfl ?_))))))))))
 refine stF rfl rfl (fun hg => have hg' := BP.t hg; OK1.mv (.t rfl)) rfl ?_
 refine stF rfl rfl (fun hg => have hg' := BP.t hg; OK1.len sl22 (Has.g rfl hg)) rfl ?_
 refine stF rfl rfl (fun hg => have hg' := BP.t hg; OK1.fieldAddr (.t rfl) fld24_1 ty3) rfl ?_
 refine stF rfl rfl (fun hg => have hg' := BP.t hg; OK1.load1 (Has.g rfl hg) (i := 1) rfl ty3 rfl) rfl ?_
 refine stF rfl rfl (fun hg => have hg' := BP.t hg; OK1.neI (Has.g rfl hg) (Has.g rfl hg)) rfl ?_
 refine st (.pickOr (.t rfl) (fun h => Has.g rfl (ng h))) rfl (st (.as (.t rfl)) rfl (nl (.thn (k3 _ _ (.cv (Cv.wk (.l [1, 2, 4, 5, 8] rfl)) (.cond (.t rfl) (fun hc1 => ?_) (fun hc1 => ?_)))))))
 ·have hc1 := BP.t hc1
  exfalso; omega
 ·have hc1 := BP.f hc1
  skip
  refine .seq fun _ k4 => .region (st (.load (.t rfl) (i := 1) rfl ty24 rfl (Ss' := [_, _, _]) rfl) rfl (st (.eq (.call (hnf_Is hx (by omega) (by omega) hC hl) (.cons (.t rfl) .nil)) ((show isB _ = isB false from isB_eq (hh)))) rfl (st (.not (.t rfl)) rfl (st (.as (.t rfl)) rfl (nl (.thn (k4 _ _ (.cond (.t rfl) (fun hc2 => ?_) (fun hc2 => ?_)))))))))
  ·have hc2 := BP.t hc2
   skip
   refine .seq fun _ k5 => .region (st (.build [isI 0, isI 0, SlK 2 zc ([] : List (Bool × List Nat))] pl24 zero24 (fun _ _ => ⟨⟨rfl, by decide, by decide⟩, ⟨rfl, by decide, by decide⟩, nilK, trivial⟩) .nil (Z'' := [_, _, _]) rfl) rfl (.store (.t rfl) (.t rfl) (i := 0) rfl ty24 rfl rfl (Ss' := [_, _, _]) rfl (M' := [(some _, cellM [_, _, _]), _]) rfl (st (.as (.cI 1 rfl)) rfl (nl (.thn (k5 _ _ (.cv (Cv.wk (.l [1, 2, 4, 5] rfl)) (.ret (.blr (.thr (rtN (.inl rfl) Tryz.results15 rfl rfl (.cell rfl (i := 0) rfl ty24 rfl ?_ (.tmp (Has.t' rfl ?_) .nil)))))))))))))
   ·rfl
   ·rfl
  ·have hc2 := BP.f hc2
   exfalso; simp at hc2
end Go.Proofs.YthkdmhaafanjlaaGreat
namespace Go.Hp
open Go.Dt Go.Hn Go.Pz Go.Nt Go.Mz Go.En
abbrev latP (R C : Nat) (L : List Int) : Nat := (pivL C (mf C (hL R C L)) R).length
theorem latL_len (R C : Nat) (L : List Int) : (latL R C L).length = latP R C L * C := tab_len _ _ _
end Go.Hp
namespace Go.Proofs.YthkdmhaafanjlaaGreat
open Go.En Go.RowKit
set_option maxRecDepth 10000
set_option maxHeartbeats 4000000
open Go.Nt
open Go.Pz
open Go.Mz
open Go.Hn
open Go.Hp
open Go.Tr
open Go.Dt
theorem c_ModhnfInserts_bad (r c : Int) (xs vs : List (Bool × List Nat)) (hf : formB r c xs.length = false) : Ctr Tryz.prog 3 [isM r c xs, SlK 2 zc vs] (isB true) := by
 refine Ctr.intro Tryz.func3 rfl (by kernel_rfl) Tryz.ntmps3 rfl fun w0 F0 => .cv (Cv.wk (.l [0, 1] rfl)) (.fact (Has.lenLt (Has.t (t := 1) rfl)) fun lt1 => .seq fun _ k1 => .region (.box (.t rfl) rfl fun b1 => st (.as (.cB false)) rfl (nl (.thn (k1 _ _ (.seq fun _ k2 => .seq fun _ k3 => .region (st (.call law15_awake .nil) rfl (st (.not (.t rfl)) rfl (st (.mv (.t rfl)) rfl ?_)))))))))
 refine stF rfl rfl (fun hg => have hg' := BP.t hg; OK1.load (.t rfl) (i := 0) rfl ty24 rfl (Ss' := [_, _, _]) rfl) rfl ?_
 refine stF rfl rfl (fun hg => have hg' := BP.t hg; OK1.call (ref11_Few) (.cons (Has.g rfl hg) (.cons (.cI 4 rfl) (.cons (.cI 1 rfl) .nil)))) rfl ?_
 refine stF rfl rfl (fun hg => have hg' := BP.t hg; OK1.not (Has.g rfl hg)) rfl ?_
 refine st (.pickOr (.t rfl) (fun h => Has.g rfl (ng h))) rfl (st (.mv (.t rfl)) rfl ?_)
 refine stF rfl rfl (fun hg => have hg' := BP.t hg; OK1.mv (.t rfl)) rfl ?_
 refine stF rfl rfl (fun hg => have hg' := BP.t hg; OK1.len sl22 (Has.g rfl hg)) rfl ?_
 refine stF rfl rfl (fun hg => have hg' := BP.t hg; OK1.gtI (Has.g rfl hg) (.cI 6 rfl)) rfl ?_
 refine st (.pickOr (.t rfl) (fun h => Has.g rfl (ng h))) rfl (st (.mv (.t rfl)) rfl ?_)
 refine stF rfl rfl (fun hg => have hg' := BP.t hg; OK1.load (.t rfl) (i := 0) rfl ty24 rfl (Ss' := [_, _, _]) rfl) rfl ?_
 refine stF rfl rfl (fun hg => have hg' := BP.t hg; OK1.eq (.call (ref11_Formed) (.cons (Has.g rfl hg) .nil)) ((show isB _ = isB false from isB_eq (hf)))) rfl ?_
 refine stF rfl rfl (fun hg => have hg' := BP.t hg; OK1.not (Has.g rfl hg)) rfl ?_
 refine st (.pickOr (.t rfl) (fun h => Has.g rfl (ng h))) rfl (nl (.thn (k3 _ _ (.cv (Cv.wk (.l [1, 2, 4, 28] rfl)) (.cond (.t rfl) (fun hc1 => ?_) (fun hc1 => ?_))))))
 ·have hc1 := BP.t hc1
  refine .seq fun _ k4 => .region (st (.call law15_awake .nil) rfl (st (.as (.t rfl)) rfl (nl (.thn (k4 _ _ (.ret (.thr (rt1 (.inl rfl) Tryz.results3 rfl (.tmp (Has.t' rfl ?_) .nil)))))))))
  all_goals (rfl)
 ·have hc1 := BP.f hc1
  exfalso; simp at hc1
theorem c_ModhnfInserts_len (R C : Nat) (xs : List (Bool × List Nat)) (hR : R ≤ 64) (hC : C ≤ 64) (vs : List (Bool × List Nat)) (hl : xs.length = R * C) (hvl : vs.length ≠ C) : CtrX Tryz.prog 3 [isM (R : Int) (C : Int) xs, SlK 2 zc vs] ([]) (fun S M => S = isB true) := by
 refine CtrX.intro Tryz.func3 rfl (by kernel_rfl) Tryz.ntmps3 rfl fun w0 F0 => .cv (Cv.wk (.l [0, 1] rfl)) (.fact (Has.lenLt (Has.t (t := 1) rfl)) fun lt1 => .fact (Has.okM (Has.t (t := 0) rfl)) fun okp0 => .fact (Has.okP (Has.t (t := 1) rfl)) fun okp1 => ?_)
 have hfo := formB_true hR hC hl
 refine .seq fun _ k1 => .region (.box (.t rfl) rfl fun b1 => st (.as (.cB false)) rfl (nl (.thn (k1 _ _ (.seq fun _ k2 => .seq fun _ k3 => .region (st (.call law15_awake .nil) rfl (st (.not (.t rfl)) rfl (st (.mv (.t rfl)) rfl ?_))))))))
 refine stF rfl rfl (fun hg => have hg' := BP.t hg; OK1.load (.t rfl) (i := 0) rfl ty24 rfl (Ss' := [_, _, _]) rfl) rfl ?_
 refine stF rfl rfl (fun hg => have hg' := BP.t hg; OK1.call (ref11_Few) (.cons (Has.g rfl hg) (.cons (.cI 4 rfl) (.cons (.cI 1 rfl) .nil)))) rfl ?_
 refine stF rfl rfl (fun hg => have hg' := BP.t hg; OK1.not (Has.g rfl hg)) rfl ?_
 refine st (.pickOr (.t rfl) (fun h => Has.g rfl (ng h))) rfl (st (.mv (.t rfl)) rfl ?_)
 refine stF rfl rfl (fun hg => have hg' := BP.t hg; OK1.mv (.t rfl)) rfl ?_
 refine stF rfl rfl (fun hg => have hg' := BP.t hg; OK1.len sl22 (Has.g rfl hg)) rfl ?_
 refine stF rfl rfl (fun hg => have hg' := BP.t hg; OK1.gtI (Has.g rfl hg) (.cI 6 rfl)) rfl ?_
 refine st (.pickOr (.t rfl) (fun h => Has.g rfl (ng h))) rfl (st (.mv (.t rfl)) rfl ?_)
 refine stF rfl rfl (fun hg => have hg' := BP.t hg; OK1.load (.t rfl) (i := 0) rfl ty24 rfl (Ss' := [_, _, _]) rfl) rfl ?_
 refine stF rfl rfl (fun hg => have hg' := BP.t hg; OK1.eq (.call (ref11_Formed) (.cons (Has.g rfl hg) .nil)) ((show isB _ = isB true from isB_eq (hfo)))) rfl ?_
 refine stF rfl rfl (fun hg => have hg' := BP.t hg; OK1.not (Has.g rfl hg)) rfl ?_
 refine st (.pickOr (.t rfl) (fun h => Has.g rfl (ng h))) rfl (nl (.thn (k3 _ _ (.cv (Cv.wk (.l [1, 2, 4, 28] rfl)) (.cond (.t rfl) (fun hc1 => ?_) (fun hc1 => ?_))))))
 ·have hc1 := BP.t hc1
  skip
  refine .seq fun _ k4 => .region (st (.call law15_awake .nil) rfl (st (.as (.t rfl)) rfl (nl (.thn (k4 _ _ (.ret (.thr (rtX1D (.cons _ .slnil) (.inl rfl) Tryz.results3 rfl (.tmp (.t rfl) .nil) (rfl)))))))))
 ·have hc1 := BP.f hc1
  have HF0 : (((R : Int) ≤ 4 ∧ (C : Int) ≤ 4) ∧ fewB xs 100 1 = true) ∧ ((vs.length : Nat) : Int) ≤ 6 := (by simpa [and_assoc] using hc1)
  obtain ⟨⟨⟨hR5, hC5⟩, HF⟩, hv6⟩ := HF0
  obtain ⟨hl0, hb⟩ := fewB_bd (N := 100) (K := 1) okp0 HF rfl rfl (by decide)
  refine .skip (.thn (k2 _ _ (.seq fun _ k5 => .seq fun _ k6 => .region (st (.as (.cI 0 rfl)) rfl (nl (.thn (k6 _ _ (.block (.loopF [1, 2] (fun (z : { i : Nat // i ≤ vs.length ∧ ∀ j, j < i → ((vs.getD j (false, [])).2.length : Int) ≤ 1 }) => match z with | ⟨i, hI⟩ => [(5, isI (i : Int))]) (fun M => fun (z : { i : Nat // i ≤ vs.length ∧ ∀ j, j < i → ((vs.getD j (false, [])).2.length : Int) ≤ 1 }) => match z with | ⟨i, hI⟩ => M) (fun (z : { i : Nat // i ≤ vs.length ∧ ∀ j, j < i → ((vs.getD j (false, [])).2.length : Int) ≤ 1 }) => match z with | ⟨i, hI⟩ => vs.length - i) (⟨0, Nat.zero_le _, fun j hj => absurd hj (Nat.not_lt_zero _)⟩) (Cv.mem (.c 5 rfl ?_ (.l [1, 2] rfl)) ?_) ?_)))))))))
  ·rfl
  ·rfl
  rintro ⟨i, hi, hq⟩ K7 hK7
  refine .cv (Cv.wk (.l [5, 1, 2] rfl)) (.seq fun _ k8 => .seq fun _ k9 => .region (st (.mv (.t rfl)) rfl (st (.mv (.t rfl)) rfl (st (.len sl22 (.t rfl)) rfl (st (.ltI (.t rfl) (.t rfl)) rfl (nl (.thn (k9 _ _ (.cond (.t rfl) (fun hc2 => ?_) (fun hc2 => ?_))))))))))
  ·have hc2 := BP.t hc2
   skip
   refine .skip (.thn (k8 _ _ (.seq fun _ k10 => .block (.seq fun _ k11 => .region (st (.mv (.t rfl)) rfl (st (.mv (.t rfl)) rfl (st (.ixK sl22 ty31 (.t rfl) (.t rfl) zc_len ⟨by omega, by omega⟩ (getD_some (d := (false, [])) (by first | omega | (simp only [Int.toNat_natCast, List.length_set]; omega)))) rfl ?_)))))))
   refine st (.fieldAddrP (.t rfl) fld31_1 ty29 (Ss' := [_]) rfl) rfl (st (.loadP1 (.t rfl) ty29) rfl (st (.len sl29 (.t rfl)) rfl (st (.gtI (.t rfl) (.cI 1 rfl)) rfl (nl (.thn (k11 _ _ (.cond (.t rfl) (fun hc3 => ?_) (fun hc3 => ?_))))))))
   ·have hc3 := BP.t hc3
    skip
    refine .seq fun _ k12 => .region (st (.as (.cB true)) rfl (nl (.thn (k12 _ _ (.ret (.blr (.thr (.thr (.blr (.thr (rtX1D (.cons _ .slnil) (.inl rfl) Tryz.results3 rfl (.tmp (.t rfl) .nil) (rfl))))))))))))
   ·have hc3 := BP.f hc3
    rw [Int.toNat_natCast] at hc3
    have hle : ((vs.getD i (false, [])).2.length : Int) ≤ 1 := (by omega)
    refine .skip (.bln (.thn (k10 _ _ (.region (st (.mv (.t rfl)) rfl (st (.addI (.t rfl) (.cI 1 rfl) (by first | omega | assumption) (by first | omega | assumption)) rfl (st (.as (.t rfl)) rfl (nl (.thn ?_)))))))))
    refine hK7 (⟨i + 1, by omega, fun j hj => by rcases Nat.lt_or_ge j i with h | h; exact hq j h; obtain rfl : j = i := (by omega); exact hle⟩) _ _ ?_ (Cv.mem (.c 5 rfl ?_ (.l [1, 2] rfl)) ?_)
    ·show vs.length - (i + 1) < vs.length - i; omega
    ·exact isI_eq (by omega)
    ·rfl
  ·have hc2 := BP.f hc2
   skip
   refine .exit (.the (.the (.blh (.thn (k5 _ _ (.cv (Cv.wk (.l [1, 2] rfl)) (.seq fun _ k13 => .region (st (.load (.t rfl) (i := 0) rfl ty24 rfl (Ss' := [_, _, _]) rfl) rfl (st (.mv (.t rfl)) rfl (st (.call (modhnf_Insert_len hvl) (.cons (.t rfl) (.cons (.t rfl) .nil))) rfl (st (.mv (.t rfl)) rfl (st (.ext (.t rfl) rfl) rfl (st (.ext (.t rfl) rfl) rfl (.alloc [isI 0, isI 0, nilS] zero24 (fun _ _ => ⟨⟨rfl, by decide, by decide⟩, ⟨rfl, by decide, by decide⟩, rfl, trivial⟩) rfl fun b2 => .store (.t rfl) (.t rfl) (i := 0) rfl ty24 rfl rfl (Ss' := [_, _, _]) rfl (M' := [(some _, cellM [_, _, _]), _]) rfl (st (.as (.t rfl)) rfl (nl (.thn (k13 _ _ (.cv (Cv.wk (.l [1, 2, 6, 7] rfl)) (.seq fun _ k14 => .seq fun _ k15 => .region (st (.mv (.t rfl)) rfl (st (.len sl22 (.t rfl)) rfl (st (.fieldAddr (.t rfl) fld24_1 ty3) rfl (st (.load1 (.t rfl) (i := 1) rfl ty3 rfl) rfl (st (.neI (.t rfl) (.t rfl)) rfl (nl (.thn (k15 _ _ (.cond (.t rfl) (fun hc4 => ?_) (fun hc4 => ?_))))))))))))))))))))))))))))))
   ·have hc4 := BP.t hc4
    skip
    refine .seq fun _ k16 => .region (st (.mv (.t rfl)) rfl (st (.eqI (.t rfl) (.cI 2 rfl)) rfl (st (.mv (.t rfl)) rfl ?_)))
    refine stT rfl rfl (fun hg => have hg' := BP.t hg; OK1.load (.t rfl) (i := 0) rfl ty24 rfl (Ss' := [_, _, _]) rfl) rfl ?_
    refine stT rfl rfl (fun hg => have hg' := BP.t hg; OK1.call (ref11_None (r := 0) (c := 0) (xs := [])) (.cons (Has.g rfl hg) .nil)) rfl ?_
    refine st (.pickAnd (.t rfl) (fun h => Has.g rfl h)) rfl (st (.as (.t rfl)) rfl (nl (.thn (k16 _ _ (.cv (Cv.wk (.l [1, 2, 6, 7, 4] rfl)) (.ret (.thr (rtX1D (.cons _ (.cons _ .slnil)) (.inl rfl) Tryz.results3 rfl (.tmp (.t rfl) .nil) (rfl)))))))))
   ·have hc4 := BP.f hc4
    exfalso; omega
theorem c_ModhnfInserts_not (R C : Nat) (xs : List (Bool × List Nat)) (hR : R ≤ 64) (hC : C ≤ 64) (vs : List (Bool × List Nat)) (hl : xs.length = R * C) (hvl : vs.length = C) (hh : hermB R C (mf C (vals xs)) = false) : CtrX Tryz.prog 3 [isM (R : Int) (C : Int) xs, SlK 2 zc vs] ([]) (fun S M => S = isB true) := by
 refine CtrX.intro Tryz.func3 rfl (by kernel_rfl) Tryz.ntmps3 rfl fun w0 F0 => .cv (Cv.wk (.l [0, 1] rfl)) (.fact (Has.lenLt (Has.t (t := 1) rfl)) fun lt1 => .fact (Has.okM (Has.t (t := 0) rfl)) fun okp0 => .fact (Has.okP (Has.t (t := 1) rfl)) fun okp1 => ?_)
 have hfo := formB_true hR hC hl
 refine .seq fun _ k1 => .region (.box (.t rfl) rfl fun b1 => st (.as (.cB false)) rfl (nl (.thn (k1 _ _ (.seq fun _ k2 => .seq fun _ k3 => .region (st (.call law15_awake .nil) rfl (st (.not (.t rfl)) rfl (st (.mv (.t rfl)) rfl ?_))))))))
 refine stF rfl rfl (fun hg => have hg' := BP.t hg; OK1.load (.t rfl) (i := 0) rfl ty24 rfl (Ss' := [_, _, _]) rfl) rfl ?_
 refine stF rfl rfl (fun hg => have hg' := BP.t hg; OK1.call (ref11_Few) (.cons (Has.g rfl hg) (.cons (.cI 4 rfl) (.cons (.cI 1 rfl) .nil)))) rfl ?_
 refine stF rfl rfl (fun hg => have hg' := BP.t hg; OK1.not (Has.g rfl hg)) rfl ?_
 refine st (.pickOr (.t rfl) (fun h => Has.g rfl (ng h))) rfl (st (.mv (.t rfl)) rfl ?_)
 refine stF rfl rfl (fun hg => have hg' := BP.t hg; OK1.mv (.t rfl)) rfl ?_
 refine stF rfl rfl (fun hg => have hg' := BP.t hg; OK1.len sl22 (Has.g rfl hg)) rfl ?_
 refine stF rfl rfl (fun hg => have hg' := BP.t hg; OK1.gtI (Has.g rfl hg) (.cI 6 rfl)) rfl ?_
 refine st (.pickOr (.t rfl) (fun h => Has.g rfl (ng h))) rfl (st (.mv (.t rfl)) rfl ?_)
 refine stF rfl rfl (fun hg => have hg' := BP.t hg; OK1.load (.t rfl) (i := 0) rfl ty24 rfl (Ss' := [_, _, _]) rfl) rfl ?_
 refine stF rfl rfl (fun hg => have hg' := BP.t hg; OK1.eq (.call (ref11_Formed) (.cons (Has.g rfl hg) .nil)) ((show isB _ = isB true from isB_eq (hfo)))) rfl ?_
 refine stF rfl rfl (fun hg => have hg' := BP.t hg; OK1.not (Has.g rfl hg)) rfl ?_
 refine st (.pickOr (.t rfl) (fun h => Has.g rfl (ng h))) rfl (nl (.thn (k3 _ _ (.cv (Cv.wk (.l [1, 2, 4, 28] rfl)) (.cond (.t rfl) (fun hc1 => ?_) (fun hc1 => ?_))))))
 ·have hc1 := BP.t hc1
  skip
  refine .seq fun _ k4 => .region (st (.call law15_awake .nil) rfl (st (.as (.t rfl)) rfl (nl (.thn (k4 _ _ (.ret (.thr (rtX1D (.cons _ .slnil) (.inl rfl) Tryz.results3 rfl (.tmp (.t rfl) .nil) (rfl)))))))))
 ·have hc1 := BP.f hc1
  have HF0 : (((R : Int) ≤ 4 ∧ (C : Int) ≤ 4) ∧ fewB xs 100 1 = true) ∧ ((vs.length : Nat) : Int) ≤ 6 := (by simpa [and_assoc] using hc1)
  obtain ⟨⟨⟨hR5, hC5⟩, HF⟩, hv6⟩ := HF0
  obtain ⟨hl0, hb⟩ := fewB_bd (N := 100) (K := 1) okp0 HF rfl rfl (by decide)
  refine .skip (.thn (k2 _ _ (.seq fun _ k5 => .seq fun _ k6 => .region (st (.as (.cI 0 rfl)) rfl (nl (.thn (k6 _ _ (.block (.loopF [1, 2] (fun (z : { i : Nat // i ≤ vs.length ∧ ∀ j, j < i → ((vs.getD j (false, [])).2.length : Int) ≤ 1 }) => match z with | ⟨i, hI⟩ => [(5, isI (i : Int))]) (fun M => fun (z : { i : Nat // i ≤ vs.length ∧ ∀ j, j < i → ((vs.getD j (false, [])).2.length : Int) ≤ 1 }) => match z with | ⟨i, hI⟩ => M) (fun (z : { i : Nat // i ≤ vs.length ∧ ∀ j, j < i → ((vs.getD j (false, [])).2.length : Int) ≤ 1 }) => match z with | ⟨i, hI⟩ => vs.length - i) (⟨0, Nat.zero_le _, fun j hj => absurd hj (Nat.not_lt_zero _)⟩) (Cv.mem (.c 5 rfl ?_ (.l [1, 2] rfl)) ?_) ?_)))))))))
  ·rfl
  ·rfl
  rintro ⟨i, hi, hq⟩ K7 hK7
  refine .cv (Cv.wk (.l [5, 1, 2] rfl)) (.seq fun _ k8 => .seq fun _ k9 => .region (st (.mv (.t rfl)) rfl (st (.mv (.t rfl)) rfl (st (.len sl22 (.t rfl)) rfl (st (.ltI (.t rfl) (.t rfl)) rfl (nl (.thn (k9 _ _ (.cond (.t rfl) (fun hc2 => ?_) (fun hc2 => ?_))))))))))
  ·have hc2 := BP.t hc2
   skip
   refine .skip (.thn (k8 _ _ (.seq fun _ k10 => .block (.seq fun _ k11 => .region (st (.mv (.t rfl)) rfl (st (.mv (.t rfl)) rfl (st (.ixK sl22 ty31 (.t rfl) (.t rfl) zc_len ⟨by omega, by omega⟩ (getD_some (d := (false, [])) (by first | omega | (simp only [Int.toNat_natCast, List.length_set]; omega)))) rfl ?_)))))))
   refine st (.fieldAddrP (.t rfl) fld31_1 ty29 (Ss' := [_]) rfl) rfl (st (.loadP1 (.t rfl) ty29) rfl (st (.len sl29 (.t rfl)) rfl (st (.gtI (.t rfl) (.cI 1 rfl)) rfl (nl (.thn (k11 _ _ (.cond (.t rfl) (fun hc3 => ?_) (fun hc3 => ?_))))))))
   ·have hc3 := BP.t hc3
    skip
    refine .seq fun _ k12 => .region (st (.as (.cB true)) rfl (nl (.thn (k12 _ _ (.ret (.blr (.thr (.thr (.blr (.thr (rtX1D (.cons _ .slnil) (.inl rfl) Tryz.results3 rfl (.tmp (.t rfl) .nil) (rfl))))))))))))
   ·have hc3 := BP.f hc3
    rw [Int.toNat_natCast] at hc3
    have hle : ((vs.getD i (false, [])).2.length : Int) ≤ 1 := (by omega)
    refine .skip (.bln (.thn (k10 _ _ (.region (st (.mv (.t rfl)) rfl (st (.addI (.t rfl) (.cI 1 rfl) (by first | omega | assumption) (by first | omega | assumption)) rfl (st (.as (.t rfl)) rfl (nl (.thn ?_)))))))))
    refine hK7 (⟨i + 1, by omega, fun j hj => by rcases Nat.lt_or_ge j i with h | h; exact hq j h; obtain rfl : j = i := (by omega); exact hle⟩) _ _ ?_ (Cv.mem (.c 5 rfl ?_ (.l [1, 2] rfl)) ?_)
    ·show vs.length - (i + 1) < vs.length - i; omega
    ·exact isI_eq (by omega)
    ·rfl
  ·have hc2 := BP.f hc2
   have hiv : i = vs.length := (by omega)
   have hfv : fewB vs 100 1 = true := by rw [fewB_yes (i := i) (.inl (by omega)) hq]; exact decide_eq_true (by omega)
   obtain ⟨_, hbv⟩ := fewB_bd (N := 100) (K := 1) okp1 hfv rfl rfl (by decide)
   refine .exit (.the (.the (.blh (.thn (k5 _ _ (.cv (Cv.wk (.l [1, 2] rfl)) (.seq fun _ k13 => .region (st (.load (.t rfl) (i := 0) rfl ty24 rfl (Ss' := [_, _, _]) rfl) rfl (st (.mv (.t rfl)) rfl (st (.call (modhnf_Insert_not hb hbv (by decide) (by omega) hC hl hvl hh) (.cons (.t rfl) (.cons (.t rfl) .nil))) rfl (st (.mv (.t rfl)) rfl (st (.ext (.t rfl) rfl) rfl (st (.ext (.t rfl) rfl) rfl (.alloc [isI 0, isI 0, nilS] zero24 (fun _ _ => ⟨⟨rfl, by decide, by decide⟩, ⟨rfl, by decide, by decide⟩, rfl, trivial⟩) rfl fun b2 => .store (.t rfl) (.t rfl) (i := 0) rfl ty24 rfl rfl (Ss' := [_, _, _]) rfl (M' := [(some _, cellM [_, _, _]), _]) rfl (st (.as (.t rfl)) rfl (nl (.thn (k13 _ _ (.cv (Cv.wk (.l [1, 2, 6, 7] rfl)) (.seq fun _ k14 => .seq fun _ k15 => .region (st (.mv (.t rfl)) rfl (st (.len sl22 (.t rfl)) rfl (st (.fieldAddr (.t rfl) fld24_1 ty3) rfl (st (.load1 (.t rfl) (i := 1) rfl ty3 rfl) rfl (st (.neI (.t rfl) (.t rfl)) rfl (nl (.thn (k15 _ _ (.cond (.t rfl) (fun hc4 => ?_) (fun hc4 => ?_))))))))))))))))))))))))))))))
   ·have hc4 := BP.t hc4
    exfalso; omega
   ·have hc4 := BP.f hc4
    skip
    refine .skip (.thn (k14 _ _ (.cv (Cv.wk (.l [1, 2, 6, 7] rfl)) (.seq fun _ k16 => .seq fun _ k17 => .region (st (.load (.t rfl) (i := 1) rfl ty24 rfl (Ss' := [_, _, _]) rfl) rfl (st (.eq (.call (ref14_Is hb (by decide) hR hC hl) (.cons (.t rfl) .nil)) ((show isB _ = isB false from isB_eq (hh)))) rfl (st (.not (.t rfl)) rfl (nl (.thn (k17 _ _ (.cond (.t rfl) (fun hc5 => ?_) (fun hc5 => ?_))))))))))))
    ·have hc5 := BP.t hc5
     skip
     refine .seq fun _ k18 => .region (st (.mv (.t rfl)) rfl (st (.eqI (.t rfl) (.cI 1 rfl)) rfl (st (.mv (.t rfl)) rfl ?_)))
     refine stT rfl rfl (fun hg => have hg' := BP.t hg; OK1.load (.t rfl) (i := 0) rfl ty24 rfl (Ss' := [_, _, _]) rfl) rfl ?_
     refine stT rfl rfl (fun hg => have hg' := BP.t hg; OK1.call (ref11_None (r := 0) (c := 0) (xs := [])) (.cons (Has.g rfl hg) .nil)) rfl ?_
     refine st (.pickAnd (.t rfl) (fun h => Has.g rfl h)) rfl (st (.as (.t rfl)) rfl (nl (.thn (k18 _ _ (.cv (Cv.wk (.l [1, 2, 6, 7, 4] rfl)) (.ret (.thr (rtX1D (.cons _ (.cons _ .slnil)) (.inl rfl) Tryz.results3 rfl (.tmp (.t rfl) .nil) (rfl)))))))))
    ·have hc5 := BP.f hc5
     exfalso; simp at hc5
theorem c_ModhnfInserts_ok (R C : Nat) (xs : List (Bool × List Nat)) (hR : R ≤ 64) (hC : C ≤ 64) (vs : List (Bool × List Nat)) (hl : xs.length = R * C) (hvl : vs.length = C) (hh : hermB R C (mf C (vals xs)) = true) : CtrX Tryz.prog 3 [isM (R : Int) (C : Int) xs, SlK 2 zc vs] ([]) (fun S M => S = isB true) := by
 refine CtrX.intro Tryz.func3 rfl (by kernel_rfl) Tryz.ntmps3 rfl fun w0 F0 => .cv (Cv.wk (.l [0, 1] rfl)) (.fact (Has.lenLt (Has.t (t := 1) rfl)) fun lt1 => .fact (Has.okM (Has.t (t := 0) rfl)) fun okp0 => .fact (Has.okP (Has.t (t := 1) rfl)) fun okp1 => ?_)
 have hfo := formB_true hR hC hl
 refine .seq fun _ k1 => .region (.box (.t rfl) rfl fun b1 => st (.as (.cB false)) rfl (nl (.thn (k1 _ _ (.seq fun _ k2 => .seq fun _ k3 => .region (st (.call law15_awake .nil) rfl (st (.not (.t rfl)) rfl (st (.mv (.t rfl)) rfl ?_))))))))
 refine stF rfl rfl (fun hg => have hg' := BP.t hg; OK1.load (.t rfl) (i := 0) rfl ty24 rfl (Ss' := [_, _, _]) rfl) rfl ?_
 refine stF rfl rfl (fun hg => have hg' := BP.t hg; OK1.call (ref11_Few) (.cons (Has.g rfl hg) (.cons (.cI 4 rfl) (.cons (.cI 1 rfl) .nil)))) rfl ?_
 refine stF rfl rfl (fun hg => have hg' := BP.t hg; OK1.not (Has.g rfl hg)) rfl ?_
 refine st (.pickOr (.t rfl) (fun h => Has.g rfl (ng h))) rfl (st (.mv (.t rfl)) rfl ?_)
 refine stF rfl rfl (fun hg => have hg' := BP.t hg; OK1.mv (.t rfl)) rfl ?_
 refine stF rfl rfl (fun hg => have hg' := BP.t hg; OK1.len sl22 (Has.g rfl hg)) rfl ?_
 refine stF rfl rfl (fun hg => have hg' := BP.t hg; OK1.gtI (Has.g rfl hg) (.cI 6 rfl)) rfl ?_
 refine st (.pickOr (.t rfl) (fun h => Has.g rfl (ng h))) rfl (st (.mv (.t rfl)) rfl ?_)
 refine stF rfl rfl (fun hg => have hg' := BP.t hg; OK1.load (.t rfl) (i := 0) rfl ty24 rfl (Ss' := [_, _, _]) rfl) rfl ?_
 refine stF rfl rfl (fun hg => have hg' := BP.t hg; OK1.eq (.call (ref11_Formed) (.cons (Has.g rfl hg) .nil)) ((show isB _ = isB true from isB_eq (hfo)))) rfl ?_
 refine stF rfl rfl (fun hg => have hg' := BP.t hg; OK1.not (Has.g rfl hg)) rfl ?_
 refine st (.pickOr (.t rfl) (fun h => Has.g rfl (ng h))) rfl (nl (.thn (k3 _ _ (.cv (Cv.wk (.l [1, 2, 4, 28] rfl)) (.cond (.t rfl) (fun hc1 => ?_) (fun hc1 => ?_))))))
 ·have hc1 := BP.t hc1
  skip
  refine .seq fun _ k4 => .region (st (.call law15_awake .nil) rfl (st (.as (.t rfl)) rfl (nl (.thn (k4 _ _ (.ret (.thr (rtX1D (.cons _ .slnil) (.inl rfl) Tryz.results3 rfl (.tmp (.t rfl) .nil) (rfl)))))))))
 ·have hc1 := BP.f hc1
  have HF0 : (((R : Int) ≤ 4 ∧ (C : Int) ≤ 4) ∧ fewB xs 100 1 = true) ∧ ((vs.length : Nat) : Int) ≤ 6 := (by simpa [and_assoc] using hc1)
  obtain ⟨⟨⟨hR5, hC5⟩, HF⟩, hv6⟩ := HF0
  obtain ⟨hl0, hb⟩ := fewB_bd (N := 100) (K := 1) okp0 HF rfl rfl (by decide)
  refine .skip (.thn (k2 _ _ (.seq fun _ k5 => .seq fun _ k6 => .region (st (.as (.cI 0 rfl)) rfl (nl (.thn (k6 _ _ (.block (.loopF [1, 2] (fun (z : { i : Nat // i ≤ vs.length ∧ ∀ j, j < i → ((vs.getD j (false, [])).2.length : Int) ≤ 1 }) => match z with | ⟨i, hI⟩ => [(5, isI (i : Int))]) (fun M => fun (z : { i : Nat // i ≤ vs.length ∧ ∀ j, j < i → ((vs.getD j (false, [])).2.length : Int) ≤ 1 }) => match z with | ⟨i, hI⟩ => M) (fun (z : { i : Nat // i ≤ vs.length ∧ ∀ j, j < i → ((vs.getD j (false, [])).2.length : Int) ≤ 1 }) => match z with | ⟨i, hI⟩ => vs.length - i) (⟨0, Nat.zero_le _, fun j hj => absurd hj (Nat.not_lt_zero _)⟩) (Cv.mem (.c 5 rfl ?_ (.l [1, 2] rfl)) ?_) ?_)))))))))
  ·rfl
  ·rfl
  rintro ⟨i, hi, hq⟩ K7 hK7
  refine .cv (Cv.wk (.l [5, 1, 2] rfl)) (.seq fun _ k8 => .seq fun _ k9 => .region (st (.mv (.t rfl)) rfl (st (.mv (.t rfl)) rfl (st (.len sl22 (.t rfl)) rfl (st (.ltI (.t rfl) (.t rfl)) rfl (nl (.thn (k9 _ _ (.cond (.t rfl) (fun hc2 => ?_) (fun hc2 => ?_))))))))))
  ·have hc2 := BP.t hc2
   skip
   refine .skip (.thn (k8 _ _ (.seq fun _ k10 => .block (.seq fun _ k11 => .region (st (.mv (.t rfl)) rfl (st (.mv (.t rfl)) rfl (st (.ixK sl22 ty31 (.t rfl) (.t rfl) zc_len ⟨by omega, by omega⟩ (getD_some (d := (false, [])) (by first | omega | (simp only [Int.toNat_natCast, List.length_set]; omega)))) rfl ?_)))))))
   refine st (.fieldAddrP (.t rfl) fld31_1 ty29 (Ss' := [_]) rfl) rfl (st (.loadP1 (.t rfl) ty29) rfl (st (.len sl29 (.t rfl)) rfl (st (.gtI (.t rfl) (.cI 1 rfl)) rfl (nl (.thn (k11 _ _ (.cond (.t rfl) (fun hc3 => ?_) (fun hc3 => ?_))))))))
   ·have hc3 := BP.t hc3
    skip
    refine .seq fun _ k12 => .region (st (.as (.cB true)) rfl (nl (.thn (k12 _ _ (.ret (.blr (.thr (.thr (.blr (.thr (rtX1D (.cons _ .slnil) (.inl rfl) Tryz.results3 rfl (.tmp (.t rfl) .nil) (rfl))))))))))))
   ·have hc3 := BP.f hc3
    rw [Int.toNat_natCast] at hc3
    have hle : ((vs.getD i (false, [])).2.length : Int) ≤ 1 := (by omega)
    refine .skip (.bln (.thn (k10 _ _ (.region (st (.mv (.t rfl)) rfl (st (.addI (.t rfl) (.cI 1 rfl) (by first | omega | assumption) (by first | omega | assumption)) rfl (st (.as (.t rfl)) rfl (nl (.thn ?_)))))))))
    refine hK7 (⟨i + 1, by omega, fun j hj => by rcases Nat.lt_or_ge j i with h | h; exact hq j h; obtain rfl : j = i := (by omega); exact hle⟩) _ _ ?_ (Cv.mem (.c 5 rfl ?_ (.l [1, 2] rfl)) ?_)
    ·show vs.length - (i + 1) < vs.length - i; omega
    ·exact isI_eq (by omega)
    ·rfl
  ·have hc2 := BP.f hc2
   have hiv : i = vs.length := (by omega)
   have hfv : fewB vs 100 1 = true := by rw [fewB_yes (i := i) (.inl (by omega)) hq]; exact decide_eq_true (by omega)
   obtain ⟨_, hbv⟩ := fewB_bd (N := 100) (K := 1) okp1 hfv rfl rfl (by decide)
   have hSb0 : Bd (stkL R 1 C (vals xs) (vals vs)) 1 := stkL_bdI hb hbv
   obtain ⟨SL, hSL⟩ : ∃ S, S = (stkL R 1 C (vals xs) (vals vs)) := ⟨_, rfl⟩
   have hSb : Bd SL 1 := by rw [hSL]; exact hSb0
   have hSl : (SL.map nz).length = (R + 1) * C := by rw [List.length_map, hSL]; exact tab_len _ _ _
   have h75 : (1 + 4) * (R + 1 + 2) ^ C ≤ 1000000 := by
    have h1 := Nat.pow_le_pow_left (show R + 1 + 2 ≤ 7 by omega) C
    have h2 := Nat.pow_le_pow_right (show 0 < 7 by decide) (show C ≤ 4 by omega)
    have h3 : 7 ^ 4 = 2401 := by decide
    omega
   have hqq := hq_ask hSb (show R + 1 ≤ 64 by omega) h75
   have hqq2 := hq_ask hSb0 (show R + 1 ≤ 64 by omega) h75
   have hLb : Bd (latL (R + 1) C SL) 80000000 := (latL_bq (R := R + 1) (C := C) hSb).mono (Nat.le_trans (Nat.le_mul_of_pos_right _ (by omega)) hqq)
   have hLl := latL_len (R + 1) C SL
   have hPR : latP (R + 1) C SL ≤ R + 1 := by rw [show latP (R + 1) C SL = hrk (R + 1) C SL from top_piv hSb]; exact hrk_leR hSb
   refine .exit (.the (.the (.blh (.thn (k5 _ _ (.cv (Cv.wk (.l [1, 2] rfl)) (.seq fun _ k13 => .region (st (.load (.t rfl) (i := 0) rfl ty24 rfl (Ss' := [_, _, _]) rfl) rfl (st (.mv (.t rfl)) rfl (st (.eq (.call (modhnf_Insert hb hbv (by decide) (by omega) hC hl hvl hh hqq2) (.cons (.t rfl) (.cons (.t rfl) .nil))) ((show _ = isTup [isMz (latP (R + 1) C SL) C (latL (R + 1) C SL), isI 0] from by rw [hSL]))) rfl (st (.mv (.t rfl)) rfl (st (.ext (.t rfl) rfl) rfl (st (.ext (.t rfl) rfl) rfl (.alloc [isI 0, isI 0, nilS] zero24 (fun _ _ => ⟨⟨rfl, by decide, by decide⟩, ⟨rfl, by decide, by decide⟩, rfl, trivial⟩) rfl fun b2 => .store (.t rfl) (.t rfl) (i := 0) rfl ty24 rfl rfl (Ss' := [_, _, _]) rfl (M' := [(some _, cellM [_, _, _]), _]) rfl (st (.as (.t rfl)) rfl (nl (.thn (k13 _ _ (.cv (Cv.wk (.l [1, 2, 6, 7] rfl)) (.seq fun _ k14 => .seq fun _ k15 => .region (st (.mv (.t rfl)) rfl (st (.len sl22 (.t rfl)) rfl (st (.fieldAddr (.t rfl) fld24_1 ty3) rfl (st (.load1 (.t rfl) (i := 1) rfl ty3 rfl) rfl (st (.neI (.t rfl) (.t rfl)) rfl (nl (.thn (k15 _ _ (.cond (.t rfl) (fun hc4 => ?_) (fun hc4 => ?_))))))))))))))))))))))))))))))
   ·have hc4 := BP.t hc4
    exfalso; omega
   ·have hc4 := BP.f hc4
    skip
    refine .skip (.thn (k14 _ _ (.cv (Cv.wk (.l [1, 2, 6, 7] rfl)) (.seq fun _ k16 => .seq fun _ k17 => .region (st (.load (.t rfl) (i := 1) rfl ty24 rfl (Ss' := [_, _, _]) rfl) rfl (st (.eq (.call (ref14_Is hb (by decide) hR hC hl) (.cons (.t rfl) .nil)) ((show isB _ = isB true from isB_eq (hh)))) rfl (st (.not (.t rfl)) rfl (nl (.thn (k17 _ _ (.cond (.t rfl) (fun hc5 => ?_) (fun hc5 => ?_))))))))))))
    ·have hc5 := BP.t hc5
     exfalso; simp at hc5
    ·have hc5 := BP.f hc5
     skip
     refine .skip (.thn (k16 _ _ (.seq fun _ k18 => .region (st (.load (.t rfl) (i := 1) rfl ty24 rfl (Ss' := [_, _, _]) rfl) rfl (st (.fieldAddr (.t rfl) fld24_1 ty3) rfl (st (.load1 (.t rfl) (i := 1) rfl ty3 rfl) rfl (st (.mv (.t rfl)) rfl (st (.build [isI 0, isI 0, nilS] pl24 zero24 (fun _ _ => ⟨⟨rfl, by decide, by decide⟩, ⟨rfl, by decide, by decide⟩, rfl, trivial⟩) (.cons (.cI 1 rfl) rfl rfl rfl (.cons (.t rfl) rfl rfl rfl (.cons (.t rfl) rfl rfl rfl .nil))) (Z'' := [_, _, _]) rfl) rfl (st (.eq (.call (zmat_Stack (R' := 1) hb hbv (by decide) (by omega) hC hl (by rw [Nat.one_mul]; exact hvl)) (.cons (.t rfl) (.cons (.t rfl) .nil))) ((show _ = isTup [isMz ((R + 1 : Nat)) C SL, isI 0] from by rw [hSL]))) rfl ?_)))))))))
     refine st (.mv (.t rfl)) rfl (st (.ext (.t rfl) rfl) rfl (st (.ext (.t rfl) rfl) rfl (.alloc [isI 0, isI 0, nilS] zero24 (fun _ _ => ⟨⟨rfl, by decide, by decide⟩, ⟨rfl, by decide, by decide⟩, rfl, trivial⟩) rfl fun b3 => .store (.t rfl) (.t rfl) (i := 0) rfl ty24 rfl rfl (Ss' := [_, _, _]) rfl (M' := [(some _, cellM [_, _, _]), _, _]) rfl (st (.as (.t rfl)) rfl (nl (.thn (k18 _ _ (.cv (Cv.wk (.l [6, 7, 8] rfl)) (.seq fun _ k19 => .region (st (.load (.t rfl) (i := 0) rfl ty24 rfl (Ss' := [_, _, _]) rfl) rfl (st (.eq (.call (hnf_LatticeQ (R := R + 1) (C := C) (K := 1) (xs := SL.map nz) (by rw [vals_nz]; exact hSb) (by rw [vals_nz]; exact hqq) (by omega) hC hSl) (.cons (.t rfl) .nil)) ((show _ = isTup [isMz (latP (R + 1) C SL) C (latL (R + 1) C SL), isI 0] from by rw [vals_nz]))) rfl ?_)))))))))))
     refine st (.mv (.t rfl)) rfl (st (.ext (.t rfl) rfl) rfl (st (.ext (.t rfl) rfl) rfl (.alloc [isI 0, isI 0, nilS] zero24 (fun _ _ => ⟨⟨rfl, by decide, by decide⟩, ⟨rfl, by decide, by decide⟩, rfl, trivial⟩) rfl fun b4 => .store (.t rfl) (.t rfl) (i := 0) rfl ty24 rfl rfl (Ss' := [_, _, _]) rfl (M' := [(some _, cellM [_, _, _]), _, _, _]) rfl (st (.as (.t rfl)) rfl (nl (.thn (k19 _ _ (.cv (Cv.wk (.l [6, 7, 10] rfl)) (.seq fun _ k20 => .region (st (.mv (.t rfl)) rfl (st (.eqI (.t rfl) (.cI 0 rfl)) rfl (st (.mv (.t rfl)) rfl ?_))))))))))))
     refine stT rfl rfl (fun hg => have hg' := BP.t hg; OK1.load (.t rfl) (i := 2) rfl ty24 rfl (Ss' := [_, _, _]) rfl) rfl ?_
     refine stT rfl rfl (fun hg => have hg' := BP.t hg; OK1.eq (.call (ref11_Normal (l := latL (R + 1) C SL) hLb (by decide) (by rw [hLl]; exact Nat.le_trans (side_le (show latP (R + 1) C SL ≤ 64 by omega) hC) (by decide))) (.cons (Has.g rfl hg) .nil)) ((show isB _ = isB true from isB_eq (formB_true (by omega) hC hLl)))) rfl ?_
     refine st (.pickAnd (.t rfl) (fun h => Has.g rfl h)) rfl (st (.mv (.t rfl)) rfl ?_)
     refine stT rfl rfl (fun hg => have hg' := BP.t hg; OK1.load (.t rfl) (i := 2) rfl ty24 rfl (Ss' := [_, _, _]) rfl) rfl ?_
     refine stT rfl rfl (fun hg => have hg' := BP.t hg; OK1.load (.t rfl) (i := 0) rfl ty24 rfl (Ss' := [_, _, _]) rfl) rfl ?_
     refine stT rfl rfl (fun hg => have hg' := BP.t hg; OK1.eq (.call (zmat_Same (K := 80000000) (by rw [vals_nz]; exact hLb) (by rw [vals_nz]; exact hLb) (by decide)) (.cons (Has.g rfl hg) (.cons (Has.g rfl hg) .nil))) ((show isB _ = isB true from isB_eq (by rw [vals_nz, formB_true (show latP (R + 1) C SL ≤ 64 by omega) hC (by rw [List.length_map]; exact hLl)]; simp)))) rfl ?_
     refine st (.pickAnd (.t rfl) (fun h => Has.g rfl h)) rfl (st (.as (.t rfl)) rfl (nl (.thn (k20 _ _ (.cv (Cv.wk (.l [4] rfl)) (.ret (rtX1D (.cons _ (.cons _ (.cons _ (.cons _ .slnil)))) (.inl rfl) Tryz.results3 rfl (.tmp (.t rfl) .nil) (rfl))))))))
theorem c_ModhnfInserts (r c : Int) (xs vs : List (Bool × List Nat)) : Ctr Tryz.prog 3 [isM r c xs, SlK 2 zc vs] (isB true) := by
  cases h : formB r c xs.length with
  | true =>
    obtain ⟨R, C, rfl, rfl, h1, h2, h3⟩ := formB_iff.1 h
    by_cases h4 : vs.length = C
    · cases h5 : hermB R C (mf C (vals xs)) with
      | true => exact (c_ModhnfInserts_ok R C xs h1 h2 vs h3 h4 h5).toCtr fun S' M' hh => hh
      | false => exact (c_ModhnfInserts_not R C xs h1 h2 vs h3 h4 h5).toCtr fun S' M' hh => hh
    · exact (c_ModhnfInserts_len R C xs h1 h2 vs h3 h4).toCtr fun S' M' hh => hh
  | false => exact c_ModhnfInserts_bad r c xs vs h
end Go.Proofs.YthkdmhaafanjlaaGreat
namespace Go.En
open Go.RowKit Go.ChangeShapes Go.WideShapes Go.ChangeAt
theorem pair_get {α β : Type} (g h : α → β) : ∀ (l : List α) (j : Nat), (l.flatMap fun a => [g a, h a])[j]? = (l[j / 2]?).map (fun a => if j % 2 = 0 then g a else h a)
  | [], j => by simp
  | a :: l, 0 => by simp
  | a :: l, 1 => by simp
  | a :: l, j + 2 => by
    have := pair_get g h l j
    rw [show (j + 2) / 2 = j / 2 + 1 by omega, show (j + 2) % 2 = j % 2 by omega]
    simpa using this
section
variable {H : Type} {enc : TypeId × Value → H} {P : Program}
theorem open_Zs {W : World} {base : Nat} {T e tb ts T' : TypeId} {v : Value} {d : DataW H} {ps : List MemPlace} (hT : P.underlying T = some (.slice e)) (hfs : fsB P e = some [(tb, 0), (ts, 1)]) (hub : P.underlying tb = some .bool) (hu : P.underlying ts = some (.slice T')) (hu' : P.underlying T' = some (.int .u64)) (hc : P.cellsOf T' = 1) (hcb : P.cellsOf tb = 1) (hcs : P.cellsOf ts = 1) (hce : P.cellsOf e = 2)
    (hv : Value.okWide P W .any base T v) (h : DataW.Trod enc P W 0 (fun _ => true) true T v d ps) (hps : ∀ x ∈ ps, x.block < W.heap.size) : ∃ xs : List (Bool × List Nat), (isZs xs).h W (fun b => b < W.heap.size) v := by
  obtain ⟨a0, n0, c0, rfl⟩ := okWide_slice hT hv
  obtain ⟨fuel, hf⟩ := h
  obtain ⟨fs, hue, hsz, hget⟩ := fsB_spec hfs
  obtain ⟨f0, g0, rfl, e0⟩ := hget 0 tb 0 rfl
  obtain ⟨f1, g1, rfl, e1⟩ := hget 1 ts 1 rfl
  have hfs2 : fs = #[f0, f1] := by
    apply Array.ext'
    have hl : fs.toList.length = 2 := by simpa using hsz
    match hq : fs.toList, hl with
    | [p, q], _ =>
      have a0 : fs.toList[0]? = some f0 := by simpa using g0
      have a1 : fs.toList[1]? = some f1 := by simpa using g1
      rw [hq] at a0 a1
      simp at a0 a1
      rw [a0, a1]
  subst hfs2
  rcases Deep.open_slice_pairs hT hue hce e0 e1 hcb hcs hf with ⟨h1, _⟩ | ⟨a, len, cap, m, n, V0, V1, D0, D1, P0, P1, h1, _, hlc, hcm, hm, hx, hel⟩
  · have e : Value.slice a0 n0 c0 = .slice none 0 0 := by simpa [Value.cells] using h1
    rw [e]; exact ⟨[], nilK⟩
  · have e : Value.slice a0 n0 c0 = .slice (some a) len cap := by simpa [Value.cells] using h1
    rw [e]
    simp only [if_true] at hm
    subst m
    have hps' : ∀ i, i < cap → ∀ y ∈ P1 i, y.block < W.heap.size := fun i hi y hy => hps y (by
      have := (Prod.mk.inj hx).2
      rw [this]
      exact List.mem_append_right _ (List.mem_flatMap.2 ⟨i, List.mem_range.2 hi, List.mem_append_right _ hy⟩))
    obtain ⟨l, hl, hgl⟩ := list_of_get (p := fun i (x : Bool × List Nat) => V0 i = .bool x.1 ∧ (isWords x.2).h W (fun b => b < W.heap.size) (V1 i)) len (fun i hi => by
      obtain ⟨_, _, q0, q1⟩ := hel i (by omega)
      obtain ⟨b, hb, _⟩ := DataW.trod_bool hub q0
      obtain ⟨v, ws, hv1, hw⟩ := rd_row hu hu' hc word_of q1 (hps' i (by omega))
      obtain rfl : V1 i = v := by simpa using hv1
      exact ⟨(b, ws), by simpa using hb, hw⟩)
    refine ⟨l, some a, cap, by rw [hl], by rw [hl]; exact hlc, hcm, flat_len zc_len l, ?_⟩
    rcases Nat.eq_zero_or_pos len with h0 | h0
    · exact .inl (by omega)
    · have hc0 := (hel 0 (by omega)).1
      have hs : a.spot = none := by
        cases hsp : a.spot with
        | none => rfl
        | some s =>
          simp only [Addr.add, Nat.zero_mul, if_true] at hc0
          unfold World.cell? at hc0
          rw [hsp] at hc0
          split at hc0 <;> simp at hc0
      obtain ⟨b, off, sp⟩ := a
      simp only at hs
      subst hs
      right
      refine ⟨b, off, rfl, ?_, (List.range len).flatMap (fun i => [V0 i, V1 i]), ?_, fun j u hj => ?_⟩
      · have : MemPlace.cell b (off + 0) ∈ ps := by
          have := (Prod.mk.inj hx).2
          rw [this]
          exact List.mem_append_left _ (List.mem_map.2 ⟨0, by simp; omega, rfl⟩)
        exact hps _ this
      · have hlen2 : ((List.range len).flatMap fun i => [V0 i, V1 i]).length = len * 2 := by
          have := flat_len (fk := fun (i : Nat) => [isB true, isB true]) (k := 2) (fun _ => rfl) (List.range len)
          rw [List.length_flatMap] at this ⊢
          simpa using this
        refine all2_of_get (by rw [flat_len zc_len, hlen2, hl]) (fun j S v hS hv => ?_)
        have hz := pair_get (fun p : Bool × List Nat => isB p.1) (fun p => isWords p.2) l j
        rw [show (l.flatMap fun a => [isB a.1, isWords a.2]) = l.flatMap zc from rfl, hS] at hz
        have hw := pair_get V0 V1 (List.range len) j
        rw [hv] at hw
        have hj : j / 2 < l.length := by
          rcases Nat.lt_or_ge (j / 2) l.length with h | h
          · exact h
          · rw [List.getElem?_eq_none h] at hz; cases hz
        rw [List.getElem?_eq_getElem hj] at hz
        rw [List.getElem?_range (by omega)] at hw
        simp only [Option.map_some, Option.some.injEq] at hz hw
        obtain ⟨k1, k2⟩ := hgl (j / 2) hj
        subst hz; subst hw
        by_cases hp : j % 2 = 0
        · rw [if_pos hp, if_pos hp, k1]; rfl
        · rw [if_neg hp, if_neg hp]; exact k2
      · have hw := pair_get V0 V1 (List.range len) j
        rw [hj] at hw
        have hjl : j / 2 < len := by
          rcases Nat.lt_or_ge (j / 2) len with h | h
          · exact h
          · rw [List.getElem?_eq_none (by simpa using h)] at hw; cases hw
        rw [List.getElem?_range hjl] at hw
        simp only [Option.map_some, Option.some.injEq] at hw
        obtain ⟨q0, q1, _, _⟩ := hel (j / 2) (by omega)
        rw [add_mk] at q0
        rw [add_mk] at q1
        by_cases hp : j % 2 = 0
        · rw [if_pos hp] at hw; subst hw
          rw [show off + j = off + j / 2 * 2 by omega]; exact q0
        · rw [if_neg hp] at hw; subst hw
          rw [show off + j = off + (j / 2 * 2 + 1) by omega]; exact q1
end
end Go.En
namespace Go.En
open Go.RowKit Go.ChangeShapes Go.WideShapes Go.ChangeAt
section
variable {H : Type} {enc : TypeId × Value → H} {P : Program}
theorem rd_Zs {W : World} {T e tb ts T' : TypeId} {fuel : Nat} {cs : List Value} {x : DataW H × List MemPlace} (hT : P.underlying T = some (.slice e)) (hfs : fsB P e = some [(tb, 0), (ts, 1)]) (hub : P.underlying tb = some .bool) (hu : P.underlying ts = some (.slice T')) (hu' : P.underlying T' = some (.int .u64)) (hc : P.cellsOf T' = 1) (hcb : P.cellsOf tb = 1) (hcs : P.cellsOf ts = 1) (hce : P.cellsOf e = 2)
    (hf : DataW.trod enc P W 0 (fun _ => true) true fuel T cs = some x) (hps : ∀ y ∈ x.2, y.block < W.heap.size) : ∃ (v : Value) (xs : List (Bool × List Nat)), cs = [v] ∧ (isZs xs).h W (fun b => b < W.heap.size) v := by
  obtain ⟨d, ps⟩ := x
  obtain ⟨fs, hue, hsz, hget⟩ := fsB_spec hfs
  obtain ⟨f0, g0, rfl, e0⟩ := hget 0 tb 0 rfl
  obtain ⟨f1, g1, rfl, e1⟩ := hget 1 ts 1 rfl
  have hfs2 : fs = #[f0, f1] := by
    apply Array.ext'
    have hl : fs.toList.length = 2 := by simpa using hsz
    match hq : fs.toList, hl with
    | [p, q], _ =>
      have a0 : fs.toList[0]? = some f0 := by simpa using g0
      have a1 : fs.toList[1]? = some f1 := by simpa using g1
      rw [hq] at a0 a1
      simp at a0 a1
      rw [a0, a1]
  subst hfs2
  rcases Deep.open_slice_pairs hT hue hce e0 e1 hcb hcs hf with ⟨h1, _⟩ | ⟨a, len, cap, m, n, V0, V1, D0, D1, P0, P1, h1, _, hlc, hcm, hm, hx, hel⟩
  · exact ⟨_, [], h1, nilK⟩
  · simp only [if_true] at hm
    subst m
    have hps' : ∀ i, i < cap → ∀ y ∈ P1 i, y.block < W.heap.size := fun i hi y hy => hps y (by
      have := (Prod.mk.inj hx).2
      rw [this]
      exact List.mem_append_right _ (List.mem_flatMap.2 ⟨i, List.mem_range.2 hi, List.mem_append_right _ hy⟩))
    obtain ⟨l, hl, hgl⟩ := list_of_get (p := fun i (x : Bool × List Nat) => V0 i = .bool x.1 ∧ (isWords x.2).h W (fun b => b < W.heap.size) (V1 i)) len (fun i hi => by
      obtain ⟨_, _, q0, q1⟩ := hel i (by omega)
      obtain ⟨b, hb, _⟩ := DataW.trod_bool hub q0
      obtain ⟨v, ws, hv1, hw⟩ := rd_row hu hu' hc word_of q1 (hps' i (by omega))
      obtain rfl : V1 i = v := by simpa using hv1
      exact ⟨(b, ws), by simpa using hb, hw⟩)
    refine ⟨_, l, h1, some a, cap, by rw [hl], by rw [hl]; exact hlc, hcm, flat_len zc_len l, ?_⟩
    rcases Nat.eq_zero_or_pos len with h0 | h0
    · exact .inl (by omega)
    · have hc0 := (hel 0 (by omega)).1
      have hs : a.spot = none := by
        cases hsp : a.spot with
        | none => rfl
        | some s =>
          simp only [Addr.add, Nat.zero_mul, if_true] at hc0
          unfold World.cell? at hc0
          rw [hsp] at hc0
          split at hc0 <;> simp at hc0
      obtain ⟨b, off, sp⟩ := a
      simp only at hs
      subst hs
      right
      refine ⟨b, off, rfl, ?_, (List.range len).flatMap (fun i => [V0 i, V1 i]), ?_, fun j u hj => ?_⟩
      · have : MemPlace.cell b (off + 0) ∈ ps := by
          have := (Prod.mk.inj hx).2
          rw [this]
          exact List.mem_append_left _ (List.mem_map.2 ⟨0, by simp; omega, rfl⟩)
        exact hps _ this
      · have hlen2 : ((List.range len).flatMap fun i => [V0 i, V1 i]).length = len * 2 := by
          have := flat_len (fk := fun (i : Nat) => [isB true, isB true]) (k := 2) (fun _ => rfl) (List.range len)
          rw [List.length_flatMap] at this ⊢
          simpa using this
        refine all2_of_get (by rw [flat_len zc_len, hlen2, hl]) (fun j S v hS hv => ?_)
        have hz := pair_get (fun p : Bool × List Nat => isB p.1) (fun p => isWords p.2) l j
        rw [show (l.flatMap fun a => [isB a.1, isWords a.2]) = l.flatMap zc from rfl, hS] at hz
        have hw := pair_get V0 V1 (List.range len) j
        rw [hv] at hw
        have hj : j / 2 < l.length := by
          rcases Nat.lt_or_ge (j / 2) l.length with h | h
          · exact h
          · rw [List.getElem?_eq_none h] at hz; cases hz
        rw [List.getElem?_eq_getElem hj] at hz
        rw [List.getElem?_range (by omega)] at hw
        simp only [Option.map_some, Option.some.injEq] at hz hw
        obtain ⟨k1, k2⟩ := hgl (j / 2) hj
        subst hz; subst hw
        by_cases hp : j % 2 = 0
        · rw [if_pos hp, if_pos hp, k1]; rfl
        · rw [if_neg hp, if_neg hp]; exact k2
      · have hw := pair_get V0 V1 (List.range len) j
        rw [hj] at hw
        have hjl : j / 2 < len := by
          rcases Nat.lt_or_ge (j / 2) len with h | h
          · exact h
          · rw [List.getElem?_eq_none (by simpa using h)] at hw; cases hw
        rw [List.getElem?_range hjl] at hw
        simp only [Option.map_some, Option.some.injEq] at hw
        obtain ⟨q0, q1, _, _⟩ := hel (j / 2) (by omega)
        rw [add_mk] at q0
        rw [add_mk] at q1
        by_cases hp : j % 2 = 0
        · rw [if_pos hp] at hw; subst hw
          rw [show off + j = off + j / 2 * 2 by omega]; exact q0
        · rw [if_neg hp] at hw; subst hw
          rw [show off + j = off + (j / 2 * 2 + 1) by omega]; exact q1
theorem open_M {W : World} {base : Nat} {T ti tm e tb ts T' : TypeId} {v : Value} {d : DataW H} {ps : List MemPlace} (hfM : fsB P T = some [(ti, 0), (ti, 1), (tm, 2)]) (hui : P.underlying ti = some (.int .i64)) (hT : P.underlying tm = some (.slice e)) (hfs : fsB P e = some [(tb, 0), (ts, 1)]) (hub : P.underlying tb = some .bool) (hu : P.underlying ts = some (.slice T')) (hu' : P.underlying T' = some (.int .u64)) (hc : P.cellsOf T' = 1) (hcb : P.cellsOf tb = 1) (hcs : P.cellsOf ts = 1) (hce : P.cellsOf e = 2)
    (hci : P.cellsOf ti = 1) (hcm : P.cellsOf tm = 1) (hcT : P.cellsOf T = 3) (hv : Value.okWide P W .any base T v) (h : DataW.Trod enc P W 0 (fun _ => true) true T v d ps) (hps : ∀ x ∈ ps, x.block < W.heap.size) : ∃ x : Int × Int × List (Bool × List Nat), (isM x.1 x.2.1 x.2.2).h W (fun b => b < W.heap.size) v := by
  obtain ⟨fs, huT, hsz, hget⟩ := fsB_spec hfM
  have hv' := hv
  simp only [Value.okWide, huT] at hv'
  obtain ⟨cs, rfl, _, _⟩ := hv'
  obtain ⟨fuel, hf⟩ := h
  obtain ⟨xs, m, _, hx, hl, hxl, hfe⟩ := DataW.trod_struct huT hf
  simp [Value.cells] at hl hx
  obtain ⟨f0, g0, rfl, e0⟩ := hget 0 ti 0 rfl
  obtain ⟨f1, g1, k1, e1⟩ := hget 1 _ 1 rfl
  obtain ⟨f2, g2, rfl, e2⟩ := hget 2 tm 2 rfl
  have h0 := hfe 0 f0 g0
  have h1 := hfe 1 f1 g1
  have h2 := hfe 2 f2 g2
  rw [List.getElem?_eq_getElem (by rw [hxl, hsz]; simp)] at h0 h1 h2
  rw [e0, hci] at h0
  rw [e1, k1, hci] at h1
  rw [e2, hcm] at h2
  obtain ⟨r, hr, hr1, hr2⟩ := rd_I hui h0
  obtain ⟨c, hc1, hc2, hc3⟩ := rd_I hui h1
  obtain ⟨u, ws, hu1, hw⟩ := rd_Zs hT hfs hub hu hu' hc hcb hcs hce h2 (fun y hy => hps y (by
    rw [hx.2]
    exact List.mem_flatMap.2 ⟨_, List.getElem_mem _, hy⟩))
  refine ⟨(r, c, ws), cs.toList, by simp, ?_⟩
  have hcs2 : cs.toList = [.int .i64 r, .int .i64 c, u] := by
    have hlen : cs.toList.length = 3 := by rw [← hcT]; simpa using hl
    match hq : cs.toList, hlen with
    | [p, q, t], _ =>
      have a1 : [p] = [Value.int .i64 r] := by have := hr; simpa [Value.cells, hq] using this
      have a2 : [q] = [Value.int .i64 c] := by have := hc1; simpa [Value.cells, hq] using this
      have a3 : [t] = [u] := by have := hu1; simpa [Value.cells, hq] using this
      rw [List.cons.inj a1 |>.1, List.cons.inj a2 |>.1, List.cons.inj a3 |>.1]
  rw [hcs2]
  exact ⟨⟨rfl, hr1, hr2⟩, ⟨rfl, hc2, hc3⟩, hw, trivial⟩
end
end Go.En
namespace Go.Proofs.YthkdmhaafanjlaaGreat
open Go.En Go.RowKit
set_option maxRecDepth 10000
open Go.ChangeShapes
open Go.WideShapes
open Go.ChangeAt
open Go.Nt
open Go.Pz
open Go.Mz
theorem opens_ModhnfInserts : Opens Tryz.prog Tryz.f3 3 := by
 intro H enc W base args ds ps hval hA hlt
 rw [Tryz.params3] at hA hval
 obtain ⟨v0, vs0, d0, ds0, p0, q0, hargs, rfl, rfl, h0, r0⟩ := trodAll_cons hA
 obtain ⟨v1, vs1, d1, ds1, p1, q1, rfl, rfl, rfl, h1, r1⟩ := trodAll_cons r0
 obtain ⟨rfl, rfl, rfl⟩ := trodAll_nil r1
 obtain rfl : args = #[v0, v1] := by cases args; simp_all
 obtain ⟨x0, o0⟩ := open_M fs24 un3 un22 fs31 un4 un29 un39 (by kernel_rfl) (by kernel_rfl) (by kernel_rfl) (by kernel_rfl) (by kernel_rfl) (by kernel_rfl) (by kernel_rfl) (hval 0 24 v0 rfl rfl) h0 (fun x hx => hlt x (by simp [hx]))
 obtain ⟨x1, o1⟩ := open_Zs un22 fs31 un4 un29 un39 (by kernel_rfl) (by kernel_rfl) (by kernel_rfl) (by kernel_rfl) (hval 1 22 v1 rfl rfl) h1 (fun x hx => hlt x (by simp [hx]))
 refine ⟨_, ?_, c_ModhnfInserts x0.1 x0.2.1 x0.2.2 x1⟩
 exact ⟨o0, o1, trivial⟩
theorem jn_ModhnfInserts : Tryz.pinned.checked.prog.funcNamed Rows.modhnfInsertsRow.func = some 3 := by kernel_rfl
theorem jf_ModhnfInserts : joinedFacts Tryz.pinned.checked.prog 3 Tryz.f3 Rows.modhnfInsertsSpec Rows.modhnfInsertsRow = true := by kernel_rfl
theorem jl_ModhnfInserts : laidOutB Tryz.checked.prog = true := by kernel_rfl
theorem modhnfInserts_said : Rows.ModhnfInsertsSaid :=
 OpenClaim.holds_of_wide 3 Tryz.f3 rfl rfl rfl rfl rfl rfl rfl ⟨rfl, rfl, rfl, rfl, rfl⟩ rfl rfl rfl rfl rfl jn_ModhnfInserts Tryz.func3 jf_ModhnfInserts
  (of_decide_eq_true (by kernel_rfl)) (by unfold Func.isWrapper; first | (rw [if_pos (by decide +kernel)]; kernel_rfl) | (rw [if_neg (by decide +kernel)]; exact ⟨rfl, rfl⟩))
  (fun os started H enc _ => lift_law (C := Tryz.checked) (s := Rows.modhnfInsertsSpec) (by kernel_rfl) started (by kernel_rfl) Tryz.func3
   (ChangeSpec.witness6 (enc := enc) (C := Tryz.checked) false ⟨#[], #[.agg #[.int .i64 0, .int .i64 0, .slice none 0 0], .slice none 0 0], []⟩ 8 (by kernel_rfl) (by kernel_rfl) (by kernel_rfl) (by kernel_rfl))
   jl_ModhnfInserts (by kernel_rfl) rfl rfl un4 (fun ds h => by match ds, h with | [d0, d1], _ => rfl) opens_ModhnfInserts)
#print axioms modhnfInserts_said
end Go.Proofs.YthkdmhaafanjlaaGreat
